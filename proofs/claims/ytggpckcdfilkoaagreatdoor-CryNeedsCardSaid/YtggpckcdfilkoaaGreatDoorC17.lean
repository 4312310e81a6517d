import Derived.Test.YtggpckcdfilkoaaGreatDoorC16
set_option linter.all false
set_option maxHeartbeats 2000000
set_option maxRecDepth 4000
namespace Go.Proofs.YtggpckcdfilkoaaGreatDoor
open Go.Proofs.Tryz hiding f0 f1 f10
section
open Go Go.bu
set_option maxRecDepth 100000
def S2{p:Prop}(h:p:=by intros;and_intros<;>as_aux_lemma=>kernel_rfl):=h
abbrev nn:Jl:=⟨137,138,174,175,205,207,162,163,176,161,204,206,220,221,223,224,226,298,241,21⟩
def GL:kX prog nn where
 e1:=S2
 e2:=S2
 e3:=S2
 e4:=S2
 e5:=S2
 e6:=S2
 e70:=S2
 Wi:=S2
 e72:=S2
 e8:=by intro a b o ν K aw sv it;cases K<;>cases aw<;>cases sv<;>kernel_rfl
 e9:=by intro a b o ν L K S aw sv it c d;cases L<;>cases K<;>cases S<;>cases aw<;>cases sv<;>first|exact absurd c be|exact absurd d be|kernel_rfl
 er:=S2
 acb:=by intro a b o ν n0 K aw sv it h;cases n0<;>cases K<;>cases aw<;>cases sv<;>first|exact absurd h be|kernel_rfl
 fh:=by intro a b o ν K aw sv it h;cases K<;>cases aw<;>cases sv<;>first|exact absurd h be|kernel_rfl
 iQ:=by intro a b o ν r it;cases r<;>kernel_rfl
 LV:=S2
 LW:=S2
 acd:=S2
 ace:=S2
 qC:=by intro a b o ν K aw sv it;cases K<;>kernel_rfl
 acf:=by intro a b o ν L K S aw sv it h;cases L<;>cases K<;>cases S<;>first|exact absurd h be|kernel_rfl
 acg:=by intro a b o ν L K S aw sv it h;cases L<;>cases K<;>cases S<;>first|exact absurd h be|kernel_rfl
 tZ:=S2
 BR:=S2
 ach:=S2
 aci:=S2
 qP:=by intro a b o ν x;cases x<;>kernel_rfl
 xn:=by intro a b o ν sv n1;cases sv<;>cases n1<;>kernel_rfl
 Ay:=by intro a b o ν L K sv;cases L<;>cases K<;>kernel_rfl
 yo:=S2
 BS:=S2
 NI:=S2
 O0:=S2
 u1:=S2
 u2:=S2
 u3:=S2
 u4:=S2
 u5:=by intro a b o ν n0 K h;cases n0<;>cases K<;>first|exact absurd h be|kernel_rfl
 u5g:=by intro a b o ν n0 K;cases n0<;>cases K<;>kernel_rfl
 u5c:=S2
 u6t:=S2
 u6f:=S2
 u7:=by intro a b o ν n0 L K S h;cases n0<;>cases L<;>cases K<;>cases S<;>first|exact absurd h be|kernel_rfl
 u7c:=S2
 u8:=S2
 u9:=S2
 u10:=S2
 o1:=S2
 o2:=S2
 o3:=S2
 o4:=S2
 o5:=S2
 o60:=S2
 o61:=S2
 o62:=S2
 o7:=S2
 o8:=S2
 o9:=S2
 o10:=S2
 o11:=S2
 o12:=S2
 o13:=S2
 o14:=S2
 o15:=S2
 o16:=S2
 o17:=S2
 o18:=S2
 o20:=S2
 o21:=S2
 o22:=S2
 o23:=S2
 o24:=S2
 o25:=S2
 o26:=S2
 o27:=S2
 o28:=S2
 o29:=S2
 p1:=S2
 p2:=S2
 p3:=S2
 p4:=S2
def MZ{p:Prop}(h:p:=by exact⟨_,rfl,rfl,rfl,rfl,rfl⟩):=h
def GM:kY prog nn where
 om:=MZ
 en:=MZ
 acq:=MZ
 rel:=MZ
 qe:=MZ
 add:=MZ
 OZ:=MZ
 AT:=MZ
 nano:=MZ
 Sg:=⟨_,rfl,rfl⟩
 LS:=MZ
 uV:=MZ
 tyI:=s8
 tyM:=⟨_,rfl,rfl,rfl⟩
 nS:=⟨_,rfl,rfl⟩
 nU:=⟨_,rfl,rfl⟩
 nV:=⟨_,rfl,rfl⟩
end
section
open Go.bu Go.Conc
variable{m:Mo}{σ:af}{KF:YC}
def iY(f:Fr)(x:Int):Bool:=decide (iS f (aB x)=0)
def qy(f:Fr)(l:FT):Prop:=∀n a,NB l n=some a->a=T0 (iY f n)
def Q8:RU prog 253 286 4 5 .u8:=.of s8 s8 s8 s8
def XZ  f   l :iS f l=0\/iS f l=1\/iS f l=2\/iS f l=3:=by unfold iS;omega
def Jr{f l}(h:iS f l≠0):∃d a,Q9 (iS f l)=.pH d a:=by
 rcases XZ f l with e|e|e|e
 . omega
 all_goals rw[e];exact⟨_,_,rfl⟩
def adG{f l x n a}(b:qy f l)(h:NB (l++[(x,T0 (iY f x))]) n=some a):a=T0 (iY f n):=by
 unfold NB gg at h;rw[List.find?_append]at h;cases e:l.find? (λp=>n==p.1)with
 |some p=>rw[e]at h;simp only[Option.some_or,IP,td]at h;subst h;exact b n p.2 (by unfold NB gg;rw[e];rfl)
 |none=>grind
def aam{b mb f x Un Ld}(j:TV prog m nn b 6 mb .u8 (qy f) Un Ld)(E:f.Good)(F:Wo f (aB x))(p:(aB x).length<20)(G:Un σ)(h:∀σ',Un σ'->vO b mb σ σ'->KF (.val (T0 (iY f x))) σ'):ar prog m 194 [qv b mb f 0,Ez x] σ KF:=by
 refine S0 ads func194 ?_;simp[f194];refine O1 func137 (j.lock (xC _ _ _ _) G λH l o q r A=>?_);apply rn;simp;refine aa.defer rfl rfl rfl rfl ap rfl ?_;apply rn;simp;refine Dj Ax (Q8.key Ax PJ rfl) rfl tt4 rfl rfl (j.map o) ?_;apply pg;simp
 have i:∀(ε:Env) (g:af) s,ε 4=T0 (iY f x)->Ld g s->qy f s->(∀c,c≠b->c≠mb->g c=σ c)->xT prog m (.func 138) [] [AV.kp b [kg f.ao,Cu f.roads,Xn f.bs,Xn f.fN,Xn f.dN,Xn f.bc,.lit (.int .i32 0),.lit (.int .u32 0),.map mb] [6,7] 6] .ret g (λt σ'=>Rf Ax m [ResultVar.tmp 4] ε (tO KF) [] t σ'):=λε g s I u v J=>by
  refine xT.func func138 rfl rfl (j.unlock (xC _ _ _ _) u v λw z K=>?_);refine⟨[ε 4],rfl,.done ?_⟩;rw[show oneOf [ε 4]=ε 4 from rfl,I];refine h w z λc y O L B=>?_
  grind
 cases k:gg l x with
 |some a=>have M:=q x a k;subst M;simp;apply rn;simp;exact i _ _ _ ap o q r
 | none=>
   simp;apply rn;simp;refine O1 func217 (T5 ?_);apply rn;simp;refine O1 func186 (Su E F p ?_);apply rn;simp;have C:decide (iS f (aB x)=0)=iY f x:=rfl;refine dP Ax rfl YU rfl (isNil:=iY f x) ?_ (.inl ⟨rfl,rfl⟩) ?_
   . by_cases D:iS f (aB x)=0
     . left
       refine⟨?_,aq⟩;simp[D];rfl
     . right
       obtain⟨d,a,e⟩:=Jr D
       simp_all
   apply rn;simp;refine xW (Q8.key Ax PJ rfl) rfl rfl rfl rfl (j.map o) k ?_;apply pg;simp;apply rn;simp;refine i _ _ _ ap (j.put o) (λn a N=>?_) (λc L B=>by rw[af.ah _ _ B];simp_all);exact adG q (by simpa using N)
def eu(f:Fr)(begun:RQ):Nat->RQ->Int->RQ->Wz
 |0,way,_,_=>[way]
 | fuel+1,way,many,a=>(List.range (min (many+1) f.bc).toNat).flatMap λk:Nat=>
    if way.length<begun.length/\begun.getD way.length 0≠(k:Int)then[]
    else if iY f (cM (a.getD k 0) way.length)=true then eu f begun fuel (way++[(k:Int)]) (max many ((k:Int)+1)) (a.set k (cM (a.getD k 0) way.length))else[]
def aG(f:Fr)(begun:RQ):Wz:=eu f begun f.ao.length [] 0 [0,0,0,0,0,0]
def Mv(b mb:Nat)(F a:ZA)(σ σ':af):Prop:=∀c x,σ c=some x -> ¬F c->c≠b->(c≠mb\/x.plain=true)->σ' c=some x/\¬a c
theorem Mv.refl  b mb   F   σ :Mv b mb F F σ σ:=λ_ _ h a _ _=>⟨h,a⟩
theorem Mv.trans{b mb F g d σ σ' a}(h:Mv b mb F g σ σ')(k:Mv b mb g d σ' a):Mv b mb F d σ a:=λc x i j e f=>k c x (h c x i j e f).1 (h c x i j e f).2 e f
structure Ll  m   y  (W:Wz) (I:Nat->ZA->FC) (E:ZA->FC):Prop where
 step:∀  k   F   σ   KF   hk ,I k F σ->(∀F' σ',Nz F F' σ σ'->I (k+1) F' σ'->KF (.val (T0 true)) σ')->(∀F' σ',Nz F F' σ σ'->E F' σ'->KF (.val (T0 false)) σ')->cQ prog m y [Ae W[k]] σ KF
 frame:∀  k   F   σ σ' ,(∀c,F c->σ' c=σ c)->I k F σ->I k F σ'
 aan:∀  F   σ σ' ,(∀c,F c->σ' c=σ c)->E F σ->E F σ'
 Wm:∀  k   F   σ   c ,I k F σ->F c->∃x,σ c=some x/\x.plain=true
def KO{b mb F a σ σ'}(h:Nz F a σ σ'):Mv b mb F a σ σ':=λc x d e _ _=>h c x e d
def wU{b mb GI Un Ld}(a:TV prog m nn b 6 mb .u8 GI Un Ld){d y}(c:Un σ)(hd:∀x,σ d=some x->x.plain=true):Un (σ.set d y):=a.un (by grind [af.ah]) c
def EA{b mb GI Un Ld}(d:TV prog m nn b 6 mb .u8 GI Un Ld){F e σ'}(f:Un σ)(g:Nz F e σ σ')(hd:∀c,F c->∃x,σ c=some x/\x.plain=true):Un σ':=
 d.un (λc _ ⟨x,a,i⟩=>by
  have h:¬F c:=am;rw[(g c x h a).1,a]) f
abbrev EB(a y:AV)(begun:RQ)(cp:Nat):AV:=.fn (.func 195) [] [.cp a 0,.cp y 0,.cp (Ae begun) 0,.ref cp 0]
abbrev cG(a:AV)(c4 cg:Nat):AV:=.fn (.func 191) [] [.ref c4 0,.cp a 0,.ref cg 0]
structure WS  b mb   f   y   begun   c4 cg cp  (hs:RQ) (F:ZA) (σ:af):Prop where
 arr:σ c4=some (.cells (hs.map u8))
 grw:σ cg=some (.cells [EB (qv b mb f 0) y begun cp])
 pt:σ cp=some (.cells [cG (qv b mb f 0) c4 cg])
 out:¬F c4/\¬F cg/\¬F cp
 ne:c4≠cg/\c4≠cp
def WS.mv{b mb f y begun c4 cg cp d F g σ σ'}(h:WS b mb f y begun c4 cg cp d F σ)(hb:∃x,σ b=some x/\x.plain=false)(a:Mv b mb F g σ σ'):WS b mb f y begun c4 cg cp d g σ':=by
 obtain⟨x,j,k⟩:=hb;have ne:∀c l,σ c=some (.cells l)->c≠b:=λc l i e=>by subst e;rw[j]at i;cases i;cases k
 obtain⟨m,n⟩:=a c4 _ h.arr h.out.1 (ne _ _ h.arr) (.inr rfl);obtain⟨o,p⟩:=a cg _ h.grw h.out.2.1 (ne _ _ h.grw) (.inr rfl);obtain⟨q,r⟩:=a cp _ h.pt h.out.2.2 (ne _ _ h.pt) (.inr rfl);exact⟨m,o,q,⟨n,p,r⟩,h.ne⟩
structure Hs(f:Fr)(n:Nat)(hs:RQ):Prop where
 jo:hs.length=6
 bits:∀x∈hs,∀e∈aB x,e<n
 small:∀x∈hs,0<=x/\x<64
section
variable{b mb:Nat}{f:Fr}{begun:RQ}{y:AV}{W:Wz}{I:Nat->ZA->FC}{E:ZA->FC}{Un:FC}{Ld:af->FT->Prop}{c4 cg cp:Nat}
def Zf(b mb:Nat)(Un:FC)(I:Nat->ZA->FC)(E:ZA->FC)(a n:Nat)(F:ZA)(σ:af)(KF:YC):Prop:=(∀d c,Mv b mb F d σ c->Un c->I (a+n) d c->KF (.val (T0 true)) c)/\(∀d c,Mv b mb F d σ c->Un c->E d c->KF (.val (T0 false)) c)
def UB(m:Mo)(b mb:Nat)(f:Fr)(begun:RQ)(y:AV)(W:Wz)(I:Nat->ZA->FC)(E:ZA->FC)(Un:FC)(c4 cg cp:Nat)(fuel:Nat):Prop:=
 ∀ (way:RQ) (many:Int) (a:RQ) (sp:tH) (F:ZA) (σ:af) (pre post:Wz) (KF:YC),way.length+fuel=f.ao.length->0<=many/\many<=6->Hs f way.length a->WS b mb f y begun c4 cg cp a F σ->Un σ ->
   W=pre++eu f begun fuel way many a++post->I pre.length F σ->Zf b mb Un I E pre.length (eu f begun fuel way many a).length F σ KF ->
   ar prog m 195 [.sl 1 (way.map Xn) sp,Xn many,.cp (qv b mb f 0) 0,.cp y 0,.cp (Ae begun) 0,.ref cp 0] σ KF
def X1:∀x:Fin 64,∀n:Fin 6,(0<=cM (x.val:Int) (n.val:Int)/\cM (x.val:Int) (n.val:Int)<64)/\(∀e∈aB (cM (x.val:Int) (n.val:Int)),e=(n.val:Int)\/e∈aB (x.val:Int))/\(n.val:Int)∈aB (cM (x.val:Int) (n.val:Int)):=v3
def A7{x}{n:Nat}(b:0<=x/\x<64)(a:n<6):(0<=cM x n/\cM x n<64)/\(∀e∈aB (cM x n),e=(n:Int)\/e∈aB x)/\(n:Int)∈aB (cM x n):=by
 have:=X1 ⟨x.toNat,ac⟩ ⟨n,a⟩
 grind
def UF{x e}(h:e∈aB x):0<=e/\e<6:=by
 unfold aB at h
 grind
theorem rO  x :(aB x).length<20:=by
 unfold aB
 grind
def Hs.set{n b}(h:Hs f n b)(d:n<6){k}  c :Hs f (n+1) (b.set k (cM b[k] n)):=by
 have g:=A7 (h.small _ (lb c)) d;refine⟨by rw[KU];exact h.jo,λx a e he=>?_,λx a=>?_⟩
 . rcases Mq a with a|rfl
   . have:=h.bits x a e he;omega
   . rcases g.2.1 e he with rfl|he
     . omega
     . have:=h.bits _ (lb c) e he;omega
 . rcases Mq a with a|rfl
   . exact h.small x a
   omega
def Hs.BZ{n a}(h:Hs f n a)(d:n<f.ao.length)(g:f.ao.length<=6){k}(b:k<a.length):Wo f (aB (cM a[k] n)):=by
 have c:=A7 (h.small _ (lb b)) (n:=n) ac;refine⟨λe he=>⟨(UF he).1,?_⟩,λq=>?_,by grind [rO]⟩
 . rcases c.2.1 e he with rfl|he
   . omega
   . have:=h.bits _ (lb b) e he;omega
 grind
def X2{d k x}{l:RQ}(f:k<6)(c:l.length=6)(hd:σ d=some (.cells [u8 x]))(e:σ c4=some (.cells (l.map u8)))(h:KF (.val (.cx [])) (σ.set c4 (.cells ((l.set k x).map u8)))):ar prog m 192 [.ref d 0,.ref c4 0,.cp (Xn k) 0] σ KF:=by
 have a:(k:Int)<6:=ac
 have b:k<=5:=ac
 refine S0 [] func192 ?_;simp[hd,e,a,c,b];rw[ahG aq,<-List.map_set];exact .done h
def aao(N : TV prog m nn b 6 mb .u8 (qy f) Un Ld)(hf:f.Good)(c5:begun.length<1152921504606846976)(Y:Ll m y W I E){fuel}(hG:UB m b mb f begun y W I E Un c4 cg cp fuel){way many k n sp F pre post}(hlen:way.length+(fuel+1)=f.ao.length)(b0:0<=many/\many<=6)(hk:k<6)
 (hh:Hs f way.length n) (w:WS b mb f y begun c4 cg cp n F σ) (hu:Un σ){L}(U:L=if iY f (cM (n.getD k 0) way.length)=true then eu f begun fuel (way++[(k:Int)]) (max many ((k:Int)+1)) (n.set k (cM (n.getD k 0) way.length))else[]) (hW:W=pre++L++post)
 (hI:I pre.length F σ) (hR:Zf b mb Un I E pre.length L.length F σ KF):ar prog m 191 [.sl 1 (way.map Xn) sp,Xn many,Xn k,.ref c4 0,.cp (qv b mb f 0) 0,.ref cg 0] σ KF:=by
 have h6:=hf.jo;have V:k<n.length:=by rw[hh.jo];exact hk
 have b1:n.getD k 0=n[k]:=aq
 rw[b1]at U;have X:(k:Int)<6:=ac
 have s:=w.arr;have al:=hh.jo;have Z:k<=5:=ac
 have e1:List.take 1 (List.drop k (List.map u8 n))=[u8 n[k]]:=by rw[<-List.map_drop,K5 V];rfl
 refine S0 adq func191 ?_
 simp[f191,s,X,al,Z,e1];refine bz.intro λd hd=>?_
 have d4:d≠c4:=λe=>aq
 have av:=vj d4;simp;refine aa.defer rfl rfl rfl rfl ap rfl ?_
 apply rn;simp[X];obtain⟨z,hz⟩:=S1 (cM n[k] way.length);obtain⟨i,O⟩:=S1 (n.set k z);have b2:k<i.length:=aq
 have ax:i[k]=z:=aq
 have e2:List.take 1 (List.drop k (List.map u8 i))=[u8 z]:=by rw[<-List.map_drop,K5 b2,ax];rfl
 have e3:aI (List.map u8 n) k [u8 z]=List.map u8 i:=aq
 have P:i.length=6:=aq
 refine O1 func193 (XW ac ?_)
 rw[<-hz];apply pg;simp[av,af.ah,s,al,Z,e3];apply rn;simp[X,P,Z,e2];have b3:way.length<6:=ac
 have b4:way.length<f.ao.length:=ac
 have b5:Wo f (aB z):=by rw[hz];exact hh.BZ b4 h6 V
 obtain⟨xb,b6,b7⟩:=N.unb hu;have cb:∀c l,σ c=some (.cells l)->c≠b:=λc l t e=>by subst e;rw[b6]at t;cases t;cases b7
 have db:d≠b:=λe=>aq
 have ay:Un ((σ.set d (.cells [u8 n[k]])).set c4 (.cells (i.map u8))):=wU N (wU N hu (λx A=>aq)) (λx A=>by rw[af.ah _ _ av,s]at A;cases A;rfl)
 have aC:((σ.set d (.cells [u8 n[k]])).set c4 (.cells (i.map u8))) c4=some (.cells (i.map u8)):=af.aj _ _ _;have aE:((σ.set d (.cells [u8 n[k]])).set c4 (.cells (i.map u8))) d=some (.cells [u8 n[k]]):=by rw[af.ah _ _ d4,af.aj]
 have H:∀c,c≠d->c≠c4->((σ.set d (.cells [u8 n[k]])).set c4 (.cells (i.map u8))) c=σ c:=λc r D=>by rw[af.ah _ _ D,af.ah _ _ r]
 have aF:¬F d:=λhF=>by
  obtain⟨x,A,_⟩:=Y.Wm _ _ _ _ hI hF
  simp_all
 have a7:I pre.length F ((σ.set d (.cells [u8 n[k]])).set c4 (.cells (i.map u8))):=Y.frame _ _ _ _ (λc t=>H c (λe=>aF (e ▸ t)) (λe=>w.out.1 (e ▸ t))) hI
 generalize (σ.set d (.cells [u8 n[k]])).set c4 (.cells (i.map u8))=c6 at ay aC aE H a7;refine O1 func194 (aam N hf b5 (rO _) ay λo aL p=>?_)
 have B:o c4=some (.cells (i.map u8)):=p _ _ aC (cb _ _ s) (.inr rfl);have a8:o d=some (.cells [u8 n[k]]):=p _ _ aE db (.inr rfl);have gd:cg≠d:=λe=>by have:=w.grw;simp_all
 have J:o cg=some (.cells [EB (qv b mb f 0) y begun cp]):=p _ _ (by rw[H cg gd (vj w.ne.1)];exact w.grw) (cb _ _ w.grw) (.inr rfl)
 have b8:i.set k n[k]=n:=aq
 have Q:∀(ε:Env) (j:af) (v:Bool),ε 9=T0 v->j d=some (.cells [u8 n[k]])->j c4=some (.cells (i.map u8))->KF (.val (T0 v)) (j.set c4 (.cells (n.map u8)))->xT prog m (.func 192) [.ref d 0,.ref c4 0,.cp (Xn k) 0] [] .ret j (λb9 g=>Rf Ax m [ResultVar.tmp 9] ε (tO KF) [] b9 g):=λε j v he bm bq hK=>by
  refine xT.func func192 rfl rfl (X2 hk P bm bq ?_);refine⟨[ε 9],rfl,.done ?_⟩
  simp_all
 have aO:Mv b mb F F σ (o.set c4 (.cells (n.map u8))):=λc x r D K h4=>by
  refine⟨?_,D⟩
  by_cases e:c=c4
  . simp_all
  . have e':c≠d:=λe'=>aq
    rw[af.ah _ _ e];exact p c x aq K h4
 have a9:I pre.length F o:=Y.frame _ _ _ _ (λc t=>by
  obtain⟨x,r,D⟩:=Y.Wm _ _ _ _ a7 t
  have br:c≠b:=λe=>am
  rw[r];exact p c x r br (.inr D)) a7
 rw[<-hz,<-O]at U;cases R:iY f z with
 | false=>
   rw[R]at U;simp only[zA,LK]at U;subst U;apply pg;simp
   repeat' apply And.intro
   all_goals
    apply rn;simp;refine Q _ o true ap a8 B (hR.1 F _ aO (wU N aL (λx A=>by rw[B]at A;cases A;rfl)) ?_)
    exact Y.frame _ _ _ _ (λc t=>af.ah _ _ (λe=>w.out.1 (e ▸ t))) a9
 | true=>
   rw[R,wS rfl]at U
   have ab:∀(j:af) (C:tH) (M:YC),o.Le j->(∀(v:Bool) g,g d=some (.cells [u8 n[k]])->g c4=some (.cells (i.map u8))->KF (.val (T0 v)) (g.set c4 (.cells (n.map u8)))->M (.val (T0 v)) g) ->
    ar prog m 195 [.sl 1 ((way++[(k:Int)]).map Xn) C,Xn (max many ((k:Int)+1)),.cp (qv b mb f 0) 0,.cp y 0,.cp (Ae begun) 0,.ref cp 0] j M:=λj C M q hK=>by
    have bw:o cp=some (.cells [cG (qv b mb f 0) c4 cg]):=by
     have pd:cp≠d:=λe=>by have:=w.pt;simp_all
     exact p _ _ (by rw[H cp pd (vj w.ne.2)];exact w.pt) (cb _ _ w.pt) (.inr rfl)
    have bx:Un j:=N.un (λc _ ⟨x,r,_⟩=>by rw[r];exact q _ _ r) aL
    have bA:WS b mb f y begun c4 cg cp i F j:=⟨q _ _ B,q _ _ J,q _ _ bw,w.out,w.ne⟩
    have bB:I pre.length F j:=Y.frame _ _ _ _ (λc t=>by obtain⟨x,r,_⟩:=Y.Wm _ _ _ _ a9 t;rw[r];exact q _ _ r) a9
    have S:∀(u:ZA) (g:af),Mv b mb F u j g->Mv b mb F u σ (g.set c4 (.cells (n.map u8))):=λu g hm c x r D K h4=>by
     by_cases e:c=c4
     . subst e
       obtain⟨q1,T⟩:=hm c _ (q _ _ B) D K (.inr rfl)
       simp_all
     . have e':c≠d:=λe'=>aq
       rw[af.ah _ _ e];exact hm c x (q _ _ (p c x aq K h4)) D K h4
    have Lt:∀(u:ZA) (g:af),Mv b mb F u j g->g d=some (.cells [u8 n[k]])/\(g c4=some (.cells (i.map u8))/\¬u c4):=λu g hm=>⟨(hm d _ (q _ _ a8) aF db (.inr rfl)).1,hm c4 _ (q _ _ B) w.out.1 (cb _ _ s) (.inr rfl)⟩
    subst U;refine hG _ _ _ _ F j pre post M F2 ac (by rw[zR,O,hz];exact hh.set b3 V) bA bx hW bB ⟨λu g r D K=>?_,λu g r D K=>?_⟩
    . obtain⟨q1,T,q3⟩:=Lt u g r
      exact hK true g q1 T (hR.1 u _ (S u g r) (wU N D (λx A=>by rw[T]at A;cases A;rfl)) (Y.frame _ _ _ _ (λc t=>af.ah _ _ (λe=>q3 (e ▸ t))) K))
    . obtain⟨q1,T,q3⟩:=Lt u g r
      exact hK false g q1 T (hR.2 u _ (S u g r) (wU N D (λx A=>by rw[T]at A;cases A;rfl)) (Y.aan _ _ _ (λc t=>af.ah _ _ (λe=>q3 (e ▸ t))) K))
   have k1:=M1 ((k:Int)+1)
   have G:(if many<(k:Int)+1 then(k:Int)+1 else many)=max many ((k:Int)+1):=ac
   apply pg;simp[J,k1.1,k1.2,G]
   repeat' (first
             |apply And.intro
             | (refine pN Ax rfl bX rfl nM (es:=way.map Xn) (sp:=sp) (l:=0) (h:=way.length) ap (λcap aW=>⟨⟨⟨.i64,ap⟩,by simpa using aW⟩,⟨⟨.i64,ap⟩,AK _⟩,rfl⟩) ap λa ha=>?_
                have bC:Tok o o a 1 (way.map Xn):=by
                 rcases ha with rfl|⟨e,rfl⟩
                 . have:List.take (way.length-0) (List.drop 0 (way.map Xn))=way.map Xn:=by rw[IB,IL ap]
                   rw[this];exact .exact _ _ _
                 . rw[e];exact .nil _ _
                clear ha;apply pg;simp[B,a8,J,k1.1,k1.2,G])
             | (refine aP Ax rfl rfl rfl bX rfl bX rfl nM be F2 (σ0:=o) (es:=way.map Xn) (xs:=[Xn k]) (by simpa using bC) (.inr ⟨_,by simp;rfl⟩) λa' j ad=>?_
                obtain⟨C,rfl⟩:∃C,a'=.sl 1 (way.map Xn++[Xn k]) C:=by
                 rcases ad.2 with⟨_,e⟩|e|⟨_,_,_,e,_⟩
                 . simp at e
                 . exact⟨_,e⟩
                 . exact⟨_,e⟩
                have bE:=ad.1 _ _ J;apply pg;simp[bE,k1.1,k1.2,G])
             | (refine fS func195 rfl rfl ap (ab j C _ ad.1 λv g q1 T q3=>?_)
                apply pg;simp;apply rn;simp;exact Q _ _ v ap q1 T q3))
def nH(f:Fr)(begun:RQ)(fuel:Nat)(way:RQ)(many:Int)(a:RQ)(k:Nat):Wz:=
 if way.length<begun.length/\begun.getD way.length 0≠(k:Int)then[]
 else if iY f (cM (a.getD k 0) way.length)=true then eu f begun fuel (way++[(k:Int)]) (max many ((k:Int)+1)) (a.set k (cM (a.getD k 0) way.length))else[]
def iT  f   begun   fuel   way   many   a :eu f begun (fuel+1) way many a=(List.range (min (many+1) f.bc).toNat).flatMap (nH f begun fuel way many a):=rfl
def aiP(K:Nat->Wz){k cnt}(h:k<cnt):∃μ,(List.range cnt).flatMap K=(List.range k).flatMap K++(K k++μ):=by
 obtain⟨n,rfl⟩:∃n,cnt=k+1+n:=⟨cnt-(k+1),ac⟩;induction n with
 |zero=>exact⟨[],by rw[Nat.add_zero,zU,Fe];simp⟩
 |succ n a=>grind [List.range_succ]
def X3(O:TV prog m nn b 6 mb .u8 (qy f) Un Ld)(Q:f.Good)(R:begun.length<1152921504606846976)(Y:Ll m y W I E)(S:y.cells=[y]):∀fuel ,UB m b mb f begun y W I E Un c4 cg cp fuel:=by
 have h6:=Q.jo;have a9:=Q.bc;intro fuel
 induction fuel with
 | zero=>
   intro way many g sp F σ pre post KF hlen j hh T C D G t;have U:(way.length:Int)=f.ao.length:=ac
   refine S0 [] func195 ?_
   simp[f195,U,S];have hk:pre.length<W.length:=by rw[D];simp[eu]
   have V:W[pre.length]=way:=by subst D;simp[eu]
   refine cQ.weaken (args':=[Ae way]) ?_ ⟨eo 1 _ sp,trivial⟩;rw[<-V];refine Y.step pre.length F σ _ hk G (λp d l w=>?_) (λp d l w=>?_)
   . apply rn
     simp;exact .done (t.1 p d (KO l) (EA O C l (λc X=>Y.Wm _ _ _ c G X)) w)
   . apply rn
     simp;exact .done (t.2 p d (KO l) (EA O C l (λc X=>Y.Wm _ _ _ c G X)) w)
 | succ fuel Z=>
   intro way many g sp F σ pre post KF hlen j hh T C D G t;have U:((way.length:Int)==f.ao.length)=false:=am
   have ab:=T.pt;rw[iT]at D t;obtain⟨cnt,H⟩:=S1 ((min (many+1) f.bc).toNat:Nat);rw[<-H]at D t;have J:(if f.bc<many+1 then f.bc else many+1)=(cnt:Int):=ac
   have ad:cnt<=6:=ac
   have m1:=M1 (many+1)
   refine S0 [] func195 ?_
   simp[f195,U,m1.1,m1.2,J];refine aa.loop cnt (λk s=>∃ε d p,s=⟨ε,d,[],.no⟩/\ε 0=.sl 1 (way.map Xn) sp/\ε 1=Xn many/\ε 2=.cp (qv b mb f 0) 0/\ε 4=.cp (Ae begun) 0/\ε 5=.ref cp 0/\ε 29=Xn cnt/\ε 30=Xn k/\Mv b mb F p σ d/\Un d/\I (pre.length+((List.range k).flatMap (nH f begun fuel way many g)).length) p d) ⟨_,_,F,rfl,ap,ap,ap,ap,ap,ap,ap,Mv.refl b mb F σ,C,G⟩ ?_
   rintro c0 k _ hk ⟨ε,d,p,rfl,A,l,w,B,K,e,h,n,x,a7⟩ ih
   rcases za k cnt with g1|g1
   . have L:=T.mv (O.unb C) n
     have u:=L.pt;obtain⟨μ,P⟩:=aiP (nH f begun fuel way many g) g1
     have a8:((List.range (k+1)).flatMap (nH f begun fuel way many g)).length=((List.range k).flatMap (nH f begun fuel way many g)).length+(nH f begun fuel way many g k).length:=by rw[zU,Fe,zR];simp
     by_cases g2:way.length<begun.length/\begun.getD way.length 0≠(k:Int)
     . have hK:nH f begun fuel way many g k=[]:=wS g2
       have e1:begun.getD way.length 0=begun[way.length]:=am
       have e2:(begun[way.length] !=(k:Int))=true:=am
       apply rn;simp[A,B,e,h,g1,g2.1,e2];refine⟨ac,ih _ g1 ⟨_,_,p,rfl,by simp[A],by simp[l],by simp[w],by simp[B],by simp[K],by simp[e],ap,n,x,?_⟩⟩
       grind
     . have hK:nH f begun fuel way many g k=if iY f (cM (g.getD k 0) way.length)=true then eu f begun fuel (way++[(k:Int)]) (max many ((k:Int)+1)) (g.set k (cM (g.getD k 0) way.length))else[]:=wN g2
       have o:∀z:YC,(∀(v:Bool) a i,Mv b mb F i σ a->Un a->(v=true->I (pre.length+((List.range (k+1)).flatMap (nH f begun fuel way many g)).length) i a)->(v=false->E i a)->z (.val (T0 v)) a)->ar prog m 191 [.sl 1 (way.map Xn) sp,Xn many,Xn k,.ref c4 0,.cp (qv b mb f 0) 0,.ref cg 0] d z:=λz M=>by
        refine aao O Q R Y Z (pre:=pre++(List.range k).flatMap (nH f begun fuel way many g)) (post:=μ++post) hlen j ac hh L x hK am am ⟨λi a q r N=>?_,λi a q r N=>?_⟩
        . refine M true a i (n.trans q) r (λ_=>?_) am
          grind
        . exact M false a i (n.trans q) r am am
       by_cases g3:way.length<begun.length
       . have e1:begun.getD way.length 0=begun[way.length]:=am
         have e2:(begun[way.length] !=(k:Int))=false:=am
         apply rn;simp[A,l,B,K,e,h,g1,g3,e2,u];refine fS func191 rfl rfl ap (o _ λv a i q r N q4=>?_)
         cases v
         . apply rn
           simp;exact .done (t.2 i a q r (q4 rfl))
         . apply rn
           simp[h];refine⟨ac,ih _ g1 ⟨_,_,i,rfl,?_,?_,?_,?_,?_,?_,?_,q,r,N rfl⟩⟩<;>simp[A,l,w,B,K,e]
       . apply rn
         simp[A,l,B,K,e,h,g1,g3,u];refine fS func191 rfl rfl ap (o _ λv a i q r N q4=>?_)
         cases v
         . apply rn
           simp;exact .done (t.2 i a q r (q4 rfl))
         . apply rn
           simp[h];refine⟨ac,ih _ g1 ⟨_,_,i,rfl,?_,?_,?_,?_,?_,?_,?_,q,r,N rfl⟩⟩<;>simp[A,l,w,B,K,e]
   . have:k=cnt:=ac
     subst this;apply rn;simp[e,h];exact .done (t.1 p d n x a7)
def Ir{sp}(h:KF (.val (.fn (.func 190) [] [.cp (qv b mb f 0) 0,.cp (.sl 1 (begun.map Xn) sp) 0])) σ):ar prog m 158 [qv b mb f 0,.sl 1 (begun.map Xn) sp] σ KF:=by
 refine S0 [] func158 ?_;simp[f158];exact .done h
def xO  f :Hs f 0 [0,0,0,0,0,0]:=by
 refine⟨rfl,λx a e b=>?_,λx a=>?_⟩
 . have hb:aB 0=[]:=v3
   simp_all
 simp_all
def Mv.le{F d σ0 σ'}(h:Mv b mb F d σ σ')(a:σ0.Le σ):Mv b mb F d σ0 σ':=λc x e f g i=>h c x (a c x e) f g i
def EC(r:TV prog m nn b 6 mb .u8 (qy f) Un Ld)(w:f.Good)(j:begun.length<1152921504606846976)(Y:Ll m y (aG f begun) I E)(d:y.cells=[y]/\y.flat=true){F}(z:Un σ)(k:I 0 F σ)
 (h:∀e σ',Mv b mb F e σ σ'->Un σ'->(I (aG f begun).length e σ'\/E e σ')->KF (.val (.cx [])) σ'):ar prog m 190 [y,.cp (qv b mb f 0) 0,.cp (Ae begun) 0] σ KF:=by
 refine S0 [] func190 ?_;simp[f190,d.1,d.2];refine bz.intro λc4 A=>?_
 simp;refine bz.intro λcg l=>?_
 obtain⟨J,s,l⟩:=af.bd l;simp;refine bz.intro λcp i=>?_
 obtain⟨B,C,i⟩:=af.bd i;obtain⟨K,t,i⟩:=af.bd i;simp[C,af.ah];have a:σ.Le ((((σ.set c4 (.cells [u8 0,u8 0,u8 0,u8 0,u8 0,u8 0])).set cg (.cells [.lit .nilFunc])).set cp (.cells [cG (qv b mb f 0) c4 cg])).set cg (.cells [EB (qv b mb f 0) y begun cp])):=(by repeat (first|exact af.le_refl _|assumption|refine af.bZ ?_ z0|refine af.AN ?_ z0));have D:((((σ.set c4 (.cells [u8 0,u8 0,u8 0,u8 0,u8 0,u8 0])).set cg (.cells [.lit .nilFunc])).set cp (.cells [cG (qv b mb f 0) c4 cg])).set cg (.cells [EB (qv b mb f 0) y begun cp])) c4=some (.cells (([0,0,0,0,0,0]:RQ).map u8)):=by simp[s,t,af.ah]
 have G:((((σ.set c4 (.cells [u8 0,u8 0,u8 0,u8 0,u8 0,u8 0])).set cg (.cells [.lit .nilFunc])).set cp (.cells [cG (qv b mb f 0) c4 cg])).set cg (.cells [EB (qv b mb f 0) y begun cp])) cg=some (.cells [EB (qv b mb f 0) y begun cp]):=ap
 have sp:((((σ.set c4 (.cells [u8 0,u8 0,u8 0,u8 0,u8 0,u8 0])).set cg (.cells [.lit .nilFunc])).set cp (.cells [cG (qv b mb f 0) c4 cg])).set cg (.cells [EB (qv b mb f 0) y begun cp])) cp=some (.cells [cG (qv b mb f 0) c4 cg]):=by simp[B,af.ah]
 have g:∀c,σ c=none -> ¬F c:=λc u H=>by
  obtain⟨x,n,_⟩:=Y.Wm _ _ _ _ k H
  simp_all
 refine cQ.weaken (args':=[.sl 1 (([]:RQ).map Xn) .any,Xn 0]) ?_ ⟨bK 1,.refl _,trivial⟩;refine fS func195 rfl rfl rfl (X3 (y:=y) r w j Y d.1 f.ao.length [] 0 [0,0,0,0,0,0] .any F _ [] [] _ ap ac (xO f) ⟨D,G,sp,⟨g _ A,g _ l,g _ i⟩,⟨s,t⟩⟩ (r.un (λc _ ⟨x,v,_⟩=>by rw[v];exact a _ _ v) z) (by simp[aG]) (Y.frame _ _ _ _ (λc u=>by obtain⟨x,n,_⟩:=Y.Wm _ _ _ _ k u;rw[n];exact a _ _ n) k) ⟨λe σ' o p q=>?_,λe σ' o p q=>?_⟩)
 . apply rn
   simp;refine .done (h e σ' (o.le a) p (.inl ?_));simpa[aG]using q
 . apply rn
   simp;exact .done (h e σ' (o.le a) p (.inr q))
def X4(E:TV prog m nn b 6 mb .u8 (qy f) Un Ld)(U:f.Good)(R:Un σ)(h:∀σ',Un σ'->vO b mb σ σ'->KF (.val (T0 (decide (aG f []≠[])))) σ'):ar prog m 229 [qv b mb f 0] σ KF:=by
 refine S0 [] func229 ?_
 simp[f229];refine bz.intro λd h3=>?_
 simp;have V:Wl [qv b mb f 0,AV.lit (.slice none 0 0)] [qv b mb f 0,Ae []]:=.cons (.refl _) (.cons (bK 1) .nil);refine bp func158 rfl rfl V (Ir (begun:=[]) ?_);apply rn;simp;refine aa.rangeFunc rfl λI r l J S o=>?_
 obtain⟨r1,W,J⟩:=af.bd J;obtain⟨X,z,S⟩:=af.bd S;generalize p:BC.mk _ _ _ _ _ _ _ _ _=G
 have Y:Ll m (.fn (.yield l) [] []) (aG f []) (λk F σ'=>k=0/\(∀c,F c↔c=l\/c=d)/\σ' l=some (.loop G)/\σ' d=some (.cells [T0 false])) (λF σ'=>aG f []≠[]/\(∀c,F c↔c=l\/c=d)/\σ' l=some (.loop {G with state:=.done,pending:=some (.exit 0)})/\σ' d=some (.cells [T0 true])):=by
  refine⟨λk F σ' Z hk A hT hF=>?_,λk F K a he A=>?_,λF K a he A=>?_,λk F σ' c A v=>?_⟩
  . obtain⟨rfl,i,H,L⟩:=A
    have e3:∀x,(σ'.set l x) d=some (.cells [T0 false]):=λx=>by rw[af.ah _ _ z];exact L
    subst p;refine cQ.AM (η:=[]) I func229 H rfl ?_;apply rn;simp[rf];refine aa.beginRound H rfl ?_;apply rn;simp[e3];have M:aG f []≠[]:=λe=>aq
    refine⟨rfl,rfl,_,((af.ah _ _ X).trans (af.aj _ _ _)),?_⟩;refine hF F _ (λc x v hx=>⟨?_,v⟩) ⟨M,i,af.aj _ _ _,(af.ah _ _ z).trans (af.aj _ _ _)⟩
    have w:c≠l:=λe=>v ((i c).2 (.inl e))
    have B:c≠d:=λe=>v ((i c).2 (.inr e))
    exact(af.ah _ _ w).trans ((af.ah _ _ B).trans ((af.ah _ _ w).trans hx))
  . simp_all
  . simp_all
  . obtain⟨rfl,i,H,L⟩:=A
    rcases(i c).1 v with rfl|rfl
    . exact⟨_,H,rfl⟩
    . exact⟨_,L,rfl⟩
 obtain⟨xb,a7,a8⟩:=E.unb R;have nb:∀c,σ c=none->c≠b:=λc v e=>aq
 have C:σ.Le (((σ.set d (.cells [T0 false])).set r (.raw (.deferred (some [])))).set l (.loop G)):=(by repeat (first|exact af.le_refl _|assumption|refine af.bZ ?_ z0|refine af.AN ?_ z0))
 have sr:(((σ.set d (.cells [T0 false])).set r (.raw (.deferred (some [])))).set l (.loop G)) r=some (.raw (.deferred (some []))):=by rw[af.ah _ _ o,af.aj]
 refine fS func190 rfl rfl rfl (EC (F:=λc=>c=l\/c=d) E U ap Y ⟨rfl,rfl⟩ (E.un (λc _ ⟨x,j,_⟩=>(C _ _ j).trans j.symm) R) ⟨rfl,λc=>Zy,af.aj _ _ _,(af.ah _ _ z).trans ((af.ah _ _ W).trans (af.aj _ _ _))⟩ λF' σ' D N n=>?_)
 have q:=(D r _ sr (λe=>ac) (nb r J) (.inr rfl)).1
 have s:vO b mb σ σ':=λc x j y t=>(D c x (C c x j) (λe=>am) y t).1
 have O:∀a,a=(σ'.del l).set r (.raw (.deferred none))->Un a/\vO b mb σ a:=λa e=>by
  subst e;refine⟨E.un (σ:=σ') (λc _ ⟨x,j,y⟩=>?_) N,λc x j y t=>?_⟩
  . have w:c≠r:=λe=>by subst e;rw[q]at j;cases j;cases y
    have B:c≠l:=λe=>by
     subst e
     rcases n with⟨_,_,g,_⟩|⟨_,_,g,_⟩<;>rw[g]at j<;>cases j<;>cases y
    rw[af.ah _ _ w];simp[af.del,B]
  . have w:c≠r:=λe=>aq
    have B:c≠l:=λe=>aq
    rw[af.ah _ _ w];simp only[af.del,B,LK];exact s c x j y t
 rcases n with⟨T,_,P,q2⟩|⟨T,_,P,q2⟩
 . have Q:decide (aG f []≠[])=false:=aq
   rw[Q]at h;subst p;refine⟨_,P,ap,rfl,?_⟩
   have u:(σ'.del l) d=some (.cells [T0 false]):=by simp only[af.del,z,LK];omega
   apply rn;simp[u];refine⟨by simp only[af.del,o,LK];exact q,.done ?_⟩
   simp_all
 . have Q:decide (aG f []≠[])=true:=by simp[T]
   rw[Q]at h;subst p;refine⟨_,P,ap,rfl,?_⟩
   have u:(σ'.del l) d=some (.cells [T0 true]):=by simp only[af.del,z,LK];omega
   apply rn;simp[u];refine⟨by simp only[af.del,o,LK];exact q,.done ?_⟩
   simp_all
end
end
section
open Go Go.bu
set_option maxRecDepth 100000
abbrev ng:W6:=⟨133,135,139,162,163,176,161,169,179,164,201,202,203,208,180,173,259,241,265⟩
def Zg:lH prog ng where
 a0:=S2
 a1:=S2
 a2:=S2
 a3:=S2
 a4:=S2
 a5:=S2
 a6:=S2
 d0:=S2
 d1:=S2
 d2:=S2
 d3:=S2
 d4:=S2
 d5:=by intro b a x;cases x<;>kernel_rfl
 d5b:=by intro b a x;cases x<;>exact⟨s8,s8,s8⟩
 d6:=S2
 d6b:=S2
 d7:=S2
 d8:=S2
 d9:=S2
 da:=S2
 db:=S2
 w0:=S2
 w1:=S2
 w2:=S2
 w3:=S2
 w4:=S2
 w5:=S2
 w6:=S2
 w7:=S2
 w8:=S2
 w9:=S2
 wa:=S2
 wb:=S2
 wc:=S2
 wd:=S2
 we:=S2
 wf:=S2
def Zh:mP prog ng where
 om:=MZ
 en:=MZ
 acq:=MZ
 rel:=MZ
 rd:=MZ
 wr:=MZ
 W8:=MZ
 zi:=MZ
 Co:=MZ
 O9:=MZ
 Du:=MZ
 LS:=MZ
 uV:=MZ
 tyG:=⟨_,rfl,rfl,rfl⟩
 tyS:=⟨_,rfl,rfl,rfl⟩
 ZP:=⟨_,_,rfl,rfl,rfl,rfl⟩
 Sq:=⟨_,_,rfl,rfl,rfl,rfl⟩
 Sr:=⟨_,_,rfl,rfl,rfl,rfl⟩
end
section
open Go.bu Go.Conc
variable{m:Mo}{σ:af}{KF:YC}
def P6:sz prog nn:=⟨⟨_,_,func137,rfl,rfl,rfl⟩,⟨_,_,func138,rfl,rfl,rfl⟩⟩
section
variable{b mb:Nat}{f:Fr}{A:dq}{j:Nat}{begun:RQ}
def atM{b}(a:A.ng=ng){body}(hb:f159.body=some body):aa prog (DN prog A) 159 4 none [] [.code body] ⟨fR [.ref A.gb 0,.cp (.chan A.cF) 0],o0 A.fb,[],.told .deferred [fy prog] b⟩ (λ_ _=>False):=by
 simp  [f159]at hb;subst hb;refine aa.runN Ax [] 2 ?_;refine aa.TU rfl (by rw[a];rfl) rfl ap (by rw[a];exact func139) rfl rfl rfl ?_;apply rn;simp;exact aa.MD rfl rfl ap rfl rfl rfl rfl rfl func159 rfl rfl
def ED{N}(O:A.fb=b/\A.mb=mb/\A.fo=6/\A.nm=nn/\A.ng=ng/\A.dir=false)(Q:∀x,A.GI x↔∃l,x=mapA .u8 l/\qy f l)(R:f.Good)(G:A.res j=Xn (aG f begun).length)(q:begun.length<1152921504606846976)(hlen:(aG f begun).length<1152921504606846976){body}(hb:f157.body=some body):
 aa prog (mT prog A j) 157 13 none [] [.code body] ⟨fR [.ref A.gb 0,.cp (qv b mb f 0) 0,.cp (Ae begun) 0,.cp (.chan A.cF) 0],o0 A.fb,[],.told .deferred [fy prog] N⟩ (λ_ _=>False):=by
 obtain⟨rfl,rfl,s,t,g,d⟩:=O;simp only[f157,td]at hb;subst hb;have H:=TW (P:=prog) (A:=A) d (j:=j) (kd:=.u8) Q;rw[s,t]at H;apply rn;simp;refine aa.defer rfl rfl rfl rfl ap rfl ?_
 apply rn;simp;refine bz.intro λcn S=>?_
 simp;refine O1 func158 (Ir (begun:=begun) (sp:=.any) ?_);apply rn;simp;refine aa.rangeFunc rfl λu r l v I w=>?_
 obtain⟨r1,T,v⟩:=af.bd v;obtain⟨U,J,I⟩:=af.bd I;generalize h:BC.mk _ _ _ _ _ _ _ _ _=y
 have V:Ll (mT prog A j) (.fn (.yield l) [] []) (aG f begun) (λk F a=>(∀c,F c↔c=l\/c=cn)/\a l=some (.loop y)/\a cn=some (.cells [Xn k])) (λF a=>False):=by
  refine⟨λk F a W hk o X hF=>?_,λk F Y Z he o=>?_,am,λk F a c o i=>?_⟩
  . obtain⟨m,p,K⟩:=o
    have e3:∀x,(a.set l x) cn=some (.cells [Xn k]):=(by grind [af.ah])
    have f1:=M1 ((k:Int)+1)
    subst h;refine cQ.AM (η:=[]) u func157 p rfl ?_;apply rn;simp[rf];refine aa.beginRound p rfl ?_;apply rn;simp[e3,f1.1,f1.2];refine⟨rfl,rfl,_,((af.ah _ _ U).trans (af.aj _ _ _)),?_⟩;refine X F _ (λc x i hx=>⟨?_,i⟩) (by grind [af.aj,af.ah])
    grind [af.ah]
  . grind
  . obtain⟨m,p,K⟩:=o
    rcases(m c).1 i with rfl|rfl
    . exact⟨_,p,rfl⟩
    . exact⟨_,K,rfl⟩
 have hu:Rx A.fb (((o0 A.fb).set cn (.cells [Xn 0])).set r (.raw (.deferred (some [])))|>.set l (.loop y)):=by
  have h0:(o0 A.fb) A.fb=some .mC:=by simp[o0]
  have L:A.fb≠cn:=am
  have q2:A.fb≠r:=am
  have M:A.fb≠l:=am
  show _=_
  grind [af.ah]
 have nb:∀c,(o0 A.fb) c=none->c≠A.fb:=λc i e=>by subst e;simp[o0]at i
 have sr:(((o0 A.fb).set cn (.cells [Xn 0])).set r (.raw (.deferred (some [])))|>.set l (.loop y)) r=some (.raw (.deferred (some []))):=(by grind [af.ah,af.aj])
 refine fS func190 rfl rfl rfl (EC (F:=λc=>c=l\/c=cn) H R q V ⟨rfl,rfl⟩ hu ⟨λc=>Zy,af.aj _ _ _,(af.ah _ _ J).trans ((af.ah _ _ T).trans (af.aj _ _ _))⟩ λF' a z B n=>?_)
 have a7:=(z r _ sr ac (nb r v) (.inr rfl)).1
 rcases n with⟨_,L,q2⟩|hE
 . subst h
   refine⟨_,L,ap,rfl,?_⟩
   have C:(a.del l) cn=some (.cells [Xn (aG f begun).length]):=by simp only[af.del,J,LK];omega
   have D:(a.del l) A.fb=some .mC:=by
    have M:A.fb≠l:=am
    simp only[af.del,M,LK];exact B
   have E:(a.del l) r=some (.raw (.deferred (some []))):=by simp only[af.del,w,LK];omega
   apply rn;simp[C];refine aa.TS d rfl rfl ap rfl rfl aq D rfl rfl func157 rfl (by rw[g];exact func135) rfl rfl ?_
   apply rn;simp;refine⟨rfl,.inl rfl,⟨_,rfl⟩,r,by rw[g],E⟩
 grind
end
def oU(j:Nat):RQ:=if j=0 then[0,0]else[0,1]
def jl(f:Fr):Int:=if f.ao.length<2 then 1 else(aG f [0,0]).length+(aG f [0,1]).length
def Zi{v d}(g:v.cells=[v])(i:d.cells=[d])(h:v.W d):(AV.cp v 0).W (.cp d 0):=λk x l=>by
 cases l with
 | cp b base off N E v c m n o f=>
   rw[g]at n o f;refine .cp b base 0 N E d c m am am (λj a e=>?_);rw[i]at e;have p:j=0:=am
   subst p;simp at e;subst e;exact h k _ (f 0 v rfl)
section
variable{b mb:Nat}{f:Fr}
def Vk(T:m.solo=true)(z:f.Good)(hlen:(aG f [0,0]).length<1000000000/\(aG f [0,1]).length<1000000000)(A:b≠mb)(U:Lq b 6 mb .u8 (qy f) σ)(h:∀σ',Lq b 6 mb .u8 (qy f) σ'->vO b mb σ σ'->KF (.val (Xn (jl f))) σ'):ar prog m 126 [qv b mb f 0] σ KF:=by
 have h6:=z.jo;unfold jl at h;refine S0 [] func126 ?_
 simp[f126]
 by_cases L:f.ao.length<2
 . have k:(f.ao.length:Int)<2:=ac
   rw[wS L]at h;simp[k];exact .done (by grind [vO.refl])
 have k:¬(f.ao.length:Int)<2:=ac
 rw[wN L]at h;obtain⟨V,lm,M,W⟩:=U;simp[k];refine afO Ax rfl On rfl nM rfl be λcF X=>?_
 apply rn;simp;refine bz.intro λv q=>?_
 obtain⟨n1,Y,q⟩:=af.bd q;simp;refine bz.intro λgb g=>?_
 obtain⟨Z,n4,g⟩:=af.bd g;obtain⟨n5,N,g⟩:=af.bd g;simp;have O:cF≠b:=am
 have P:cF≠mb:=am
 have b3:v≠b:=am
 have m3:v≠mb:=am
 have r:gb≠b:=am
 have gm:gb≠mb:=am
 refine aa.bj 3 (b:=v) (.chan cF) (by simp[n4,af.ah]) ap rfl ?_
 refine aa.dG T ⟨2,false,cF,b,6,gb,mb,λx=>∃l,x=mapA .u8 l/\qy f l,λj=>Xn (aG f (oU j)).length,λ_=>.tuple #[],nn,ng,ac,O,N,P,vj r,A,gm⟩ rfl Zg Zh GL GM P6 (tm:=false) (a:=mapA .u8 lm) (by simp[af.del,af.ah,Y,N]) (by simp[af.del,Z]) (by simp[af.del,af.set,vj b3,vj r,vj O,V]) (by simp[af.del,af.set,vj m3,vj gm,vj P,M]) (by simp[mapA,tw]) ⟨lm,rfl,W⟩ rfl λpb a7 Fin kd a8 k0 s=>?_
 refine aa.yD ?_;refine aa.runN Ax [] 18 ?_;simp;refine bz.intro λB C=>?_
 have d:B≠b:=λe=>aq
 simp
 change aa _ _ _ _ _ _ _ _ _
 refine aa.bj 6 (b:=B) (.sl 1 [Xn 0,Xn 0] .exact) (af.aj _ _ _) ap rfl ?_
 refine aa.Fs 6 (a':=.cp (Ae [0,0]) 0) (by simp;exact Zi rfl rfl (by grind [eo])) ?_
 refine aa.TR rfl rfl rfl ap func133 rfl rfl rfl ?_
 apply rn;simp;refine aa.xj (hold':=[]) rfl rfl rfl ap rfl func157 rfl rfl aq (by simp[lS.at,af.del,af.set,vj d]) s8 (λQ=>ED (b:=b) (mb:=mb) (f:=f) (begun:=[0,0]) ⟨rfl,rfl,rfl,rfl,rfl,lS.Ec _ _ _⟩ (λx=>Zy) z rfl ap ac rfl) ?_
 apply rn;simp;refine aa.again s8 ?_
 refine aa.runN Ax [] 18 ?_;simp;refine bz.intro λD t=>?_
 have n:D≠b:=λe=>by subst e;simp[af.del,af.set,vj d]at t
 simp
 change aa _ _ _ _ _ _ _ _ _
 refine aa.bj 6 (b:=D) (.sl 1 [Xn 0,Xn 1] .exact) (af.aj _ _ _) ap rfl ?_
 refine aa.Fs 6 (a':=.cp (Ae [0,1]) 0) (by simp;exact Zi rfl rfl (by grind [eo])) ?_
 refine aa.TR rfl rfl rfl ap func133 rfl rfl rfl ?_
 apply rn;simp;refine aa.xj (hold':=[]) rfl rfl rfl ap rfl func157 rfl rfl aq (by simp[lS.at,af.del,af.set,vj n,vj d]) s8 (λQ=>ED (b:=b) (mb:=mb) (f:=f) (begun:=[0,1]) ⟨rfl,rfl,rfl,rfl,rfl,lS.Ec _ _ _⟩ (λx=>Zy) z rfl ap ac rfl) ?_
 apply rn;simp;refine aa.again s8 ?_
 apply rn;simp;refine aa.goC (by grind [lS.Ec]) (hold':=[]) rfl rfl rfl ap rfl func159 rfl rfl aq (by simp[lS.at,af.del,af.set,vj n,vj d]) s8 (λQ=>atM rfl rfl) ?_
 apply rn;simp;refine aa.yD ?_;apply rn;simp;refine aa.Om Ax rfl rfl On rfl nM ap rfl rfl λi E=>?_
 have a9:∀j,(aG f (oU j)).length<1000000000:=λj=>by unfold oU;grind
 have f1:-9223372036854775808<=((aG f (oU i)).length:Int)/\((aG f (oU i)).length:Int)<=9223372036854775807:=am
 apply rn;simp[lS.at,f1.1,f1.2];refine aa.again s8 ?_
 apply rn;simp;refine aa.Om Ax rfl rfl On rfl nM ap rfl rfl λo F=>?_
 have R:-9223372036854775808<=((aG f (oU i)).length:Int)+((aG f (oU o)).length:Int)/\((aG f (oU i)).length:Int)+((aG f (oU o)).length:Int)<=9223372036854775807:=am
 apply rn;simp[R.1,R.2];refine aa.again s8 ?_
 apply rn;simp;refine aa.Ig Ax rfl rfl On rfl nM ap rfl rfl (by simp[af.del,af.set,vj n,vj d]) rfl s λa ha=>?_
 apply rn;simp
 have u:((aG f (oU i)).length:Int)+((aG f (oU o)).length:Int)=((aG f [0,0]).length:Int)+((aG f [0,1]).length:Int):=by
  have p:i∈List.range 2:=E;have w:o∈(List.range 2).erase i:=F;have:i=0\/i=1:=am
  rcases this with rfl|rfl
  . have:o=1:=am
    subst this;rfl
  . have:o=0:=am
    subst this;exact Int.add_comm _ _
 rw[u];obtain⟨la,rfl,G⟩:=ha;refine .done (h _ ⟨af.aj _ _ _,la,(by simp_all [af.ah,vj,af.aj]),G⟩ λc x p w y=>?_)
 have H:c≠mb:=λe=>by
  subst e;rw[M]at p;cases p
  rcases y with y|y
  . omega
  . cases y
 have I:c≠cF:=am
 have J:c≠v:=am
 have K:c≠gb:=am
 have S:c≠B:=λe=>by subst e;simp[af.del,af.set,H,I,J,K,w,p]at C
 have e6:c≠D:=λe=>by subst e;simp[af.del,af.set,H,I,J,K,S,w,p]at t
 simp[af.del,af.set,H,I,J,K,S,e6,w,p]
variable{Un:FC}{Ld:af->FT->Prop}
def ajq(L:TV prog m nn b 6 mb .u8 (qy f) Un Ld)(hf:f.Good){C p}(v:C.cells=[C]/\C.flat=true)(Q:∀w∈aG f [],∀  σ   KF ,KF (.val (T0 (p w))) σ->cQ prog m C [Ae w] σ KF)(hlen:(aG f []).length<1152921504606846976)(hu:Un σ)
 (h:∀σ',Un σ'->vO b mb σ σ'->KF (.val (.cx [Xn (((aG f []).filter p).length),Xn (aG f []).length])) σ'):ar prog m 231 [qv b mb f 0,C] σ KF:=by
 refine S0 Zd func231 ?_
 simp[f231,v.1,v.2];refine bz.intro λd h6=>?_
 simp;refine bz.intro λa h7=>?_
 obtain⟨M,z2,h7⟩:=af.bd h7;simp[M,z2,af.ah];have hW:Wl [qv b mb f 0,AV.lit (.slice none 0 0)] [qv b mb f 0,Ae []]:=.cons (.refl _) (.cons (bK 1) .nil);refine bp func158 rfl rfl hW (Ir (begun:=[]) ?_);apply rn;simp;refine aa.rangeFunc rfl λR r l o t S=>?_
 obtain⟨a1,_,o⟩:=af.bd o;obtain⟨a2,_,o⟩:=af.bd o;obtain⟨_,_,o⟩:=af.bd o;obtain⟨_,_,o⟩:=af.bd o;obtain⟨a3,_,t⟩:=af.bd t;obtain⟨a4,_,t⟩:=af.bd t;obtain⟨_,_,t⟩:=af.bd t;obtain⟨_,_,t⟩:=af.bd t;have a9:σ r=none/\r≠d/\r≠a:=am
 have i:σ l=none/\l≠d/\l≠a:=am
 generalize D:BC.mk _ _ _ _ _ _ _ _ _=E
 have hY:Ll m (.fn (.yield l) [] []) (aG f []) (λk F σ'=>(∀c,F c↔c=l\/c=d\/c=a)/\σ' l=some (.loop E)/\σ' d=some (.cells [Xn ((((aG f []).take k).filter p).length)])/\σ' a=some (.cells [Xn k])) (λF σ'=>False):=by
  refine⟨λk F σ' ab hk N hT hF=>?_,λk F ad j he N=>?_,am,λk F σ' c N G=>?_⟩
  . obtain⟨s,O,T,U⟩:=N
    have e7:∀x,(σ'.set l x) a=some (.cells [Xn k]):=λx=>(af.ah _ _ ac).trans U
    have f1:=M1 ((k:Int)+1)
    have av:(((aG f []).take k).filter p).length<=k:=am
    have f2:=M1 (((((aG f []).take k).filter p).length:Int)+1)
    have V:(((aG f []).take (k+1)).filter p).length=(((aG f []).take k).filter p).length+if p (aG f [])[k]then 1 else 0:=by
     rw[so hk,MK,zR]
     grind
    have H:(aG f [])[k]∈aG f []:=lb hk;subst D;refine cQ.AM (η:=Zd) R func231 O rfl ?_;apply rn;simp[rf];refine aa.beginRound O rfl ?_;apply rn;simp[e7,f1.1,f1.2,v.1];refine Q _ H _ _ ?_;have e6:∀x y,((σ'.set l x).set a y) d=some (.cells [Xn ((((aG f []).take k).filter p).length)]):=λx y=>(af.ah _ _ (vj M)).trans ((af.ah _ _ ac).trans T)
    cases hp:p (aG f [])[k]
    . apply rn
      simp;refine⟨rfl,rfl,_,((af.ah _ _ i.2.2).trans (af.aj _ _ _)),?_⟩;refine hT F _ (λc x G hx=>⟨?_,G⟩) ⟨s,af.aj _ _ _,?_,(af.ah _ _ ac).trans (af.aj _ _ _)⟩
      . have I:c≠l:=am
        have P:c≠a:=am
        exact(af.ah _ _ I).trans ((af.ah _ _ P).trans (by grind [af.ah]))
      . refine(af.ah _ _ ac).trans ((e6 _ _).trans ?_)
        simp_all
    . apply rn
      simp[e6,f2.1,f2.2];refine⟨rfl,rfl,_,((af.ah _ _ i.2.1).trans ((af.ah _ _ i.2.2).trans (af.aj _ _ _))),?_⟩;refine hT F _ (λc x G hx=>⟨?_,G⟩) ⟨s,af.aj _ _ _,?_,(af.ah _ _ ac).trans ((af.ah _ _ M).trans (af.aj _ _ _))⟩
      . have I:c≠l:=am
        have W:c≠d:=am
        have P:c≠a:=am
        exact(af.ah _ _ I).trans ((af.ah _ _ W).trans ((af.ah _ _ P).trans (by grind [af.ah])))
      . refine(af.ah _ _ ac).trans ((af.aj _ _ _).trans ?_)
        simp_all
  . grind
  . obtain⟨s,O,T,U⟩:=N
    rcases(s c).1 G with rfl|rfl|rfl
    . exact⟨_,O,rfl⟩
    . exact⟨_,T,rfl⟩
    . exact⟨_,U,rfl⟩
 obtain⟨xb,ax,ay⟩:=L.unb hu;have nb:∀c,σ c=none->c≠b:=am
 have J:σ.Le ((((((σ.set d (.cells [Xn 0])).set a (.cells [Xn 0])).set d (.cells [Xn 0])).set a (.cells [Xn 0])).set r (.raw (.deferred (some [])))).set l (.loop E)):=(by grind [af.le_refl,af.bZ])
 have sr:((((((σ.set d (.cells [Xn 0])).set a (.cells [Xn 0])).set d (.cells [Xn 0])).set a (.cells [Xn 0])).set r (.raw (.deferred (some [])))).set l (.loop E)) r=some (.raw (.deferred (some []))):=(by grind [af.ah,af.aj])
 have s7:((((((σ.set d (.cells [Xn 0])).set a (.cells [Xn 0])).set d (.cells [Xn 0])).set a (.cells [Xn 0])).set r (.raw (.deferred (some [])))).set l (.loop E)) a=some (.cells [Xn 0]):=(af.ah _ _ ac).trans ((af.ah _ _ ac).trans (af.aj _ _ _))
 have s6:((((((σ.set d (.cells [Xn 0])).set a (.cells [Xn 0])).set d (.cells [Xn 0])).set a (.cells [Xn 0])).set r (.raw (.deferred (some [])))).set l (.loop E)) d=some (.cells [Xn 0]):=(af.ah _ _ ac).trans ((af.ah _ _ ac).trans ((af.ah _ _ (vj M)).trans (af.aj _ _ _)))
 refine fS func190 rfl rfl rfl (EC (F:=λc=>c=l\/c=d\/c=a) L hf ap hY ⟨rfl,rfl⟩ (L.un (λc _ ⟨x,n,_⟩=>(J _ _ n).trans n.symm) hu) ⟨ac,af.aj _ _ _,am,ac⟩ λF' σ' K X u=>?_)
 have Y:=(K r _ sr ac (nb r o) (.inr rfl)).1
 have z:vO b mb σ σ':=λc x n B A=>(K c x (J c x n) am B A).1
 have Z:∀j,j=(σ'.del l).set r (.raw (.deferred none))->Un j/\vO b mb σ j:=λj e=>by
  subst e;refine⟨L.un (σ:=σ') (λc _ ⟨x,n,B⟩=>?_) X,λc x n B A=>?_⟩
  . have c1:c≠r:=λe=>by subst e;rw[Y]at n;cases n;cases B
    have c2:c≠l:=λe=>by
     subst e
     rcases u with⟨_,g,_⟩|g
     . rw[g]at n;cases n;cases B
     omega
    rw[af.ah _ _ c1];simp[af.del,c2]
  . have c1:c≠r:=am
    have c2:c≠l:=am
    rw[af.ah _ _ c1];simp only[af.del,c2,LK];exact z c x n B A
 rcases u with⟨_,I,W,P⟩|q
 . rw[zH]at W
   subst D;refine⟨_,I,ap,rfl,?_⟩
   have a7:(σ'.del l) d=some (.cells [Xn ((aG f []).filter p).length]):=by simp only[af.del,vj i.2.1,LK];omega
   have a8:(σ'.del l) a=some (.cells [Xn (aG f []).length]):=by simp only[af.del,vj i.2.2,LK];omega
   apply rn;simp[a7,a8];apply rn;simp;refine⟨by simp only[af.del,S,LK];omega,.done ?_⟩
   grind
 grind
end
def qS  f   begun :∀  fuel   way   many   c ,∀w∈eu f begun fuel way many c,w.length=way.length+fuel
 |0,way,many,c,w,a=>by simp[eu]at a;grind
 | fuel+1,way,many,c,w,a=>by
   rw[iT,E2]at a;obtain⟨k,_,b⟩:=a;unfold nH at b;split at b
   . grind
   split at b
   . have:=qS f begun fuel _ _ _ w b
     grind
   grind
section
variable{b mb:Nat}{f:Fr}{Un:FC}{Ld:af->FT->Prop}
def bo(x y:Int)(w:RQ):Bool:=decide (w.getD x.toNat 0=w.getD y.toNat 0)
def Vl{w x y}(a:0<=x/\x.toNat<w.length)(b:0<=y/\y.toNat<w.length)(h:KF (.val (T0 (bo x y w))) σ):ar prog m 232 [Ae w,.cp (Xn x) 0,.cp (Xn y) 0] σ KF:=by
 have c:w.getD x.toNat 0=w[x.toNat]:=am
 have d:w.getD y.toNat 0=w[y.toNat]:=am
 unfold bo at h;rw[c,d]at h;refine S0 adz func232 ?_;simp[a.1,a.2,b.1,b.2];apply rn;simp;refine .done ?_;omega
def X5(c:TV prog m nn b 6 mb .u8 (qy f) Un Ld)(d:f.Good){x y}(e:0<=x/\x.toNat<f.ao.length)(n:0<=y/\y.toNat<f.ao.length)(hlen:(aG f []).length<1152921504606846976)(g:Un σ)
 (h:∀σ',Un σ'->vO b mb σ σ'->KF (.val (Xn (dZ (((aG f []).filter (bo x y)).length:Int) (aG f []).length))) σ'):ar prog m 212 [qv b mb f 0,Xn x,Xn y] σ KF:=by
 have a:∀w∈aG f [],w.length=f.ao.length:=λw a=>by have:=qS f [] _ _ _ _ w a;grind
 refine S0 [] func212 ?_
 simp;refine O1 func231 (ajq c d  ⟨rfl,rfl⟩ (λw i σ KF j=>fS func232 rfl rfl rfl (Vl ⟨e.1,am⟩ am j)) hlen g λσ' k l=>?_)
 apply rn;simp;refine O1 func230 (rUc ?_);apply rn;simp;exact .done (h σ' k l)
end
def adF(q:m.solo=true){f}{l:RQ}{sp}(o:f.Fits)(p:check f=0)(r:∀n∈l,0<=n/\n<f.ao.length)(i:l.length<1152921504606846976)(g:aG f []≠[])(h:∀b mb σ',b≠mb->Lq b 6 mb .u8 (qy f) σ'->σ b=none/\σ mb=none->σ.Le σ'->KF (.val (.cx [qv b mb f 0,Xn 0])) σ'):ar prog m 211 [bR f,.sl 1 (l.map Xn) sp] σ KF:=by
 have s:=Fr.wA o p;have A:=afK p r;refine S0 [] func211 ?_
 simp;have t:Wl [AV.agg _,.sl 1 _ sp] [bR f,Ae l]:=.cons (.refl _) (.cons (eo 1 _ sp) .nil);refine bp func125 rfl rfl t (HG o i ac λ_ b mb σ' d=>?_)
 have u:Lq b 6 mb .u8 (qy f) σ':=by rw[d.eq];exact⟨af.aj _ _ _,[],(af.ah _ _ (vj d.ne)).trans (af.aj _ _ _),λn a h=>by simp[gg]at h⟩
 apply rn;simp;refine O1 func229 (X4 (Kw GL GM P6 q d.ne) s u λj v w=>?_)
 apply rn;simp[g];refine .done (h b mb j d.ne v ⟨d.hb,d.IS⟩ λc x k=>?_)
 have y:c≠b:=λe=>by subst e;rw[d.hb]at k;grind
 have z:c≠mb:=λe=>by subst e;rw[d.IS]at k;grind
 exact w c x (d.le c x k) y (.inl z)
def X6(i:m.solo=true){f}{x y:Int}(j:f.Fits)(k:check f=0)(d:0<=x/\x<f.ao.length)(v:0<=y/\y<f.ao.length)(a:aG f []≠[])(hlen:(aG f []).length<1152921504606846976)(h:KF (.val (.cx [Xn (dZ (((aG f []).filter (bo x y)).length:Int) (aG f []).length),Xn 0])) σ):ar prog m 183 [bR f,Xn x,Xn y] σ KF:=by
 have n:=Fr.wA j k;refine S0 [] func183 ?_;simp;refine O1 func211 (adF (l:=[x,y])  i j k am ap a λb mb o e p q g=>?_);apply rn;simp;refine O1 func212 (X5 (Kw GL GM P6 i e) n ⟨d.1,ac⟩ ac hlen p λr w s=>?_);apply rn;simp;refine .less (λc x d=>?_) (.done h);have t:c≠b:=am;have u:c≠mb:=am;exact s c x (g c x d) t (.inl u)
def Vm(l:m.solo=true){f}(j:f.Fits)(k:check f=0)(hlen:(aG f [0,0]).length<1000000000/\(aG f [0,1]).length<1000000000)(h:KF (.val (.cx [Xn (jl f),Xn 0])) σ):ar prog m 79 [bR f] σ KF:=by
 have o:=Fr.wA j k;have v:=BT k;refine S0 [] func79 ?_
 simp;have p:Wl [AV.agg _,AV.lit _] [bR f,Ae []]:=.cons (.refl _) (.cons (bK 1) .nil);refine bp func125 rfl rfl p (HG j ap ac λ_ b mb g d=>?_)
 have q:Lq b 6 mb .u8 (qy f) g:=by rw[d.eq];exact⟨af.aj _ _ _,[],(af.ah _ _ (vj d.ne)).trans (af.aj _ _ _),λn a h=>by simp[gg]at h⟩
 apply rn;simp;refine O1 func126 (Vk l o hlen d.ne q λr w s=>?_)
 apply rn;simp;refine .less (λc x i=>?_) (.done h)
 have t:c≠b:=λe=>by subst e;rw[d.hb]at i;grind
 have u:c≠mb:=λe=>by subst e;rw[d.IS]at i;grind
 exact s c x (d.le c x i) t (.inl u)
def aJ(w:RQ):Int:=w.foldl (λn k=>max n (k+1)) 0
def vf{l b}(g:l.length=b.length)(e:∀(i:Nat) a a',l[i]?=some a->b[i]?=some a'->a.W a'):(AV.cx l).W (.cx b):=λk x f=>by
 cases f with
 | cx c _ h j=>
   refine .cx c b ac λi v a' m d=>?_
   have n:i<l.length:=am
   exact e i l[i] a' am d k v am
theorem Ot:∀{es},(∀a∈es,a.cells=[a])->RP es=es
 |[],_=>rfl
 |a::es,h=>by rw[flatten_cons,h a (MJ ..),Ot am];rfl
def adN{es d sp}(h:es.length=d.length)(l:∀a∈es,a.cells=[a])(e:∀a∈d,a.cells=[a])(m:∀(i:Nat) a a',es[i]?=some a->d[i]?=some a'->a.W a'):(AV.sl 1 es sp).W (.sl 1 d .any):=λk x n=>by
 cases n with
 | sl b off cap u N E _ _ c f o p v q r w=>
   rw[Ot l]at q r;rw[h]at f ⊢;refine .sl b off cap 1 N E d .any c f o p am (λj s=>?_) (λj a g=>?_) trivial
   . grind [Ot]
   . rw[Ot e]at g
     have s:j<es.length:=am
     exact m j es[j] a am g k _ am
 | slnil t=>
   have:d=[]:=am
   subst this;exact .slnil t 1 .any (.inl rfl)
def ig{l b}(g:l.length=b.length)(e:∀(i:Nat) a a',l[i]?=some a->b[i]?=some a'->a.W a'):(AV.agg l).W (.agg b):=λk x f=>by
 cases f with
 | agg c _ h j=>
   refine .agg c b ac λi v a' m d=>?_
   have n:i<l.length:=am
   exact e i l[i] a' am d k v am
def cq(c:Nat)(nums:RQ)(k:Nat)(σ:af):Prop:=∃(n:Nat) (s:Int),n<=k/\σ c=some (.cells [Ae nums,Xn n,.lit (.int .u64 s)])
def ug{nums}(h:∀c σ',σ c=none->cq c nums 0 σ'->(∀x,x≠c->σ' x=σ x)->KF (.val (.ref c 0)) σ'):ar prog m 10 [Ae nums] σ KF:=by
 refine ar.start Ax [5] [] 1 func10 rfl rfl (by rfl) s8 ?_;simp[Tryz.f10];refine bz.intro λc a=>?_
 simp;exact .done (h c _ a ⟨0,_,AK _,af.aj _ _ _⟩ λx b=>af.ah _ _ b)
def X7  a b :0<=IntKind.u64.wrap (((BitVec.ofInt 64 a ^^^ BitVec.ofInt 64 b).toNat:Nat):Int)/\IntKind.u64.wrap (((BitVec.ofInt 64 a ^^^ BitVec.ofInt 64 b).toNat:Nat):Int)<18446744073709551616:=by generalize (((BitVec.ofInt 64 a ^^^ BitVec.ofInt 64 b).toNat:Nat):Int)=x;simp only[IntKind.wrap,IntKind.signed,IntKind.bits];simp;omega
def Vn{x:Int}(h:0<=x/\x<18446744073709551616):0<=x.fdiv (2 ^ min 11 IntKind.u64.bits)/\x.fdiv (2 ^ min 11 IntKind.u64.bits)<9007199254740992:=by
 have e:(2:Int) ^ min 11 IntKind.u64.bits=2048:=be
 grind
def X8{c k nums}(B:k<1000000)(C:nums.length<1152921504606846976)(hb:cq c nums k σ)(h:∀  x  σ',0<=x/\x<9007199254740992->cq c nums (k+1) σ'->(∀y,y≠c->σ' y=σ y)->KF (.val (.lit (.int .u64 x))) σ'):ar prog m 50 [.ref c 0] σ KF:=by
 obtain⟨n,s,w,l⟩:=hb;have t:=M1 ((n:Int)+1)
 obtain⟨fm,d⟩:∃f:Int->HK,∀a b,vQ .mul .u64 a b=some (.int .u64 (f a b)):=⟨_,λ_ _=>rfl⟩;obtain⟨D,g,r⟩:∃f:Int->HK,(∀a b,vQ .xor .u64 a b=some (.int .u64 (f a b)))/\∀a b,0<=f a b/\f a b<18446744073709551616:=⟨_,λ_ _=>rfl,X7⟩;refine ar.ME Ax [] afl 27 1 func50 rfl rfl (by rfl) s8 ?_;simp[f50,l,t.1,t.2,aI,d];refine aa.lh (λe i=>e 0=.ref c 0/\(∃z,e 3=.lit (.int .u64 z))/\i c=some (.cells [Ae nums,Xn ((n:Int)+1),.lit (.int .u64 s)])/\∀y,y≠c->i y=σ y) (by simp;intro y p;exact af.ah _ _ p) ?_;clear l;rintro ε i ⟨o,⟨z,q⟩,l,j⟩;refine aa.runN Ax [] 2 ?_;simp[o,l];refine aa.runN Ax [] 2 ?_;simp;refine aM.intro (λu=>?_) (λu=>?_)<;>simp[-Int.not_lt,-Int.not_le,-Nat.not_lt,-Nat.not_le]at u
 . have E:(n:Int)<nums.length:=ac
   have A:n<nums.length:=ac
   have v:=M1 ((n:Int))
   simp[o,q,l,A,v.1,v.2,d,g];refine aa.lh (λe i=>e 0=.ref c 0/\(∃z,e 3=.lit (.int .u64 z))/\i c=some (.cells [Ae nums,Xn ((n:Int)+1),.lit (.int .u64 s)])/\∀y,y≠c->i y=σ y) aq ?_;clear o q l j;rintro ε i ⟨o,⟨z,q⟩,l,j⟩;apply rn;simp[o,q,l,d,g,aI];refine aa.lh (λe i=>e 0=.ref c 0/\(∃s,i c=some (.cells [Ae nums,Xn ((n:Int)+1),.lit (.int .u64 s)]))/\∀y,y≠c->i y=σ y) (by refine⟨by simp[o],⟨_,by simp;rfl⟩,λy p=>?_⟩;simp[af.ah,p,j y p]) ?_;clear o q l j;rintro ε i ⟨o,⟨z,l⟩,j⟩;apply rn;simp[o,l,d,g];refine .done (h _ i (Vn (r _ _)) ⟨n+1,z,ac,aq⟩ j)
 . simp
   apply rn;simp[o,q,l,d,g,aI];refine aa.lh (λe i=>e 0=.ref c 0/\(∃s,i c=some (.cells [Ae nums,Xn ((n:Int)+1),.lit (.int .u64 s)]))/\∀y,y≠c->i y=σ y) (by refine⟨by simp[o],⟨_,by simp;rfl⟩,λy p=>?_⟩;simp[af.ah,p,j y p]) ?_;clear o q l j;rintro ε i ⟨o,⟨z,l⟩,j⟩;apply rn;simp[o,l,d,g];refine .done (h _ i (Vn (r _ _)) ⟨n+1,z,ac,aq⟩ j)
def vV(c:Nat)(nums:RQ)(k:Nat)(σ σ':af):Prop:=cq c nums k σ'/\∀y,y≠c->σ' y=σ y
theorem vV.trans{c nums k k' σ σ' a}(h:vV c nums k σ σ')(b:vV c nums k' σ' a):vV c nums k' σ a:=⟨b.1,λy d=>(b.2 y d).trans (h.2 y d)⟩
def cq.mono{c nums k k'}(h:cq c nums k σ)(b:k<=k'):cq c nums k' σ:=by obtain⟨n,s,d,a⟩:=h;exact⟨n,s,ac,a⟩
def Vo{n}(h:0<=n/\n<18446744073709551616):IntKind.u64.wrap n=n:=by simp only[IntKind.wrap,IntKind.signed,IntKind.bits];simp;omega
def aaq{n}(h:-9223372036854775808<=n/\n<=9223372036854775807):IntKind.i64.wrap n=n:=by simp[IntKind.wrap,IntKind.signed,IntKind.bits];omega
section
variable{c k:Nat}{nums:RQ}
def gT{n}(f:k<1000000)(g:nums.length<1152921504606846976)(i:-4611686018427387904<=n/\n<4611686018427387904)(hb:cq c nums k σ)(h:∀  x  σ',0<=x/\(x<=n\/x=0)->vV c nums (k+1) σ σ'->KF (.val (Xn x)) σ'):ar prog m 13 [.ref c 0,Xn n] σ KF:=by
 refine S0 [] func13 ?_;simp[f13];refine O1 func50 (X8 f g hb λx σ' j a b=>?_);apply rn;simp;refine aM.intro (λd=>?_) (λd=>?_)<;>simp[-Int.not_lt,-Int.not_le]at d
 . simp
   exact .done (h 0 σ' ⟨ac,.inr rfl⟩ ⟨a,b⟩)
 . have l:IntKind.u64.wrap n=n:=Vo ac
   have o:vQ .add .u64 n 1=some (.int .u64 (n+1)):=by show some (Value.int .u64 (IntKind.u64.wrap (n+1)))=_;rw[Vo ac]
   obtain⟨r,e,p⟩:∃r:Int,(0<=r/\r<=n)/\vQ .rem .u64 x (n+1)=some (.int .u64 r):=by
    refine⟨x.tmod (n+1),⟨Int.tmod_nonneg _ j.1,?_⟩,by simp[vQ];omega⟩;have:=Int.tmod_lt_of_pos x (show 0<n+1 by omega);omega
   have q:IntKind.i64.wrap r=r:=aaq ac;simp[l,o,p,q];exact .done (h r σ' ⟨e.1,.inl e.2⟩ ⟨a,b⟩)
def jH{lo hi}(d:k<1000000)(e:nums.length<1152921504606846976)(f:-1000000000<=lo/\lo<=1000000000)(g:-1000000000<=hi/\hi<=1000000000)(hb:cq c nums k σ)(h:∀  x  σ',lo<=x/\(x<=hi\/x=lo)->vV c nums (k+1) σ σ'->KF (.val (Xn x)) σ'):ar prog m 108 [.ref c 0,Xn lo,Xn hi] σ KF:=by
 have a:=M1 (hi-lo)
 refine S0 [] func108 ?_;simp[f108,a.1,a.2];refine O1 func13 (gT d e ⟨ac,ac⟩ hb λx σ' i hd=>?_);have b:=M1 (lo+x)
 apply rn;simp[b.1,b.2];exact .done (h _ σ' ⟨ac,ac⟩ hd)
def tg{l:RQ}{sp}(d:k<1000000)(f:nums.length<1152921504606846976)(i:0<l.length/\l.length<1000000)(hb:cq c nums k σ)(h:∀  x  σ',x∈l->vV c nums (k+1) σ σ'->KF (.val (Xn x)) σ'):ar prog m 96 [.ref c 0,.sl 1 (l.map Xn) sp] σ KF:=by
 have a:=M1 ((l.length:Int)-1)
 refine S0 [] func96 ?_;simp[f96,a.1,a.2];refine O1 func13 (gT d f ⟨ac,ac⟩ hb λx σ' g hd=>?_);have b:x.toNat<l.length:=ac
 have j:x<l.length:=ac
 have e:(x.toNat:Int)=x:=ac
 apply rn;simp[g.1,b];exact .done (h _ σ' (lb b) hd)
def Af{n}(b:k<1000000)(d:nums.length<1152921504606846976)(e:0<=n/\n<1000000000)(hb:cq c nums k σ)(h:∀  x  σ',vV c nums (k+1) σ σ'->KF (.val (T0 x)) σ'):ar prog m 47 [.ref c 0,Xn n] σ KF:=by
 have a:=M1 (n-1)
 refine S0 [] func47 ?_;simp[f47,a.1,a.2];refine O1 func13 (gT b d ⟨ac,ac⟩ hb λx σ' f hd=>?_);apply rn;simp;exact .done (h _ σ' hd)
end
structure GN  km  (e:vU):Prop where
 hour:0<=e.hour/\e.hour<=40
 place:0<=e.place/\e.place<km
 di:0<=e.di/\e.di<=1
 marks:e.marks.Sublist [0,1,2]
 bY:14<=e.bY/\e.bY<=16
 ma:0<=e.ma/\e.ma<=2
def uu{l}(h:l.Sublist [0,1,2]):sC none l=0/\l.length<=3:=by cases h<;>(rename_i h;cases h<;>(rename_i h;cases h<;>(rename_i h;cases h;decide)))
def GN.check{km e}(h:GN km e):fJ km e=0:=by
 obtain⟨b,c,d,a,f,g⟩:=h;have a:=(uu a).1;unfold fJ cz
 grind
def CJ{σ0 σ σ2 a kk es c}(h:Tok σ0 σ a kk es)(g:σ0 c=none)(i:∃l,σ c=some (.cells l))(d:∀y,y≠c->σ2 y=σ y):Tok σ0 σ2 a kk es:=by
 refine⟨λy x f=>?_,?_⟩
 . have:y≠c:=am
   rw[d y this];exact h.1 y x f
 rcases h.2 with q|q|⟨b,e,j,k,m⟩
 . grind
 . grind
 grind
section
variable{c k:Nat}{nums:RQ}
def aft{km}(hk:k+11<1000000)(r:nums.length<1152921504606846976)(b0:0<=km/\km<=1000)(hb:cq c nums k σ)(h:∀  e  σ',GN (max km 1) e->vV c nums (k+11) σ σ'->KF (.val (bn e)) σ'):ar prog m 37 [.ref c 0,Xn km] σ KF:=by
 have r1:=M1 (km-1)
 obtain⟨n0,s0,_,a7⟩:=id hb;refine S0 [] func37 ?_
 simp[f37];refine bz.intro λc4 h4=>?_
 have n4:c≠c4:=am
 have t:∀x,cq c nums k (σ.set c4 x):=λx=>⟨n0,s0,z0,by rw[af.ah _ _ n4];exact a7⟩
 simp;refine O1 func13 (gT ac r ⟨ac,ac⟩ (t _) λd b1 b2 E=>?_)
 apply rn;simp;refine O1 func13 (gT ac r ⟨ac,ac⟩ E.1 λg f b3 F=>?_)
 apply rn;simp;refine O1 func13 (gT ac r ⟨ac,ac⟩ F.1 λx3 w b4 G=>?_)
 apply rn;simp;refine O1 func96 (tg (l:=[d,g,x3]) ac r ap G.1 λC b5 a8 H=>?_)
 apply rn;simp[r1.1,r1.2];refine O1 func13 (gT ac r ⟨ac,ac⟩ H.1 λpl b6 b7 I=>?_)
 apply rn;simp;refine O1 func96 (tg (l:=[0,0,0,1]) ac r ap I.1 λco b8 a9 J=>?_)
 apply rn;simp;refine O1 func96 (tg (l:=[14,14,15,15,16]) ac r ap J.1 λD b9 ab K=>?_)
 apply rn;simp;refine O1 func96 (tg (l:=[0,0,1,2]) ac r ap K.1 λsh L ad M=>?_)
 apply rn;simp;refine bz.intro λu h5=>?_
 simp;have o:vV c nums (k+8) (σ.set c4 (.cells [Xn 0,Xn 0,Xn 0,.lit (.slice none 0 0),Xn 0,Xn 0])) L:=E.trans (F.trans (G.trans (H.trans (I.trans (J.trans (K.trans M))))));have N:c4≠c:=vj n4;have bm:L c4=some (.cells [Xn 0,Xn 0,Xn 0,.lit (.slice none 0 0),Xn 0,Xn 0]):=by rw[o.2 c4 N,af.aj]
 have Y:u≠c:=λe=>by subst e;obtain⟨_,_,_,q⟩:=M.1;grind
 have O:u≠c4:=am
 have al:σ u=none:=by rw[o.2 u Y,af.ah _ _ O]at h5;omega
 have av:0<=C/\C<=40:=by simp at a8;omega
 have ax:0<=co/\co<=1:=by simp at a9;omega
 have ay:14<=D/\D<=16:=by simp at ab;omega
 have aC:0<=sh/\sh<=2:=by simp at ad;omega
 have aE:0<=pl/\pl<max km 1:=ac
 refine aa.loop 3 (λj s=>∃ε σ' a mk,s=⟨ε,σ',[],.no⟩/\ε 0=.ref c 0/\ε 4=.ref c4 0/\ε 5=.ref u 0/\ε 6=Xn j/\cq c nums (k+8+j) σ'/\σ' c4=some (.cells [Xn 0,Xn 0,Xn 0,.lit (.slice none 0 0),Xn 0,Xn 0])/\σ' u=some (.cells [Xn C,Xn pl,Xn co,a,Xn D,Xn sh])/\Tok (σ.del c) σ' a 1 (mk.map Xn)/\mk.Sublist ((List.range j).map λi:Nat=>(i:Int))) ⟨_,_,.lit (.slice none 0 0),[],rfl,ap,ap,ap,ap,?_,?_,?_,?_,ap⟩ ?_
 . obtain⟨n,z,h1,h2⟩:=o.1
   exact⟨n,z,ac,by simp_all [af.ah,vj]⟩
 . simp_all [af.ah,vj]
 . simp
 . refine⟨λy x v=>?_,am⟩
   have P:y≠c:=λe=>by subst e;simp[af.del]at v
   have y0:σ y=some x:=by simpa[af.del,P]using v
   have y5:y≠u:=am
   have y4:y≠c4:=am
   rw[af.ah _ _ y5,o.2 y P,af.ah _ _ y4];omega
 rintro c0 j _ hj ⟨ε,σ',a,mk,rfl,e0,e4,Q,R,A,q4,q5,p,aF⟩ ih
 have bq:mk.length<=j:=am
 rcases za j 3 with g1|g1
 . have aL:(j:Int)<3:=ac
   apply rn;simp[e0,R,aL];refine O1 func47 (Af ac r ac A λx f hd=>?_)
   have aO:∃l,σ' c=some (.cells l):=by obtain⟨_,_,_,q⟩:=A;grind
   have b:Tok (σ.del c) f a 1 (mk.map Xn):=CJ p (by simp[af.del]) aO hd.2
   have S:=b.cells;have s4:f c4=some (.cells [Xn 0,Xn 0,Xn 0,.lit (.slice none 0 0),Xn 0,Xn 0]):=by rw[hd.2 c4 N];omega
   have s5:f u=some (.cells [Xn C,Xn pl,Xn co,a,Xn D,Xn sh]):=by rw[hd.2 u Y];omega
   have br:(List.range (j+1)).map (λi:Nat=>(i:Int))=(List.range j).map (λi:Nat=>(i:Int))++[(j:Int)]:=by rw[zU,DL];rfl
   have f1:=M1 ((j:Int)+1)
   apply rn;simp;cases x with
   | false=>
     simp[R,f1.1,f1.2];refine ih _ g1 ⟨_,_,a,mk,rfl,by simp[e0],by simp[e4],by simp[Q],ap,hd.1,s4,s5,b,?_⟩
     grind
   | true=>
     simp[Q,R,s5];refine aP Ax rfl rfl rfl bX rfl bX rfl nM be F2 (σ0:=f.off a) (es:=mk.map Xn) (xs:=[Xn j]) (by simpa using b.here.1) (.inr ⟨_,rfl⟩) λa' w B=>?_
     have T:=B.cells;have aW:∀y l,f y=some (.cells l)->bG a≠some y:=λy l v e=>by obtain⟨_,_,q⟩:=b.bH e;grind
     have k3:∀y l,f y=some (.cells l)->w y=some (.cells l):=λy l v=>B.1 _ _ (by rw[af.hQ (aW y l v)];omega)
     have t5:=k3 _ _ s5;have t4:=k3 _ _ s4;apply rn;simp[Q,R,f1.1,f1.2,t5,T.1,T.2,aI];obtain⟨Z,zb,t,U⟩:=hd.1;have tc:=k3 _ _ U
     have V:Tok (σ.del c) w a' 1 ((mk++[(j:Int)]).map Xn):=by have:=B.base b.here.2;simpa using this
     refine ih _ g1 ⟨_,_,a',mk++[(j:Int)],rfl,by simp[e0],by simp[e4],by simp[Q],ap,⟨Z,zb,t,by rw[af.ah _ _ (vj Y)];omega⟩,by rw[af.ah _ _ (vj O)];omega,af.aj _ _ _,V.beside (by simp[af.del,Y,al]) (λe=>by obtain⟨_,_,q⟩:=V.bH e;grind),?_⟩
     grind
 . have:j=3:=ac
   subst this;have S:=p.cells;apply rn;simp[e4,Q,R,q4,q5,S.2,aI];obtain⟨Z,zb,t,U⟩:=A;have X:mk.Sublist [0,1,2]:=aF;refine .dp (a':=bn ⟨C,pl,co,mk,D,sh⟩) (ig rfl λi x y d g=>?_) (.less (σ':=σ.set c (.cells [Ae nums,Xn Z,.lit (.int .u64 zb)])) (λy x v=>?_) (.done (h ⟨C,pl,co,mk,D,sh⟩ _ ⟨av,aE,ax,X,ay,aC⟩ ⟨⟨Z,zb,ac,af.aj _ _ _⟩,(by grind [af.ah])⟩)))
   . match i with
     |0=>simp at d g;subst d;subst g;exact .refl _
     |1=>simp at d g;subst d;subst g;exact .refl _
     |2=>simp at d g;subst d;subst g;exact .refl _
     |3=>simp at d g;subst d;subst g;exact p.W
     |4=>simp at d g;subst d;subst g;exact .refl _
     |5=>simp at d g;subst d;subst g;exact .refl _
     |i+6=>simp at d
   . by_cases P:y=c
     . grind [af.aj,af.ah]
     . rw[af.ah _ _ P]at v
       have y4:y≠c4:=am
       rw[af.ah _ _ y4];exact p.1 y x (by simpa[af.del,P]using v)
def yy{km}(a:k+11<1000000)(b:nums.length<1152921504606846976)(d:1<=km/\km<=1000)(hb:cq c nums k σ)(h:∀  e  σ',GN km e->vV c nums (k+11) σ σ'->KF (.val (bn e)) σ'):ar prog m 37 [.ref c 0,Xn km] σ KF:=aft a b ac hb am
end
structure CN  n   lo  (r:Wz):Prop where
 len:r.length=n
 row:∀l∈r,l.length=n
 diag:∀i,i<n->rd r i i=0
 sym:∀i j,i<n->j<n->rd r i j=rd r j i
 off:∀i j,i<n->j<n->i≠j->lo<=rd r i j/\rd r i j<=2*lo
structure Bt  cnt  (f:Fr):Prop where
 dN:1<=f.dN/\f.dN<=4
 bc:f.bc=1\/f.bc=2\/f.bc=3\/f.bc=6
 km:1<=f.roads.length/\f.roads.length<=3
 HH:∃lo ,(0<=lo/\lo<=4)/\CN f.roads.length lo f.roads
 fr:0<=f.bs/\f.bs<=2
 to:f.bs<=f.fN/\f.fN<=2
 len:(f.ao.length:Int)<=cnt
 pS:∀e∈f.ao,GN f.roads.length e
def CN.err{n lo r}(h:CN n lo r)(v:1<=n/\n<=3)(q:0<=lo/\lo<=4):fD r=0:=by
 have s:=h.len
 have hb:∀i j,i<n->j<n->0<=rd r i j/\rd r i j<=9:=λi j a b=>by
  by_cases e:i=j
  . subst e;rw[h.diag i a];omega
  . have:=h.off i j a b e;omega
 have f:∀l∈r,nB n l=0:=λl g=>by
  have w:=h.row l g
  have y:l.all (cz · 0 9)=true:=by
   rw[LF];intro x t;obtain⟨i,a,rfl⟩:=FG.1 g;obtain⟨j,b,rfl⟩:=FG.1 t;have:=hb i j ac ac;have e:rd r i j=r[i][j]:=by simp[rd,sg,a,b]
   rw[e]at this;simp[cz,this.1,this.2]
  unfold nB
  grind
 have d:∀l:Wz,(∀x∈l,x∈r)->jV n l=0:=λl=>by
  induction l with
  |nil=>intro _;rfl
  | cons x l z=>
    unfold jV
    grind
 have u:((List.range n).any λi=>(List.range n).any λj=>cS r i j)=false:=by
  rw[Ib];intro i a;rw[Bool.not_eq_true,Ib];intro j b;have a:=wL.1 a;have b:=wL.1 b;unfold cS;rw[h.diag i a,h.sym i j a b,s]
  have A : ((List.range n).any λk=>decide (rd r j i>rd r i k+rd r k j))=false:=by
   rw[Ib];intro k c;have c:=wL.1 c;have B:=hb i k a c;have C:=hb k j c b;simp only[wK,Int.not_lt,gt_iff_lt];by_cases m:i=j
   . subst m;rw[h.diag i a];omega
   . by_cases o:i=k
     . subst o;rw[h.diag i a,h.sym i j a b];omega
     . by_cases p:k=j
       . subst p;rw[h.diag k c,h.sym i k a c];omega
       . have D:=h.off j i b a (vj m)
         have E:=h.off i k a c o;have F:=h.off k j c b p;omega
  grind
 unfold fD
 grind
def Vp{M i k n}(hi:i<M.length)(a:k<(M.getD i []).length)  x y :rd (M.set i ((M.getD i []).set k n)) x y=if x=i/\y=k then n else rd M x y:=by
 unfold rd
 grind
def FF(M:Wz)(i k:Nat)(n:Int):Wz:=(M.set i ((M.getD i []).set k n)).set k ((M.getD k []).set i n)
structure Ou  n   lo   i k  (M:Wz):Prop where
 len:M.length=n
 row:∀j,j<n->(M.getD j []).length=n
 diag:∀x,x<n->rd M x x=0
 sym:∀x y,x<n->y<n->rd M x y=rd M y x
 off:∀x y,y<x->x<n->(x<i\/(x=i/\y<k))->lo<=rd M x y/\rd M x y<=2*lo
def GO{M i k v}(hi:i<M.length)(b:k<M.length)(a:k≠i)  j :(FF M i k v).getD j []=if j=k then(M.getD k []).set i v else if j=i then(M.getD i []).set k v else M.getD j []:=by
 unfold FF
 grind
def X9{n lo i k a b M v}(h:Ou n lo a b M)(hi:i<n)(c:k<n)(d:k≠i)  x y :rd (FF M i k v) x y=if(x=i/\y=k)\/(x=k/\y=i)then v else rd M x y:=by
 have f:=h.len
 have e:rd (FF M i k v) x y=if x=k/\y=i then v else rd (M.set i ((M.getD i []).set k v)) x y:=by
  have q:M.getD k []=(M.set i ((M.getD i []).set k v)).getD k []:=am
  unfold FF;rw[q];exact Vp am (by rw[<-q];rw[h.row k c];omega) x y
 rw[e,Vp ac (by rw[h.row i hi];omega)];omega
def Ou.next{n lo i k M v}(h:Ou n lo i k M)(hi:i<n)(l:k<i)(m:lo<=v/\v<=2*lo):Ou n lo i (k+1) (FF M i k v):=by
 have e:=h.len;have a:=X9 (v:=v) h hi (show k<n by omega) ac;refine⟨by simp[FF,e],λj f=>?_,λx b=>?_,λx y b g=>?_,λx y d b hd=>?_⟩
 . rw[GO ac ac ac]
   split
   . rw[KU];exact h.row k ac
   . split
     . rw[KU];exact h.row i hi
     . exact h.row j f
 . rw[a,wN ac];exact h.diag x b
 . rw[a,a]
   by_cases c:(x=i/\y=k)\/(x=k/\y=i)
   . grind
   . rw[wN c,wN (λq=>c (q.elim (λq=>.inr ⟨q.2,q.1⟩) (λq=>.inl ⟨q.2,q.1⟩)))]
     exact h.sym x y b g
 . rw[a]
   by_cases c:(x=i/\y=k)\/(x=k/\y=i)
   . omega
   . rw[wN c]
     refine h.off x y d b ?_;omega
def Ou.line{n lo i M}(h:Ou n lo i i M):Ou n lo (i+1) 0 M:=⟨h.len,h.row,h.diag,h.sym,λx y a b hd=>h.off x y a b ac⟩
def Ou.fin{n lo M}(h:Ou n lo n 0 M):CN n lo M:=by
 have e:=h.len;refine⟨h.len,λl c=>?_,h.diag,h.sym,λi j a b d=>?_⟩
 . obtain⟨i,a,rfl⟩:=FG.1 c
   have:=h.row i ac
   grind
 . rcases za j i with q|q
   . exact h.off i j q a (.inl a)
   . rw[h.sym i j a b]
     exact h.off j i ac b (.inl b)
def Ou.start  n   lo :Ou n lo 0 0 (List.replicate n (List.replicate n 0)):=by
 have a:∀x y,rd (List.replicate n (List.replicate n 0)) x y=0:=λx y=>by
  unfold rd
  grind
 refine⟨ap,am,am,am,ac⟩
def vz{g}:∀{l},(∀e∈l,g e=0)->jh g l=0
 |[],_=>rfl
 | a::l,h=>by
   unfold jh;rw[wS (h a ap)];exact vz am
def Bt.check{bc:Int}{f:Fr}(h:Bt bc f)(j:bc<=6):check f=0:=by
 obtain⟨lo,a,b⟩:=h.HH;have c:=b.err h.km a;have k:=h.fr;have l:=h.to;have m:=h.dN;have n:=h.bc;have o:=h.len
 have d:(cz f.bs 0 3 && cz f.fN 0 3)=true:=by simp[cz];omega
 have g:(cz f.dN 1 6 && cz f.bc 1 6)=true:=by simp[cz];omega
 unfold Go.Proofs.YtggpckcdfilkoaaGreatDoor.check;rw[c,wN ap,d,wN ap,wN ac,g,wN ap,wN ac]
 exact vz λe i=>(h.pS e i).check
def Bt.fits{bc f}(h:Bt bc f)(g:bc<=1000):f.Fits:=by
 obtain⟨lo,a,b⟩:=h.HH;have:=h.len;have i:=h.km;refine⟨ac,ac,λl c=>?_,λe d=>?_⟩
 . have:=b.row l c;omega
 . have:=(uu (h.pS e d).marks).2;omega
def Ag{l:ZB}(h:l.Nodup){i j hi}{hj:j<l.length}(a:i≠j):l[i]≠l[j]:=by
 rw[List.Nodup,List.pairwise_iff_getElem]at h
 grind
def nC(rs:ZB)(M:Wz)(n j:Nat):We:=(List.range rs.length).map λl=>if l<j then Ae (M.getD l [])else AV.mJ (rs.getD l 0) 0 n n
def vA  rs   M   n j :(nC rs M n j).length=rs.length:=by rw[nC,zD,L2]
def vB{rs M n j l}(a:l<rs.length):(nC rs M n j)[l]?=some (if l<j then Ae (M.getD l [])else AV.mJ (rs.getD l 0) 0 n n):=by rw[nC,Hi,List.getElem?_range a];rfl
def KR{φ r ro η K todo ε D rc d n at_ rs M}{cs:We}{spr}(σ0:af)(k:rs.Nodup)(s:∀l,l<rs.length->(M.getD l []).length=n)(o:at_<cs.length)(hd:d∉rs)
 (w:∀σ',σ' d=some (.cells (cs.set at_ (.sl 1 (nC rs M n rs.length) spr)))->(∀y,y≠d->y∉rs->σ' y=σ0 y)->aa prog m φ r ro η todo ⟨ε,σ',D,rc⟩ K):
 ∀  f j ,j+f=rs.length->∀σ,σ d=some (.cells (cs.set at_ (.sl 1 (nC rs M n j) spr)))->(∀  l   h ,j<=l->σ rs[l]=some (.cells ((M.getD l []).map Xn)))->(∀y,y≠d->y∉rs->σ y=σ0 y)->aa prog m φ r ro η todo ⟨ε,σ,D,rc⟩ K
 | 0,j,x,σ,t,_,z=>by
   have:j=rs.length:=ac
   simp_all
 | f + 1,j,x,σ,t,A,z=>by
   have a:j<rs.length:=ac
   have B:=s j a;have q:d≠rs[j]:=λe=>hd (e ▸ lb a)
   have c:∀e∈nC rs M n j,e.cells=[e]:=λe p=>by unfold nC at p;obtain⟨l,_,rfl⟩:=CR.1 p;split<;>rfl
   have hlen:(nC rs M n j).length=rs.length:=vA _ _ _ _;have u:∀l,l<rs.length->(nC rs M n j)[l]?=some (if l<j then Ae (M.getD l [])else AV.mJ (rs.getD l 0) 0 n n):=λl h=>vB h
   have g:(nC rs M n j).set j (.sl 1 ((M.getD j []).map Xn) .any)=nC rs M n (j+1):=by
    apply Ko;intro l
    by_cases h:l<rs.length
    . have G:(nC rs M n (j+1))[l]?=some (if l<j+1 then Ae (M.getD l [])else AV.mJ (rs.getD l 0) 0 n n):=vB h
      grind
    . rw[Mk aq,Mk (by rw[vA];omega)]
   refine aa.XQ (b:=rs[j]) (d:=d) (i:=j) (l:=(M.getD j []).map Xn) (at_:=at_) q (A j a (AK _)) (λe p=>by obtain⟨_,_,rfl⟩:=CR.1 p;rfl) t (by rw[KC o]) c aq ?_
   rw[List.set_set,g];refine KR σ0 k s o hd w f (j+1) ac _ (af.aj _ _ _) (λl h v=>?_) (λy C E=>?_)
   . have F:rs[l]≠d:=λe=>hd (e ▸ lb h)
     rw[af.ah _ _ F];simp only[af.del,Ag k (show l≠j by omega),LK]
     grind
   . rw[af.ah _ _ C]
     have:y≠rs[j]:=λe=>E (e ▸ lb a)
     simp only[af.del,this,LK]
     simp_all
section
variable{c k:Nat}{nums:RQ}
abbrev my:We:=[.lit (.slice none 0 0),.lit (.slice none 0 0),Xn 0,Xn 0,Xn 0,Xn 0]
end
end
open Go.bu Go.Conc
def Vq{f}(a:f.Good)  e :cD f e≠[]:=by
 unfold cD lg;have:=a.le;by_cases b:e.ma=0
 . grind
 . have c:(f.fN-f.bs+1).toNat=(f.fN-f.bs).toNat+1:=ac
   rw[wS b,c,List.range_succ_eq_map]
   grind
def Vr(f:Fr)(l:RQ):RQ:=(cD f (aU f (l.getD 0 0))).filter λh=>l.all λj=>decide (h∈cD f (aU f j))
def afS{f l}(b:l≠[]):fM f l=Vr f l:=by
 match l,b with
 | a::r,_=>
   simp  [fM,Vr,mY,LM]
   simp_all [Ff]
section
variable{k:HK}
abbrev tF(k:HK):Int->Int->Bool:=λa b=>decide (k a<k b)
def lY{x y r}(h:k x<k y):cI (tF k) x (y::r)=y::cI (tF k) x r:=by simp[cI,h]
def qD{x y r}(h:¬k x<k y):cI (tF k) x (y::r)=x::y::r:=by simp[cI,h]
end
theorem eV  f   l :aV f l=(gX (tF λn=>(aU f n).hour) l).reverse:=by
 unfold aV;unfold Bs Il tF
 grind
theorem iE{f l n}:n∈aV f l↔n∈l:=by unfold aV;rw[List.mem_reverse,xE]
def aar:∀a:Fin 32,∀b:Fin 32,∀c:Fin 32,cj (a.val:Int) (c.val:Int)<=cj (a.val:Int) (b.val:Int)+cj (b.val:Int) (c.val:Int):=v3
def gu{l}(h:sC none l=0):∃a:Fin 32,bh l=(a.val:Int):=by have:=p9 (vw h);exact⟨⟨(bh l).toNat,ac⟩,am⟩
def Fit(f:Fr)(a b:Int):Prop:=dg f a b=false
def Fr.Good.tri{f:Fr}(a:f.Good){i j k}(hi:i<f.roads.length)(hj:j<f.roads.length)(b:k<f.roads.length):rd f.roads i k<=rd f.roads i j+rd f.roads j k:=by
 have h:=a.HH;unfold fD at h;split at h
 . cases h
 split at h
 . cases h
 split at h
 . omega
 split at h
 . cases h
 next q=>
 simp only[ES,wL,not_exists,not_and]at q;have c:=q i hi k b;unfold cS at c
 grind
def dL{f n}(h:0<=n/\n<f.ao.length):aU f n∈f.ao:=by grind [m9]
def xr{f}(d:f.Good){a b c}(e:0<=a/\a<f.ao.length)(hb:0<=b/\b<f.ao.length)(g:0<=c/\c<f.ao.length)(h:Fit f a b)(l:Fit f b c):Fit f a c:=by
 have m:=lf (d.pS _ (dL e));have n:=lf (d.pS _ (dL hb));have o:=lf (d.pS _ (dL g));have hd:=d.dN;obtain⟨A,q⟩:=gu m.2.2.2.2.2;obtain⟨B,r⟩:=gu n.2.2.2.2.2;obtain⟨C,s⟩:=gu o.2.2.2.2.2;have p:=aar A B C;have t:=d.tri (i:=(aU f a).place.toNat) (j:=(aU f b).place.toNat) (k:=(aU f c).place.toNat) ac ac ac;unfold Fit dg at h l ⊢;have u:f.dN*cj _ _<=f.dN*(cj _ _+cj _ _):=Int.mul_le_mul_of_nonneg_left p ac
 grind
theorem kZ{f l}(b:l≠[]){h}:h∈fM f l↔∀j∈l,h∈cD f (aU f j):=by
 rw[afS b]
 match l,b with
 | a::r,_=>
   simp only[Vr]
   grind
def jz{f l}:iS f l=0↔cR f (aV f l)=false/\cd f (aV f l)=false/\bI f (aV f l)=false:=by
 unfold iS
 grind
def Vt{f}(b:f.Good)  n :iS f [n]=0:=by
 have e:aV f [n]=[n]:=by simp[aV,gX,cI]
 refine jz.2 ?_;rw[e];refine⟨by simp[cR],?_,rfl⟩;unfold cd;simp;obtain⟨x,c⟩:=HN _ (Vq b _);exact Jg ((kZ ap).2 (λj a=>by simp at a;subst a;exact c))

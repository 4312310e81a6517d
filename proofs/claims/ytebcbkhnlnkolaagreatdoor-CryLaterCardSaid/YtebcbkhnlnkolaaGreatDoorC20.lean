import Derived.Test.YtebcbkhnlnkolaaGreatDoorC19
set_option linter.all false
set_option maxHeartbeats 2000000
set_option maxRecDepth 4000
namespace Go.Proofs.YtebcbkhnlnkolaaGreatDoor
open Go.Proofs.Tryz (prog)
section
open Go.ck Go.Conc
variable{m:Mo}{σ:ab}{KF:adw}
theorem wv{e}(d:e.marks.length<=1000000000)(h:KF (.val (bb e)) σ):aB prog m 36 [bb e] σ KF:=by
 refine aB.start lay [1] [] 1 Tryz.func36 rfl rfl (by rfl) (by kernel_rfl) ?_;simp[Tryz.f36];refine bP.intro λf n=>?_
 simp;refine bP.intro λg a=>?_
 obtain⟨i,b,a⟩:=ab.aN a;simp[b,ab.ah];refine cf Tryz.func53 rfl (yV d ?_);refine aa.run lay [1] ?_;simp[i,b,ab.ah,aG];refine .less (λc x j=>?_) (.done h);have k:c≠f:=λe=>by simp_all
 have l:c≠g:=λe=>by simp_all
 simp[ab.ah,k,l,j]
theorem zM{r}(w:r.length<=1000000)(p:∀l∈r,l.length<=1000000000)(h:KF (.val (rows r)) σ):aB prog m 64 [rows r] σ KF:=by
 refine aB.thaw ?_;refine fs [] Tryz.func64 rfl (by kernel_rfl) ?_;simp[Tryz.f64];refine o0 lay rfl pR rfl dS rfl (by decide) rfl rfl (n:=r.length) (by simp) (by simp) ⟨by omega,by omega⟩ λb hb=>?_
 apply rn;simp;refine aa.loop r.length (λi s=>∃env,s=⟨env,σ.set b (.cells (List.take i (List.map ints r)++List.replicate (r.length-i) (.lit (.slice none 0 0)))),[],.no⟩/\env 0=rows r/\env 3=.fN b 0 r.length r.length/\env 4=ι i) ⟨_,by simp;rfl,by simp⟩ ?_;rintro y i _ z ⟨env,rfl,k,o,c⟩ A;rcases abC i r.length with g1|g1
 . have t:(i:Int)<r.length:=by omega
   have f1:-9223372036854775808<=(i:Int)+1/\(i:Int)+1<=9223372036854775807:=by omega
   apply rn;simp[k,o,c,g1];refine cf Tryz.func53 rfl (yV (p _ (xE g1)) ?_);have d:i+1<=min i r.length+(r.length-i):=by omega
   have a:List.take i (List.take i (List.map ints r)++List.replicate (r.length-i) (AV.lit (.slice none 0 0)))++AV.sl 1 (List.map ι r[i]) .any::List.drop (i+1) (List.take i (List.map ints r)++List.replicate (r.length-i) (AV.lit (.slice none 0 0)))=List.take (i+1) (List.map ints r)++List.replicate (r.length-(i+1)) (.lit (.slice none 0 0)):=by
    have f:(List.take i (List.map ints r)).length=i:=by simp_all
    obtain⟨q,u⟩:∃q,r.length-i=q+1:=⟨r.length-i-1,by omega⟩;have v:r.length-(i+1)=q:=by omega
    have B:List.drop (i+1) (List.take i (List.map ints r)++List.replicate (r.length-i) (AV.lit (.slice none 0 0)))=List.replicate q (.lit (.slice none 0 0)):=by
     rw[List.drop_append,List.drop_eq_nil_of_le (by omega),f,u,Nat.add_sub_cancel_left];simp
    have C:List.take (i+1) (List.map ints r)=List.take i (List.map ints r)++[ints r[i]]:=by rw[xC (by simp_all),acO]
    simp_all
   apply rn;simp[c,g1,f1.1,f1.2,aG,d,a]
   simp_all
 have g:i=r.length:=by omega
 subst g;apply rn;simp[k,o,c];refine .done (bj.thaw (σ0:=σ) (kk:=1) (es:=r.map ints) ⟨ab.l9 (ab.le_refl _) hb,.inr ⟨b,r.length,[],by simp,hb,by simp,λe j=>?_,?_,by simp⟩⟩ h)
 . obtain⟨x,_,rfl⟩:=zU.1 j
   rfl
 rw[fB (λe j=>by obtain⟨x,_,rfl⟩:=zU.1 j;rfl),abJ];have D:List.take r.length (List.map ints r)=List.map ints r:=abR (by simp)
 simp_all
theorem wx{P m ξ n ro ω K todo D rc}{G:Prop}(I:adu)
 (a:(∀env σ,I env σ->aa P m ξ n ro ω todo ⟨env,σ,D,rc⟩ K)->G) (b:∀env σ,I env σ->aa P m ξ n ro ω todo ⟨env,σ,D,rc⟩ K):G:=a b
abbrev Pt:adQ:=[.lit (.slice none 0 0),.lit (.slice none 0 0),ι 0,ι 0,ι 0,ι 0]
end
section
open Go Go.ck Go.Conc
variable{m:Mo}{σ:ab}{KF:adw}
section
variable{c k:Nat}{nums:adK}
namespace WY
abbrev YH:adB:=[⟨2,.take [0,2,3,4,7,9] false (.both 1 (.one 5 (.take [6,8] true (.one 10 (.done)))) (.one 5 (.take [1,6,8] true (.one 10 (.done)))))⟩]
theorem TK{a b t:Int}(c:2<=t/\t<=4)(d:0<=a/\a<t)(hb:1<=b/\b<t):0<=(a+b).tmod t/\(a+b).tmod t<t/\(a+b).tmod t≠a:=by
 rw[Int.tmod_eq_emod_of_nonneg (by omega)];have:t=2\/t=3\/t=4:=by omega
 grind
theorem Pu{a t}(b:2<=t/\t<=4):pM .rem .i64 a t=some (.int .i64 (a.tmod t)):=by simp[pM];omega
theorem Pv{t}(hk:k+7<1000000)(G:nums.length<1152921504606846976)(ht:2<=t/\t<=4)(hb:aU c nums k σ)(h:∀  x  σ',jf t x=0->pT c nums (k+7) σ σ'->KF (.val (cG x)) σ'):aB prog m 34 [.ref c 0,ι t] σ KF:=by
 obtain⟨n0,s0,_,a7⟩:=id hb;refine fs YH Tryz.func34 rfl (by kernel_rfl) ?_
 simp[Tryz.f34];refine bP.intro λi h4=>?_
 have n4:c≠i:=λe=>by simp_all
 have O:∀x,aU c nums k (σ.set i x):=λx=>⟨n0,s0,by assumption,by rw[ab.ah _ _ n4];exact a7⟩
 simp;have V:-9223372036854775808<=t-1/\t-1<=9223372036854775807:=by omega
 simp[V.1,V.2];refine cf Tryz.func16 rfl (fD (by omega) G ⟨by omega,by omega⟩ (O _) λd aC P L=>?_)
 apply rn;simp;refine cf Tryz.func13 rfl (eP (by omega) G (by omega) (by omega) L.1 λr v aE w=>?_)
 apply rn;simp;refine bP.intro λf h5=>?_
 have A:f≠c:=λe=>by subst e;obtain⟨_,_,_,q⟩:=w.1;simp_all
 have aL:∀y,y≠c->y≠i->v y=σ y:=λy o W=>by rw[w.2 y o,L.2 y o,ab.ah _ _ W]
 have q4:v i=some (.cells [ι 0,ι 0,ι 0,ι 0,ι 0]):=by rw[w.2 i (wK n4),L.2 i (wK n4),ab.ai]
 have s:f≠i:=λe=>by simp_all
 have P:0<=d/\d<t:=by omega
 apply wx (I:=λenv σ'=>∃b,(1<=b/\b<t)/\env 0=.ref c 0/\env 1=ι t/\env 4=.ref i 0/\env 5=.ref f 0/\aU c nums (k+3) σ'/\σ' i=some (.cells [ι 0,ι 0,ι 0,ι 0,ι 0])/\σ' f=some (.cells [ι d,ι ((d+b).tmod t),ι r,ι 0,ι 0])/\∀y,y≠c->y≠i->y≠f->σ' y=σ y)
 . intro u
   simp[aG,V.1,V.2]
   have Q:aU c nums (k+2) (v.set f (.cells [ι d,ι 0,ι r,ι 0,ι 0])):=by obtain⟨n,z,B,R⟩:=w.1;exact⟨n,z,B,by rw[ab.ah _ _ (wK A)];exact R⟩
   have fin:∀(b:Int) (g:ab),1<=b/\(b<=t-1\/b=1)->pT c nums (k+2+1) (v.set f (.cells [ι d,ι 0,ι r,ι 0,ι 0])) g->g f=some (.cells [ι d,ι 0,ι r,ι 0,ι 0])/\(-9223372036854775808<=d+b/\d+b<=9223372036854775807)/\∀(env:Env) (X:nz),env 0=.ref c 0->env 1=ι t->env 4=.ref i 0->env 5=.ref f 0->X=.cells [ι d,ι ((d+b).tmod t),ι r,ι 0,ι 0]->(∃b,(1<=b/\b<t)/\env 0=.ref c 0/\env 1=ι t/\env 4=.ref i 0/\env 5=.ref f 0/\aU c nums (k+3) (g.set f X)/\(g.set f X) i=some (.cells [ι 0,ι 0,ι 0,ι 0,ι 0])/\(g.set f X) f=some (.cells [ι d,ι ((d+b).tmod t),ι r,ι 0,ι 0])/\∀y,y≠c->y≠i->y≠f->(g.set f X) y=σ y):=λb g p j=>by
    refine⟨by rw[j.2 f A,ab.ai],by omega,λenv X M H J K eX=>⟨b,by omega,M,H,J,K,?_,?_,by rw[ab.ai,eX],λy o W y3=>?_⟩⟩
    . obtain⟨n,z,B,R⟩:=j.1
      exact⟨n,z,by omega,by rw[ab.ah _ _ (wK A)];exact R⟩
    . rw[ab.ah _ _ (wK s),j.2 i (wK n4),ab.ah _ _ (wK s)];exact q4
    rw[ab.ah _ _ y3,j.2 y o,ab.ah _ _ y3];grind
   refine⟨?_,?_⟩
   . refine cf Tryz.func13 rfl (eP (by omega) G (by omega) (by omega) Q λb g p j=>?_)
     obtain⟨g5,B,gI⟩:=fin b g p j;have Y:=Pu (a:=d+b) ht;apply pg;simp[g5,B.1,B.2,Y,aG];exact u _ _ (gI _ _ (by simp) (by simp) (by simp) (by simp) rfl)
   refine cf Tryz.func13 rfl (eP (by omega) G (by omega) (by omega) Q λb g p j=>?_)
   obtain⟨g5,B,gI⟩:=fin b g p j;have Y:=Pu (a:=d+b) ht;apply pg;simp[g5,B.1,B.2,Y,aG];exact u _ _ (gI _ _ (by simp) (by simp) (by simp) (by simp) rfl)
 rintro env g ⟨b,p,M,H,J,K,a8,u4,u5,a9⟩
 apply rn;simp[M,H,J,K];refine cf Tryz.func16 rfl (fD (by omega) G ⟨by omega,by omega⟩ a8 λo aO aW C=>?_)
 apply rn;simp[M,H,J,K];refine cf Tryz.func63 rfl (np (l:=[0,0,o]) (by omega) G (by simp) C.1 λfr S b0 D=>?_)
 have hf:0<=fr/\fr<=20:=by grind
 have v5:S f=some (.cells [ι d,ι ((d+b).tmod t),ι r,ι 0,ι 0]):=by rw[D.2 f A,C.2 f A];exact u5
 have r2:-9223372036854775808<=fr+20/\fr+20<=9223372036854775807:=by omega
 apply rn;simp[M,H,J,K,v5,aG,r2.1,r2.2];obtain⟨Z,ad,ax⟩:∃Z:Int,Z=(if fr+20<72 then fr+20 else 72)/\fr<=Z/\Z<=72:=⟨_,rfl,by omega,by omega⟩
 rw[<-ad]
 have T:aU c nums (k+5) (S.set f (.cells [ι d,ι ((d+b).tmod t),ι r,ι fr,ι 0])):=by obtain⟨n,z,B,R⟩:=D.1;exact⟨n,z,by omega,by rw[ab.ah _ _ (wK A)];exact R⟩
 refine cf Tryz.func13 rfl (eP (by omega) G (by omega) (by omega) T λW σ6 b1 E=>?_)
 apply rn;simp[M,H,J,K];refine cf Tryz.func63 rfl (np (l:=[72,72,W]) (by omega) G (by simp) E.1 λtt U al F=>?_)
 have b2:fr<=tt/\tt<=72:=by simp at al;omega
 have w5:U f=some (.cells [ι d,ι ((d+b).tmod t),ι r,ι fr,ι 0]):=by rw[F.2 f A,E.2 f A,ab.ai]
 have w4:U i=some (.cells [ι 0,ι 0,ι 0,ι 0,ι 0]):=by rw[F.2 i (wK n4),E.2 i (wK n4),ab.ah _ _ (wK s),D.2 i (wK n4),C.2 i (wK n4)];exact u4
 apply rn;simp[M,H,J,K,w5,w4,s,wK s,ab.ah,aG];obtain⟨nb,zb,O,av⟩:=F.1;have ay:=TK ht P p
 have hw:jf t ⟨d,(d+b).tmod t,r,fr,tt⟩=0:=by
  have H:bn d 0 (t-1)=true:=by simp only[bn,wL,zG];omega
  have Y:bn ((d+b).tmod t) 0 (t-1)=true:=by simp only[bn,wL,zG];omega
  have e3:bn r 1 12=true:=by simp only[bn,wL,zG];omega
  have J:bn fr 0 72=true:=by simp only[bn,wL,zG];omega
  have K:bn tt 0 72=true:=by simp only[bn,wL,zG];omega
  unfold jf
  grind
 refine .less (σ':=σ.set c (.cells [ints nums,ι nb,.lit (.int .u64 zb)])) (λy x N=>?_) (.done (h ⟨d,(d+b).tmod t,r,fr,tt⟩ _ hw ⟨⟨nb,zb,by omega,ab.ai _ _ _⟩,λy N=>ab.ah _ _ N⟩))
 have s5:σ f=none:=by simp_all
 by_cases o:y=c
 . subst o
   rw[ab.ai]at N;rw[ab.ah _ _ n4,ab.ah _ _ (wK A),av];exact N
 rw[ab.ah _ _ o]at N;have y4:y≠i:=λe=>by simp_all
 have y5:y≠f:=λe=>by simp_all
 rw[ab.ah _ _ y4,ab.ah _ _ y5,F.2 y o,E.2 y o,ab.ah _ _ y5,D.2 y o,C.2 y o,a9 y o y4 y5];exact N
end WY
end
end
section
open Go.ck Go.Conc
theorem iA{l:adK}{i}(h:i<l.length):l.getD i 0∈l:=by simp_all
theorem Rn{l:adK}{x}(h:x∈l):∃i,i<l.length/\l.getD i 0=x:=by obtain⟨i,a,e⟩:=abD.1 h;exact⟨i,a,by simp_all⟩
structure vw(f x:Fr)(L:adK):Prop where
 roads:x.roads=f.roads
 fr:x.aK=f.aK
 to:x.dE=f.dE
 cP:x.cP=f.cP
 aT:f.aT<=x.aT
 I1:∀i∈L,0<=i/\i<f.aA.length
 rX:x.aA=L.map (aP f)
section
variable{f x:Fr}{L:adK}
theorem vw.len(h:vw f x L):x.aA.length=L.length:=by rw[h.rX,zH]
theorem vw.at(h:vw f x L){j:Int}(b:0<=j/\j<L.length):aP x j=aP f (L.getD j.toNat 0):=by
 have a:j.toNat<L.length:=by omega
 unfold aP;rw[h.rX,wN,abw,xW a,wN (l:=L),xW a];rfl
theorem vw.bM(h:vw f x L)(e:sP):bM x e=bM f e:=by unfold Go.Proofs.YtebcbkhnlnkolaaGreatDoor.bM jC;rw[h.fr,h.to]
theorem vw.one(h:vw f x L)(m:x.Good){l l':adK}(e:∀j∈l',(0<=j/\j<L.length)/\L.getD j.toNat 0∈l)(i:TJ f l):TJ x l':=by
 have c:∀j∈l',aP x j=aP f (L.getD j.toNat 0):=λj k=>h.at (e j k).1
 refine⟨λa d b hb=>?_,?_,λa d b hb n=>?_⟩
 . rw[c a d,c b hb];exact i.cZ _ (e a d).2 _ (e b hb).2
 . obtain⟨z,p⟩:=i.UM
   exact⟨z,λj k=>by rw[h.bM,c j k];simp_all⟩
 by_cases g:L.getD a.toNat 0=L.getD b.toNat 0
 . have q:=Pr m (x:=b) (by rw[h.len];simp_all)
   have o:=c a d;rw[g,<-c b hb]at o;refine .inl ?_;unfold Fit fW at *
   simp_all
 have:=i.fit _ (e a d).2 _ (e b hb).2 g;unfold Fit fW at this ⊢;rw[c a d,c b hb,h.roads,h.cP];exact this
theorem vw.cM(h:vw f x L)(E:f.Good)(u:x.Good){w}(F:w∈aH f []):∃v∈aH x [],∀i j ,i<L.length->j<L.length->jD i j v=jD (L.getD i 0) (L.getD j 0) w:=by
 rw[<-sK E,ace]at F;obtain⟨y,z⟩:=F;obtain⟨wl,G,_⟩:=rz _ _ y;obtain⟨p,R⟩:∃p,p=L.map λj=>w.getD j.toNat 0:=⟨_,rfl⟩
 have g:p.length=L.length:=by simp_all
 have o:∀j,j<L.length->0<=L.getD j 0/\(L.getD j 0).toNat<w.length:=λj l=>by have:=h.I1 _ (iA l);omega
 have m:∀j,j<L.length->p.getD j 0=w.getD (L.getD j 0).toNat 0:=λj l=>by simp_all
 have r:∀c∈p,∃j,j<L.length/\p.getD j 0=c/\c∈w:=λc d=>by
  obtain⟨j,l,H⟩:=Rn d
  grind
 obtain⟨v,s,d⟩:=FD p;have A:=z;unfold r6 at A;rw[wL,aaD,zG]at A;refine⟨v,?_,λi j n l=>?_⟩
 . rw[<-sK u,ace,h.len,<-g]
   refine⟨d.part,?_⟩;unfold r6;rw[wL,aaD,d.many];have J:=qI w
   have S:=vv (bI w).toNat s d.nd λc B=>by obtain⟨_,_,_,a⟩:=r c (d.sub c B);have:=G c a;have:=sM a;omega
   refine⟨decide_eq_true (by have:=h.aT;omega),λk T=>?_⟩
   have t:k<s.length:=by grind
   rw[zG,d.zI k t];obtain⟨j,l,e,a⟩:=r _ (d.sub _ (xE t));generalize s[k]=c at *;have K:=G c a;have M:=sM a;have b:=acL (A.2 c.toNat (aaC.2 (by omega)))
   rw[show(c.toNat:Int)=c by omega]at b
   have C:bt w c≠[]:=acB (gF (i:=(L.getD j 0).toNat) (o j l).2 (by grind))
   have D:bt p c≠[]:=acB (gF (i:=j) (by omega) e)
   rw[I3 E C (r8 w c) λi n=>by have:=dt n;omega]at b
   rw[I3 u D (r8 p c) λi n=>by have:=dt n;rw[g,<-h.len]at this;omega]
   refine h.one u (λi n=>?_) b
   obtain⟨N,I,O⟩:=dt n;rw[g]at I;have P:=o i.toNat (by omega)
   refine⟨⟨N,I⟩,?_⟩;have:=gF (w:=w) (k:=c) (i:=(L.getD i.toNat 0).toNat) P.2 (by rw[<-m _ (by omega)];exact O)
   rwa [show((L.getD i.toNat 0).toNat:Int)=L.getD i.toNat 0 by omega]at this
 have Q:=m i n;have H:=m j l;rw[acx];constructor
 . intro q
   have:=zL d (by omega) (by omega) q
   rw[Q,H]at this;simp only[jD,zG];exact this
 intro q;simp only[jD,zG]at q;exact zK d (by omega) (by omega) (by omega)
end
theorem zN  p :∀n ,n<=6->(0<=bg ((pW n).filter p)/\bg ((pW n).filter p)<64)/\aD (bg ((pW n).filter p))=(pW n).filter p
 | 0,_=>by
   show(0<=bg []/\bg []<64)/\aD (bg [])=[];decide
 | n + 1,h=>by
   obtain⟨a,b⟩:=zN p n (by omega);rw[zo];split
   . rw[nJ]
     exact⟨(Hc a (by omega)).1,by rw[BL a (by omega) λe c=>by grind,b]⟩
   simp_all
section
variable{w:eG}
abbrev FG(w:eG)(es cs:adK):adK:=es++cs.map λ(c:Int)=>c+(w.fair.aA.length:Int)
theorem Pw{i:Int}(h:0<=i/\i<w.fair.aA.length):aP (gQ w) i=aP w.fair i:=by
 have:i.toNat<w.fair.aA.length:=by omega
 unfold aP gQ
 grind
theorem Px{c:Int}(h:0<=c/\c<w.au.length):aP (gQ w) (c+w.fair.aA.length)=(zp w c).lost:=by
 have a:c.toNat<w.au.length:=by omega
 have e:(c+w.fair.aA.length).toNat=w.fair.aA.length+c.toNat:=by omega
 unfold aP gQ zp
 simp_all
theorem Xb:(gQ w).aA.length=w.fair.aA.length+w.au.length:=by simp_all
theorem FH{es cs:adK}(b:∀i∈es,0<=i/\i<w.fair.aA.length)(d:∀i∈cs,0<=i/\i<w.au.length):vw (gQ w) (cU w es cs) (FG w es cs):=
 ⟨rfl,rfl,rfl,rfl,Int.le_refl _,λi a=>by
   grind,by
   show _=(es++cs.map λ(c:Int)=>c+(w.fair.aA.length:Int)).map (aP (gQ w));rw[aaJ,acK];show es.map (aP w.fair)++_=_;rw[acf (g:=aP (gQ w)) λi a=>(Pw (b i a)).symm];congr 1
   . exact acf λi a=>(Px (d i a)).symm⟩
theorem Ln(b:w.Valid){es cs:adK}(f:∀i∈es,0<=i/\i<w.fair.aA.length)(g:∀i∈cs,0<=i/\i<w.au.length)(j:es.length+cs.length<=6):(cU w es cs).Good:=by
 have a:=ku b.mQ b.nK;have c:=FH f g
 have d:∀e∈(cU w es cs).aA,e∈(gQ w).aA:=λe q=>by rw[c.rX]at q;obtain⟨i,h,rfl⟩:=zU.1 q;exact iz (c.I1 i h)
 have hlen:(cU w es cs).aA.length=es.length+cs.length:=by grind
 exact⟨⟨by omega,a.fits.roads,a.fits.row,λe q=>a.fits.marks e (d e q)⟩,a.fr,a.to,a.le,a.cP,a.aT,by omega,λe q=>a.rX e (d e q),a.J6⟩
theorem kA{h i}(hi:i∈fh w h):0<=i/\i<w.fair.aA.length:=rv (ace.1 hi).1
theorem lX{h i}(hi:i∈fH w h):0<=i/\i<w.au.length:=rv (ace.1 hi).1
theorem HA  w   h :(fh w h).length<=w.fair.aA.length:=by
 have:=abP (pE w h) (pW w.fair.aA.length)
 rwa [xp]at this
theorem HB  w   h :(fH w h).length<=w.au.length:=by
 have:=abP (pC w h) (pW w.au.length)
 rwa [xp]at this
theorem eG.Valid.kE(a:w.Valid)(h:Int):aD (kE w h)=fh w h:=(zN _ _ (by have:=a.nK;omega)).2
theorem eG.Valid.kC(a:w.Valid)(h:Int):aD (kC w h)=fH w h:=(zN _ _ (by have:=a.nK;omega)).2
abbrev pL(w:eG)(h:Int):Fr:=cU w (fh w h) (fH w h)
abbrev sa(w:eG)(h:Int):adK:=FG w (fh w h) (fH w h)
theorem Lp  w   h :vw (gQ w) (pL w h) (sa w h):=FH (λ_=>kA) λ_=>lX
theorem zO(a:w.Valid)  h :(pL w h).Good:=Ln a (λ_=>kA) (λ_=>lX) (by have:=HA w h;have:=HB w h;have:=a.nK;omega)
theorem eG.Valid.open(a:w.Valid):w.Open:=by
 have c:=a.nK;refine⟨⟨by omega,a.Ar.1⟩,λh=>?_⟩;have hb:=zO a h;obtain⟨v,b⟩:=acv _ a.some;obtain⟨u,d,_⟩:=(Lp w h).cM (ku a.mQ c) hb b;refine⟨?_,?_,?_,?_⟩<;>simp only[a.kE,a.kC]
 . exact λ_=>kA
 . exact λ_=>lX
 . exact hb
 grind
end
end
section
open Go.ck Go.Conc
variable{m:Mo}{σ:ab}{KF:adw}
def kT(a b:adK):adK:=a.filter λx=>decide (x∉b)
def Xc(a b:adK):Int:=((kT a b).length:Int)+((kT b a).length:Int)
theorem zP{a b:adK}{i}  h :kT (a.take (i+1)) b=kT (a.take i) b++if a[i]∈b then[]else[a[i]]:=by
 unfold kT;rw[xC h,ack]
 grind
theorem ov  a b :(kT a b).length<=a.length:=abP _ _
def Py:adq:=[[],[0],[1],[2],[0,1],[0,2],[1,2],[0,1,2]]
theorem FI{l}(h:l.Sublist [0,1,2]):l∈Py:=by cases h<;>(rename_i h;cases h<;>(rename_i h;cases h<;>(rename_i h;cases h;decide)))
theorem Ro:∀a∈Py,∀b∈Py,Xc a b=bS (bg a) (bg b):=by decide +kernel
theorem FJ{a b}(c:a.Sublist [0,1,2])(hb:b.Sublist [0,1,2]):Xc a b=bS (bg a) (bg b):=Ro _ (FI c) _ (FI hb)
theorem HC{a b}(x:a.length<1000000)(hb:b.length<1000000)(h:KF (.val (ι (Xc a b))) σ):aB prog m 62 [ints a,ints b] σ KF:=by
 refine fs [] Tryz.func62 rfl (by kernel_rfl) ?_
 simp[Tryz.f62];refine aa.loop a.length (λi s=>∃env,s=⟨env,σ,[],.no⟩/\env 0=ints a/\env 1=ints b/\env 5=ι ((kT (a.take i) b).length:Int)/\env 6=ι i) ⟨_,rfl,by simp[kT]⟩ ?_
 rintro u i _ v ⟨env,rfl,e,f,d,n⟩ r
 rcases abC i a.length with g1|g1
 . have t:(i:Int)<a.length:=by omega
   have j:=ov (a.take i) b;rw[aca]at j;have f1:-9223372036854775808<=(i:Int)+1/\(i:Int)+1<=9223372036854775807:=by omega
   have o:-9223372036854775808<=((kT (a.take i) b).length:Int)+1/\((kT (a.take i) b).length:Int)+1<=9223372036854775807:=by omega
   have c:=zP (b:=b) g1;apply rn;simp[e,f,d,n,g1];refine cf Tryz.func21 rfl (ub (by omega) ?_)
   by_cases q:a[i]∈b
   . rw[zR q,abJ]at c
     have k:¬rC b a[i]<0:=by have:=(mJ b a[i]).2 q;omega
     apply rn;simp[e,f,d,n,k,f1.1,f1.2]
     simp_all
   rw[zA q]at c
   have k:rC b a[i]<0:=by
    rcases Int.lt_or_le (rC b a[i]) 0 with g|g
    . exact g
    exact absurd ((mJ b a[i]).1 g) q
   apply rn;simp[e,f,d,n,k,f1.1,f1.2,o.1,o.2]
   simp_all
 have l:i=a.length:=by omega
 subst l;rw[aaF]at d;have w:=ov a b;apply rn;simp[e,f,d,n];refine aa.loop b.length (λi s=>∃env,s=⟨env,σ,[],.no⟩/\env 0=ints a/\env 1=ints b/\env 5=ι (((kT a b).length:Int)+((kT (b.take i) a).length:Int))/\env 7=ι i) ⟨_,rfl,by simp[e,f,kT,d]⟩ ?_
 clear e f d n r
 rintro u i _ v ⟨env,rfl,e,f,d,p⟩ r
 rcases abC i b.length with g1|g1
 . have t:(i:Int)<b.length:=by omega
   have j:=ov (b.take i) a;rw[aca]at j;have f1:-9223372036854775808<=(i:Int)+1/\(i:Int)+1<=9223372036854775807:=by omega
   have o:-9223372036854775808<=((kT a b).length:Int)+((kT (b.take i) a).length:Int)+1/\((kT a b).length:Int)+((kT (b.take i) a).length:Int)+1<=9223372036854775807:=by omega
   have c:=zP (b:=a) g1;apply rn;simp[e,f,d,p,g1];refine cf Tryz.func21 rfl (ub (by omega) ?_)
   by_cases q:b[i]∈a
   . rw[zR q,abJ]at c
     have k:¬rC a b[i]<0:=by have:=(mJ a b[i]).2 q;omega
     apply rn;simp[e,f,d,p,k,f1.1,f1.2]
     simp_all
   rw[zA q]at c
   have k:rC a b[i]<0:=by
    rcases Int.lt_or_le (rC a b[i]) 0 with g|g
    . exact g
    exact absurd ((mJ a b[i]).1 g) q
   apply rn;simp[e,f,d,p,k,f1.1,f1.2,o.1,o.2];refine r _ g1 ⟨_,rfl,by simp_all,by simp_all,by simp[c,Int.add_assoc]⟩
 have l:i=b.length:=by omega
 subst l;rw[aaF]at d;apply rn;simp[e,f,d,p];exact .done h
structure Pz  eD  (e:sP):Prop where
 hour:0<=e.hour/\e.hour<=72
 place:0<=e.place/\e.place<eD
 cZ:0<=e.cZ/\e.cZ<=1
 marks:e.marks.Sublist [0,1,2]
 bD:0<=e.bD/\e.bD<=30
 kg:0<=e.kg/\e.kg<=2
theorem Pz.check{eD e}(h:Pz eD e):cz eD e=0:=by
 obtain⟨b,c,d,a,f,g⟩:=h;have a:=(lU a).1;unfold cz bn
 grind
structure HE  cnt  (f:Fr)  ks :Prop where
 oh:f.Good
 len:(f.aA.length:Int)<=cnt
 eD:f.roads.length<=3
 row:∀r∈f.roads,r.length<=3
 marks:∀e∈f.aA,e.marks.length<=3
 aT:f.aT<=3
 seen:∃  aT   C H   last ,Seen f aT C H ks f.aA last/\(aT:Int)=f.aT
theorem BN{k}:∀  es   i   x ,i<es.length->(∀e∈es,e.cells.length=k)->x.cells.length=k->(flatten es).take (i*k)++x.cells++(flatten es).drop (i*k+k)=flatten (es.set i x)
 | e::es,0,x,_,a,b=>by
   have c:=a e (by simp);rw[List.set_cons_zero,flatten_cons,flatten_cons]
   grind
 | e::es,i+1,x,g,a,b=>by
   have c:=a e (by simp);have d:=BN es i x (by simp_all) (λy f=>a y (by simp[f])) b;rw[List.set_cons_succ,flatten_cons,flatten_cons,<-d,acr,Nat.one_mul,adf,List.drop_append];rw[abR (by omega),List.drop_eq_nil_of_le (by omega),c,show i*k+k-k=i*k by omega,show i*k+k+k-k=i*k+k by omega];simp
theorem PA{f n h}(g:f.aK<=f.dE)(i:0<=n.kg/\n.kg<=2)(hb:(n.kg≠1/\n.bD=h)\/(n.kg≠0/\∃y,f.aK<=y/\y<=f.dE/\n.bD=h+y)):h∈bM f n:=by
 have a:n.kg≠1->n.bD∈bM f n:=λc=>by
  unfold bM
  grind
 have b:∀x,x∈jC f n->x∈bM f n:=λx j=>by
  unfold bM
  grind
 rcases hb with⟨c,rfl⟩|⟨d,y,k,l,e⟩
 . exact a c
 refine b _ ?_;unfold jC;rw[zR d];exact zU.2 ⟨(f.dE-y).toNat,aaC.2 (by omega),by omega⟩
theorem uy{σ0 σ σ1 σ' a kk es}(h:Tok σ0 σ a kk es)(c:σ1.Le σ')(hb:∀b,bC a=some b->σ' b=σ b/\σ1 b=none):Tok σ1 σ' a kk es:=by
 refine⟨c,?_⟩;rcases h.2 with q|q|⟨b,e,f,d,g⟩
 . exact .inl q
 . simp_all
 obtain⟨i,j⟩:=hb b (by rw[d];rfl)
 grind
theorem I4{σ0 σ σ2 a kk es c}(h:bj σ0 σ a kk es)(i:σ0 c=none)(f:bd a≠some c)(d:∀y,y≠c->σ2 y=σ y):bj σ0 σ2 a kk es:=h.keep (λy x g=>by rw[d y (λe=>by simp_all)];exact h.1 y x g) λb hb=>⟨d b (λe=>f (e ▸ hb)),(h.cx hb).1⟩
theorem Rq{σ0 σ σ' a c j kk k m es n o}(h:Tok σ0 σ a kk es)(f:bj σ0 σ c k n)(g:bj (σ.sn c) σ' j m o):Tok σ0 σ' a kk es:=
 uy h (ab.le_trans f.here.2 g.1) λb hb=>by
  obtain⟨p,e,i⟩:=h.bf hb;have d:bd c≠some b:=λq=>by obtain⟨_,l,r⟩:=f.cx q;simp_all
  exact⟨by rw[i];exact g.1 b _ (by rw[ab.gk d];exact i),p⟩
theorem Rr{σ0 σ σ' a c j kk k m es n o}(h:bj σ0 σ a kk es)(f:Tok σ0 σ c k n)(g:Tok (σ.off c) σ' j m o):bj σ0 σ' a kk es:=
 h.keep (ab.le_trans f.here.2 g.1) λb hb=>by
  obtain⟨p,l,i⟩:=h.cx hb;have d:bC c≠some b:=λq=>by obtain⟨_,e,r⟩:=f.bf q;simp_all
  exact⟨by rw[i];exact g.1 b _ (by rw[ab.eh d];exact i),p⟩
theorem lJ{env:Env}{t u v}(h:u≠t):(env.upd t v) u=env u:=by simp_all
theorem UO{env:Env}{t v}:(env.upd t v) t=v:=by simp_all
structure I5(V:Nat->AV)(Ax:Env)  σ6   c c13 K   nums   T  (X:Int->adQ) (done:adL) (env:Env)  σ :Prop where
 base:∀s,s<97->env s=Ax s
 dU:∀i,i∈done->i≠33->i≠34->i<36->env (97+i)=V i
 pre:33∉done->σ=σ6
 post:33∈done->36∉done->aU c nums K σ/\∀y,y≠c->σ y=σ6 y
 pick:33∈done->∃p ,(0<=p/\p<=3)/\env 130=ι p/\(34∈done->env 131=ι (T+p))
 all:36∈done->∀j,j<36->j∈done
 dep:34∈done->33∈done
 fin:36∈done->∃p ,(0<=p/\p<=3)/\aU c nums K σ/\σ c13=some (.cells (X (T+p)))/\∀y,y≠c->y≠c13->σ y=σ6 y
section
variable{V:Nat->AV}{Ax env:Env}{σ6:ab}{c c13 K:Nat}{nums:adK}{T:Int}{X:Int->adQ}{done:adL}
theorem I5.Rs(h:I5 V Ax σ6 c c13 K nums T X done env σ){i}(hi:i<36)(b:i∉done):36∉done:=λa=>b (h.all a i hi)
theorem I5.keep(h:I5 V Ax σ6 c c13 K nums T X done env σ){i}(hi:i<36)(a:i∉done){y}(b:y≠c):σ y=σ6 y:=by
 by_cases q:33∈done
 . exact(h.post q (h.Rs hi a)).2 y b
 rw[h.pre q]
theorem I5.next(h:I5 V Ax σ6 c c13 K nums T X done env σ){i}(hi:i<36)(m:i∉done)(w:i≠33)(x:i≠34){a}(y:a=V i):I5 V Ax σ6 c c13 K nums T X (i::done) (env.upd (97+i) a) σ:=by
 have b:33∈i::done↔33∈done:=by grind
 have f:34∈i::done↔34∈done:=by grind
 have k:=h.Rs hi m;have d:36∉i::done:=by grind
 refine⟨λs n=>?_,λj o r t u=>?_,λq=>h.pre λl=>q (b.2 l),λq _=>h.post (b.1 q) k,λq=>?_,λq=>absurd q d,λq=>b.2 (h.dep (f.1 q)),λq=>absurd q d⟩
 . rw[lJ (by omega)];exact h.base s n
 . by_cases e:j=i
   . simp_all
   rw[lJ (by omega)];exact h.dU j ((aaM.1 o).resolve_left e) r t u
 obtain⟨p,v,l,z⟩:=h.pick (b.1 q);exact⟨p,v,by rw[lJ (by omega)];exact l,λg=>by rw[lJ (by omega)];simp_all⟩
theorem I5.TL(h:I5 V Ax σ6 c c13 K nums T X done env σ)(l:33∉done)(b:34∉done){p}(m:0<=p/\p<=3){σ'}(hb:aU c nums K σ')(d:∀y,y≠c->σ' y=σ6 y):I5 V Ax σ6 c c13 K nums T X (33::done) (env.upd 130 (ι p)) σ':=by
 have e:=h.Rs (i:=33) (by omega) l;have a:36∉33::done:=by simp[e]
 have f:34∉33::done:=by simp[b]
 refine⟨λs d=>?_,λj n k o r=>?_,λq=>absurd (by simp) q,λ_ _=>⟨hb,d⟩,λq=>⟨p,m,by simp_all,λg=>absurd g f⟩,λq=>absurd q a,λ_=>by simp,λq=>absurd q a⟩
 . rw[lJ (by omega)];exact h.base s d
 rw[lJ (by omega)];exact h.dU j ((aaM.1 n).resolve_left k) k o r
theorem I5.summed(h:I5 V Ax σ6 c c13 K nums T X done env σ)(f:34∉done)(a:33∈done){p}(k:0<=p/\p<=3)(r:env 130=ι p):I5 V Ax σ6 c c13 K nums T X (34::done) (env.upd 131 (ι (T+p))) σ:=by
 have b:=h.Rs (i:=34) (by omega) f;have d:36∉34::done:=by simp[b]
 refine⟨λs l=>?_,λj m n e o=>?_,λq=>absurd (by simp[a]) q,λ_ _=>h.post a b,λq=>⟨p,k,by simp_all,λg=>by simp_all⟩,λq=>absurd q d,λ_=>by simp[a],λq=>absurd q d⟩
 . rw[lJ (by omega)];exact h.base s l
 rw[lJ (by omega)];exact h.dU j ((aaM.1 m).resolve_left e) n e o
end
theorem Da{σ0 σ σ' a c f kk j k es l m}(h:Tok σ0 σ a kk es)(n:Tok σ0 σ c j l)(hd:∀b,bC a=some b->bC c≠some b)(d:Tok (σ.off c) σ' f k m):Tok σ0 σ' a kk es/\∀b,bC a=some b->bC f≠some b:=by
 have key:∀b,bC a=some b->(σ.off c) b=σ b:=λb hb=>ab.eh (hd b hb)
 refine⟨uy h (ab.le_trans n.here.2 d.1) λb hb=>?_,λb hb q=>?_⟩
 . obtain⟨g,e,i⟩:=h.bf hb
   exact⟨by rw[i];exact d.1 b _ (by simp_all),g⟩
 obtain⟨g,e,i⟩:=h.bf hb;obtain⟨o,_,_⟩:=d.bf q
 simp_all
section
variable{c k:Nat}{nums:adK}
theorem Lq{cnt}(hk:k+500<1000000)(hn:nums.length<1152921504606846976)(si:1<=cnt/\cnt<=6)(hb:aU c nums k σ)(h:∀  f   ks  σ',HE cnt f ks->pT c nums (k+500) σ σ'->KF (.val (.cH [dv f,ints ks])) σ'):aB prog m 32 [.ref c 0,ι cnt] σ KF:=by
 obtain⟨n0,s0,_,ob⟩:=id hb;refine fs Yo Tryz.func32 rfl (by kernel_rfl) ?_
 simp[Tryz.f32];refine bP.intro λX h4=>?_
 have n4:c≠X:=λe=>by simp_all
 have hH:∀x,aU c nums k (σ.set X x):=λx=>⟨n0,s0,by assumption,by rw[ab.ah _ _ n4];exact ob⟩
 simp;refine cf Tryz.func60 rfl (Hg (cnt:=0) (by omega) hn ⟨by omega,by omega⟩ (hH _) λf0 a0 hK Z ee oc=>?_)
 obtain rfl:=oc.1 (adb.1 (by have:=Z.len;omega))
 have bm:X≠c:=wK n4;have oj:hK X=some (.cells gO):=by rw[ee.2 X bm,ab.ai]
 apply rn;simp;refine bP.intro λP h6=>?_
 have n6:P≠c:=λe=>by subst e;obtain⟨_,_,_,q⟩:=ee.1;simp_all
 have fa:P≠X:=λe=>by simp_all
 have ox:σ P=none:=by rw[ee.2 P n6,ab.ah _ _ fa]at h6;exact h6
 simp
 have gG:∀x,aU c nums (k+20) (hK.set P x):=λx=>by obtain⟨n,z,g1,g2⟩:=ee.1;exact⟨n,z,g1,by rw[ab.ah _ _ (wK n6)];exact g2⟩
 refine cf Tryz.func13 rfl (eP (by omega) hn ⟨by omega,by omega⟩ ⟨by omega,by omega⟩ (gG _) λaT dx ts fc=>?_)
 have t6:dx P=some (.cells [.lit (.slice none 0 0),rows f0.roads,ι f0.aK,ι f0.dE,ι f0.cP,ι f0.aT]):=by rw[fc.2 P n6,ab.ai]
 have t4:dx X=some (.cells gO):=by rw[fc.2 X bm,ab.ah _ _ (wK fa)];exact oj
 apply rn;simp[t6,aG];obtain⟨mo,rfl⟩:∃mo:Nat,aT=(mo:Int):=⟨aT.toNat,by omega⟩
 have tC:1<=mo/\mo<=3:=by omega
 have gH:=Z.eD;obtain⟨A6,eg⟩:∃A6:AV->adQ,A6=λa=>[a,rows f0.roads,ι f0.aK,ι f0.dE,ι f0.cP,ι mo]:=⟨_,rfl⟩
 have oF:∀a,(A6 a).length=6:=λa=>by grind
 have b3:σ.del c c=none:=by simp[ab.del]
 have hL:aU c nums (k+21) (dx.set P (.cells (A6 (.lit (.slice none 0 0))))):=by obtain⟨n,z,g1,g2⟩:=fc.1;exact⟨n,z,by omega,by rw[ab.ah _ _ (wK n6)];exact g2⟩
 have al:(σ.del c).Le (dx.set P (.cells (A6 (.lit (.slice none 0 0))))):=λy x hy=>by
  have Y:y≠c:=λe=>by simp_all
  have y0:σ y=some x:=by simpa[ab.del,Y]using hy
  have y6:y≠P:=λe=>by simp_all
  have y4:y≠X:=λe=>by simp_all
  rw[ab.ah _ _ y6,fc.2 y Y,ab.ah _ _ y6,ee.2 y Y,ab.ah _ _ y4];exact y0
 have oG:σ.del c P=none:=by simp[ab.del,ox]
 have tE:σ.del c X=none:=by simp[ab.del,h4]
 have hO:(dx.set P (.cells (A6 (.lit (.slice none 0 0))))) X=some (.cells gO):=by rw[ab.ah _ _ (wK fa)];exact t4
 refine aa.loop mo (λi s=>∃env σ' la ha L H,s=⟨env,σ',[],.no⟩/\env 0=.ref c 0/\env 1=ι cnt/\env 4=.ref X 0/\env 6=.ref P 0/\env 7=la/\env 8=ha/\env 9=ι i/\aU c nums (k+21+12*i) σ'/\σ' X=some (.cells gO)/\σ' P=some (.cells (A6 (.lit (.slice none 0 0))))/\bj (σ.del c) σ' la 6 (L.map bb)/\Tok (σ.del c) σ' ha 1 (H.map ι)/\bd la≠some c/\bd la≠some X/\bd la≠some P/\L.length=i/\H.length=i/\(∀e∈L,zf f0.roads.length e)/\(∀x∈H,13<=x/\x<=16))
  ⟨_,dx.set P (.cells (A6 (.lit (.slice none 0 0)))),.lit (.slice none 0 0),.lit (.slice none 0 0),[],[],by rw[eg],by simp,by simp,by simp,by simp,by simp,by simp,by simp,hL,hO,ab.ai _ _ _,⟨al,.inl ⟨rfl,.inl rfl⟩⟩,⟨al,.inl ⟨rfl,rfl⟩⟩,by simp[bd],by simp[bd],by simp[bd],rfl,rfl,by simp⟩ ?_
 clear hL al hO
 rintro c0 i _ hi ⟨env,σ',la,ha,L,H,rfl,D,e1,G,E,F,J,e9,fg,q4,q6,ei,ej,ep,fi,fl,hP,oK,gI,hR⟩ ih
 have b4:=ei.cells;have d:=ej.cells;have a7:σ' P=some (.cells [.lit (.slice none 0 0),rows f0.roads,ι f0.aK,ι f0.dE,ι f0.cP,ι mo]):=by rw[q6,eg]
 rcases abC i mo with g1|g1
 . have hS:(i:Int)<mo:=by omega
   have f1:-9223372036854775808<=(i:Int)+1/\(i:Int)+1<=9223372036854775807:=by omega
   apply rn;simp[D,e1,G,E,F,J,e9,a7,b4.1,b4.2,d.1,d.2,g1];refine cf Tryz.func61 rfl (pn (by omega) hn ⟨by omega,by omega⟩ fg λe a8 he U=>?_)
   have hT:∃l,σ' c=some (.cells l):=by obtain⟨_,_,_,q⟩:=fg;exact⟨_,q⟩
   have et:=I4 ei b3 ep U.2;have hU:=rp ej b3 hT U.2;have ev:a8 X=some (.cells gO):=by rw[U.2 X bm];exact q4
   have ey:a8 P=some (.cells (A6 (.lit (.slice none 0 0)))):=by rw[U.2 P n6];exact q6
   apply rn;simp[D,e1,G,E,F,J,e9,a7,b4.1,b4.2,d.1,d.2];refine gi lay rfl rfl rfl mG rfl mG rfl yS (by decide) (by simp;omega) (σ0:=a8.sn la) (es:=L.map bb) (xs:=[bb e]) (by simpa using et.here.1) (.inl (.inr ⟨_,by simp;rfl⟩)) (by simp) λfp aO av=>?_
   have k4:∀y l,bd la≠some y->a8 y=some l->aO y=some l:=λy l hy hl=>av.1 _ _ (by rw[ab.gk hy];exact hl)
   have hX:=Rq hU et av;have gL:=av.base et.here.2
   have hY:aU c nums (k+21+12*i+11) aO:=by obtain⟨n,z,g1,g2⟩:=U.1;exact⟨n,z,g1,k4 _ _ ep g2⟩
   have fT:bd fp≠some c:=λq=>by obtain⟨g,_⟩:=av.cx q;obtain⟨_,_,_,g2⟩:=U.1;rw[ab.gk ep,g2]at g;cases g
   have hZ:bd fp≠some X:=λq=>by obtain⟨g,_⟩:=av.cx q;rw[ab.gk fi,ev]at g;cases g
   have ic:bd fp≠some P:=λq=>by obtain⟨g,_⟩:=av.cx q;rw[ab.gk fl,ey]at g;cases g
   have aL:=av.cells;apply rn;simp[D,J,aL.1,aL.2];refine cf Tryz.func13 rfl (eP (by omega) hn ⟨by omega,by omega⟩ ⟨by omega,by omega⟩ hY λx dy oL aW=>?_)
   have ie:∃l,aO c=some (.cells l):=by obtain⟨_,_,_,q⟩:=hY;exact⟨_,q⟩
   have c5:=rp hX b3 ie aW.2;have ix:=I4 gL b3 fT aW.2;apply rn;simp[D,J,aL.1,aL.2,d.1,d.2];refine aR lay rfl rfl rfl dS rfl dS rfl sF (by decide) (by simp;omega) (σ0:=dy.off ha) (es:=H.map ι) (xs:=[ι x]) (by simpa using c5.here.1) (.inr ⟨_,by simp;rfl⟩) λoM σ6 c7=>?_
   have k0:=Rr ix c5 c7;have gP:=c7.base c5.here.2;have gd:=c7.cells;have k6:∀y l,dy y=some (.cells l)->σ6 y=some (.cells l):=λy l hy=>c7.1 _ _ (by rw[ab.eh (λe=>by obtain⟨_,_,q⟩:=c5.bf e;rw[hy]at q;cases q)];exact hy)
   have oN:σ6 X=some (.cells gO):=k6 _ _ (by rw[aW.2 X bm];exact k4 _ _ fi ev)
   have oS:σ6 P=some (.cells (A6 (.lit (.slice none 0 0)))):=k6 _ _ (by rw[aW.2 P n6];exact k4 _ _ fl ey)
   have b1:aU c nums (k+21+12*(i+1)) σ6:=by obtain⟨n,z,g1,g2⟩:=aW.1;exact⟨n,z,by omega,k6 _ _ g2⟩
   apply rn;simp[D,e9,f1.1,f1.2,aL.1,aL.2,gd.1,gd.2];refine ih _ g1 ⟨_,σ6,fp,oM,L++[e],H++[x],rfl,by simp[D],by simp[e1],by simp[G],by simp[E],by simp,by simp,by simp,b1,oN,oS,by simpa using k0,by simpa using gP,fT,hZ,ic,by simp[hP],by simp[oK],λy hy=>?_,λy hy=>?_⟩
   . rcases KD.1 hy with hy|hy
     . exact gI y hy
     simp at hy;subst hy;exact he
   rcases KD.1 hy with hy|hy
   . exact hR y hy
   simp at hy;omega
 have p0:i=mo:=by omega
 subst p0;clear ih
 obtain⟨Q,cap,μ,rfl,r1,r2,r3,r4,r5⟩:∃Q cap μ,la=.fN Q 0 i cap/\σ.del c Q=none/\i<=cap/\(∀e∈L.map bb,e.cells.length=6)/\σ' Q=some (.cells (flatten (L.map bb)++μ))/\μ.length=(cap-i)*6:=by
  have eA:(L.map bb).length=i:=by simp_all
  rcases ei.2 with⟨e,_⟩|⟨b,cap,μ,g1,g2,g3,g4,g5,g6⟩
  . grind
  rw[eA]at g1 g3 g6
  grind
 have ay:Q≠c:=λe=>ep (by rw[e];rfl)
 have p5:Q≠X:=λe=>fi (by rw[e];rfl)
 have gR:Q≠P:=λe=>fl (by rw[e];rfl)
 have sj:σ Q=none:=by simpa[ab.del,ay]using r1
 refine aa.IC 8 (a':=ints H) (by rw[J];simpa using ej.W) ?_
 have b5:=ej.1;clear ei ej b4 d ep fi fl J;apply rn;simp[D,e1,G,E,F,e9,a7];refine cf Tryz.func13 rfl (eP (by omega) hn ⟨by omega,by omega⟩ ⟨by omega,by omega⟩ fg λq a8 hq U=>?_)
 have ev:a8 X=some (.cells gO):=by rw[U.2 X bm];exact q4
 have ey:a8 P=some (.cells (A6 (.lit (.slice none 0 0)))):=by rw[U.2 P n6];exact q6
 have k2:a8 Q=some (.cells (flatten (L.map bb)++μ)):=by rw[U.2 Q ay];exact r4
 have al:(σ.del c).Le a8:=λy x hy=>by
  have Y:y≠c:=λe=>by simp_all
  rw[U.2 y Y];exact b5 y x hy
 obtain⟨qn,rfl⟩:∃qn:Nat,q=(qn:Int):=⟨q.toNat,by omega⟩
 have tW:1<=qn/\qn<=6:=by omega
 have gf:aU c nums (k+60) a8:=U.1.mono (by omega)
 obtain⟨C,hC⟩:∃C,C=L.map (·.cZ):=⟨_,rfl⟩;obtain⟨f1,eB⟩:∃f1:Fr,f1=⟨[],f0.roads,f0.aK,f0.dE,f0.cP,(i:Int)⟩:=⟨_,rfl⟩
 have c9:Seen f1 i C H [] [] L:=⟨rfl,by simp,by simp,λj hj=>by simp at hj,λj hj=>by simp at hj,λa b _ hb=>by simp at hb,λj hj=>by simp at hj,λj hj=>by simp_all,hP⟩
 have gj:∀e∈L,Pz f0.roads.length e:=λe he=>by have:=gI e he;exact⟨⟨this.hour.1,by have:=this.hour;omega⟩,this.place,this.cZ,this.marks,⟨by have:=this.bD;omega,by have:=this.bD;omega⟩,this.kg⟩
 apply rn;simp[D,e1,G,E,F,e9,a7];have k3:=D;have k5:=G;have k7:=E;have k8:=F;clear D e1 G E F e9 a7 gI r3
 refine aa.loop qn (λj s=>∃env σ' a hh M es ks,s=⟨env,σ',[],.no⟩/\env 0=.ref c 0/\env 4=.ref X 0/\env 6=.ref P 0/\env 7=.fN Q 0 i cap/\env 8=ints H/\env 10=hh/\env 11=ι ((qn:Int)-j)/\aU c nums (k+60+16*j) σ'/\σ' X=some (.cells gO)/\σ' P=some (.cells (A6 a))/\σ' Q=some (.cells (flatten (M.map bb)++μ))/\Tok (σ.del c) σ' a 6 (es.map bb)/\Tok (σ.del c) σ' hh 1 (ks.map ι)/\(∀b,bC a=some b->bC hh≠some b)/\Seen f1 i C H ks es M/\(∀e∈M,Pz f0.roads.length e)/\(∀e∈es,e.marks.length<=3)/\es.length<=j)
  ⟨_,a8,.lit (.slice none 0 0),.lit (.slice none 0 0),L,[],[],rfl,by simp[k3],by simp[k5],by simp[k7],by simp[k8],by simp,by simp,by simp,gf,ev,ey,k2,⟨al,.inl ⟨rfl,rfl⟩⟩,⟨al,.inl ⟨rfl,rfl⟩⟩,λb hb=>by simp[bC]at hb,c9,gj,by simp⟩ ?_
 clear k3 k5 k7 k8 gf ev ey k2 al b5 c9 gj q4 q6 fg U r4
 rintro c1 j _ hj ⟨env,σ',a,hh,M,es,ks,rfl,D,G,E,F,J,cN,dw,gU,q4,q6,ql,b8,ea,gl,O,ft,gW,v3⟩ ih
 have o:=b8.cells;have d:=ea.cells;have a7:σ' P=some (.cells [a,rows f0.roads,ι f0.aK,ι f0.dE,ι f0.cP,ι i]):=by rw[q6,eg]
 rcases abC j qn with g1|g1
 . have hS : (0:Int)<(qn:Int)-j:=by omega
   have Gl:(j:Int)<qn:=by omega
   have f2:-9223372036854775808<=(i:Int)-1/\(i:Int)-1<=9223372036854775807:=by omega
   have f3:-9223372036854775808<=(qn:Int)-j-1/\(qn:Int)-j-1<=9223372036854775807:=by omega
   apply rn;simp[D,G,E,F,J,cN,dw,o.1,o.2,d.1,d.2,hS,Gl,g1,a7,f2.1,f2.2];refine cf Tryz.func16 rfl (fD (by omega) hn ⟨by omega,by omega⟩ gU λkk a8 v5 U=>?_)
   obtain⟨R,rfl⟩:∃R:Nat,kk=(R:Int):=⟨kk.toNat,by omega⟩
   have bw:R<i:=by omega
   have w6:a8 P=some (.cells [a,rows f0.roads,ι f0.aK,ι f0.dE,ι f0.cP,ι i]):=by rw[U.2 P n6];exact a7
   apply rn;simp[D,G,E,F,J,cN,dw,o.1,o.2,d.1,d.2,w6];refine cf Tryz.func61 rfl (pn (by omega) hn ⟨by omega,by omega⟩ U.1 λe aO he h1=>?_)
   have bx:∀y,y≠c->aO y=σ' y:=λy hy=>(h1.2 y hy).trans (U.2 y hy)
   have w6:aO P=some (.cells [a,rows f0.roads,ι f0.aK,ι f0.dE,ι f0.cP,ι i]):=by rw[bx P n6];exact a7
   have wl:aO Q=some (.cells (flatten (M.map bb)++μ)):=by rw[bx Q ay];exact ql
   have w4:aO X=some (.cells gO):=by rw[bx X bm];exact q4
   apply rn;simp[D,G,E,F,J,cN,dw,o.1,o.2,d.1,d.2,w6];refine bP.intro λc13 kt=>?_
   have m0:c13≠c:=λe=>by subst e;obtain⟨_,_,_,q⟩:=h1.1;simp_all
   have m4:c13≠X:=λe=>by subst e;simp_all
   have m6:c13≠P:=λe=>by subst e;simp_all
   have ml:c13≠Q:=λe=>by subst e;simp_all
   have fu:R<M.length:=by rw[O.TH];exact bw
   obtain⟨el,eA⟩:∃el,el=M[R]:=⟨_,rfl⟩;have b9:=ft el (by rw[eA];exact xE fu)
   obtain⟨CL,eC⟩:∃CL,CL=flatten (M.map bb)++μ:=⟨_,rfl⟩;rw[<-eC]at wl;have h2:∀x∈M.map bb,x.cells.length=6:=λx hx=>by obtain⟨y,_,rfl⟩:=zU.1 hx;rfl
   have gp:(flatten (M.map bb)).length=M.length*6:=by rw[aX (kk:=6) h2,zH]
   have ca:∀t,t<6->CL[R*6+t]?=(bb el).cells[t]?:=λt ht=>by
    rw[eC,aby (by omega)]
    exact mT (kk:=6) h2 (by rw[abw,xW fu,eA];rfl) t ht
   have kv:=ca 0 (by omega)
   have kx:=ca 1 (by omega)
   have ky:=ca 2 (by omega)
   have l1:=ca 3 (by omega)
   simp at kv kx ky l1;simp[D,G,E,F,J,cN,dw,o.1,o.2,d.1,d.2,wl,ab.ah,wK ml,bw,ky,aG]
   have p6:∀x,aU c nums (k+60+16*j+12) (aO.set c13 x):=λx=>by obtain⟨n,z,g1,g2⟩:=h1.1;exact⟨n,z,by omega,by rw[ab.ah _ _ (wK m0)];exact g2⟩
   refine cf Tryz.func16 rfl (fD (by omega) hn ⟨by omega,by omega⟩ (p6 _) λsh dy oL aW=>?_)
   have h3:dy c13=some (.cells [ι e.hour,ι e.place,ι el.cZ,ints e.marks,ι e.bD,ι e.kg]):=by rw[aW.2 c13 m0,ab.ai]
   have eb:R<H.length:=by omega
   obtain⟨h0,ec⟩:∃h0,h0=H[R]:=⟨_,rfl⟩;have so:13<=h0/\h0<=16:=hR _ (by rw[ec];exact xE eb)
   have h5:(H.map ι)[R]?=some (ι h0):=by rw[abw,xW eb,ec];rfl
   have l2:sh=0\/sh=1\/sh=2:=by omega
   have gw:0<=sh/\sh<=2:=by omega
   have l3:f0.aK<=f0.dE:=Z.to.1;have v7:0<=f0.aK/\f0.dE<=2:=⟨Z.fr.1,Z.to.2⟩
   have h7:∀x,aU c nums (k+60+16*j+13) (dy.set c13 x):=λx=>by obtain⟨n,z,g1,g2⟩:=aW.1;exact⟨n,z,by omega,by rw[ab.ah _ _ (wK m0)];exact g2⟩
   have h8:∀y,y≠c->y≠c13->dy y=σ' y:=λy Y y2=>by rw[aW.2 y Y,ab.ah _ _ y2,bx y Y]
   have sr:ks.length<1000000:=by rw[O.len];omega
   apply wx (I:=λenv σ6=>∃b,env 0=.ref c 0/\env 4=.ref X 0/\env 6=.ref P 0/\env 7=.fN Q 0 i cap/\env 8=ints H/\env 10=hh/\env 11=ι ((qn:Int)-j)/\env 12=ι R/\env 13=.ref c13 0/\env 80=ψ b/\aU c nums (k+60+16*j+14) σ6/\σ6 c13=some (.cells [ι e.hour,ι e.place,ι el.cZ,ints e.marks,ι h0,ι sh])/\(∀y,y≠c->y≠c13->σ6 y=σ' y)/\(b=true->sh≠0)/\(b=false->sh≠1))
   . intro T
     rcases l2 with rfl|rfl|rfl
     . refine aa.runN lay [] 28 ?_
       simp[D,G,E,F,J,cN,dw,o.1,o.2,d.1,d.2,h3,h5,eb,aG,<-ec]
       refine T _ _ ⟨false,by simp[D,G,E,F,J,cN,dw,o.1,o.2,d.1,d.2],by simp[D,G,E,F,J,cN,dw,o.1,o.2,d.1,d.2],by simp[D,G,E,F,J,cN,dw,o.1,o.2,d.1,d.2],by simp[D,G,E,F,J,cN,dw,o.1,o.2,d.1,d.2],by simp[D,G,E,F,J,cN,dw,o.1,o.2,d.1,d.2],by simp[D,G,E,F,J,cN,dw,o.1,o.2,d.1,d.2],by simp[D,G,E,F,J,cN,dw,o.1,o.2,d.1,d.2],by simp[D,G,E,F,J,cN,dw,o.1,o.2,d.1,d.2],by simp[D,G,E,F,J,cN,dw,o.1,o.2,d.1,d.2],by simp[D,G,E,F,J,cN,dw,o.1,o.2,d.1,d.2],(h7 _).mono (by omega),ab.ai _ _ _,λy Y y2=>by rw[ab.ah _ _ y2];exact h8 y Y y2,by simp⟩
     . refine aa.runN lay [] 28 ?_
       simp[D,G,E,F,J,cN,dw,o.1,o.2,d.1,d.2,h3,h5,eb,aG,<-ec]
       refine T _ _ ⟨true,by simp[D,G,E,F,J,cN,dw,o.1,o.2,d.1,d.2],by simp[D,G,E,F,J,cN,dw,o.1,o.2,d.1,d.2],by simp[D,G,E,F,J,cN,dw,o.1,o.2,d.1,d.2],by simp[D,G,E,F,J,cN,dw,o.1,o.2,d.1,d.2],by simp[D,G,E,F,J,cN,dw,o.1,o.2,d.1,d.2],by simp[D,G,E,F,J,cN,dw,o.1,o.2,d.1,d.2],by simp[D,G,E,F,J,cN,dw,o.1,o.2,d.1,d.2],by simp[D,G,E,F,J,cN,dw,o.1,o.2,d.1,d.2],by simp[D,G,E,F,J,cN,dw,o.1,o.2,d.1,d.2],by simp[D,G,E,F,J,cN,dw,o.1,o.2,d.1,d.2],(h7 _).mono (by omega),ab.ai _ _ _,λy Y y2=>by rw[ab.ah _ _ y2];exact h8 y Y y2,by simp⟩
     refine aa.runN lay [] 28 ?_;simp[D,G,E,F,J,cN,dw,o.1,o.2,d.1,d.2,h3,h5,eb,aG,<-ec];refine cf Tryz.func33 rfl (xl (by omega) hn ⟨by omega,by omega⟩ (h7 _) λb σ6 h9=>?_)
     refine aa.runN lay [] 3 ?_;simp[D,G,E,F,J,cN,dw,o.1,o.2,d.1,d.2]
     refine T _ _ ⟨b,by simp[D,G,E,F,J,cN,dw,o.1,o.2,d.1,d.2],by simp[D,G,E,F,J,cN,dw,o.1,o.2,d.1,d.2],by simp[D,G,E,F,J,cN,dw,o.1,o.2,d.1,d.2],by simp[D,G,E,F,J,cN,dw,o.1,o.2,d.1,d.2],by simp[D,G,E,F,J,cN,dw,o.1,o.2,d.1,d.2],by simp[D,G,E,F,J,cN,dw,o.1,o.2,d.1,d.2],by simp[D,G,E,F,J,cN,dw,o.1,o.2,d.1,d.2],by simp[D,G,E,F,J,cN,dw,o.1,o.2,d.1,d.2],by simp[D,G,E,F,J,cN,dw,o.1,o.2,d.1,d.2],by simp[D,G,E,F,J,cN,dw,o.1,o.2,d.1,d.2],h9.1,by rw[h9.2 c13 m0,ab.ai],λy Y y2=>by rw[h9.2 y Y,ab.ah _ _ y2];exact h8 y Y y2,by simp⟩
   clear D G E F J cN dw
   rintro env σ6 ⟨b,D,G,E,F,J,cN,dw,fI,K,fv,b1,a9,aC,l4,l5⟩
   apply wx (I:=λenv σ6=>∃ht,env 0=.ref c 0/\env 4=.ref X 0/\env 6=.ref P 0/\env 7=.fN Q 0 i cap/\env 8=ints H/\env 10=hh/\env 11=ι ((qn:Int)-j)/\env 12=ι R/\env 13=.ref c13 0/\env 95=ι (rC ks R)/\aU c nums (k+60+16*j+15) σ6/\σ6 c13=some (.cells [ι e.hour,ι e.place,ι el.cZ,ints e.marks,ι ht,ι sh])/\(∀y,y≠c->y≠c13->σ6 y=σ' y)/\((sh≠1/\ht=h0)\/(sh≠0/\∃y,f0.aK<=y/\y<=f0.dE/\ht=h0+y)))
   . intro T
     have hW:Wl [hh,ι R] [ints ks,ι R]:=.cons (by simpa using ea.W) (.cons (.refl _) .nil)
     cases b
     . apply rn
       simp[D,G,E,F,J,cN,dw,fI,K,fv];refine cA Tryz.func21 rfl rfl hW (ub (by omega) ?_)
       refine T _ _ ⟨h0,?_,?_,?_,?_,?_,?_,?_,?_,?_,?_,b1.mono (by omega),a9,aC,.inl ⟨l5 rfl,rfl⟩⟩<;>simp[D,G,E,F,J,cN,dw,fI,K,fv]
     have v6:σ6 P=some (.cells [a,rows f0.roads,ι f0.aK,ι f0.dE,ι f0.cP,ι i]):=by rw[aC P n6 (wK m6)];exact a7
     have v9:=Z.fr;have ei:=Z.to;apply rn;simp[D,G,E,F,J,cN,dw,fI,K,fv,a9,v6,aG]
     repeat' (first
               |apply And.intro
               | (refine cf Tryz.func13 rfl (eP (by omega) hn ⟨by omega,by omega⟩ ⟨by omega,by omega⟩ b1 λy S hy ho=>?_)
                  have p7:S c13=some (.cells [ι e.hour,ι e.place,ι el.cZ,ints e.marks,ι h0,ι sh]):=by rw[ho.2 c13 m0];exact a9
                  have f4:-9223372036854775808<=h0+y/\h0+y<=9223372036854775807:=by omega
                  apply pg;simp[D,G,E,F,J,cN,dw,fI,K,p7,f4.1,f4.2,aG];apply rn;simp[D,G,E,F,J,cN,dw,fI,K];refine cA Tryz.func21 rfl rfl hW (ub (by omega) ?_)
                  refine T _ _ ⟨h0+y,by simp[D],by simp[G],by simp[E],by simp[F],by simp[J],by simp[cN],by simp[dw],by simp[fI],by simp[K],by simp,?_,ab.ai _ _ _,λz Y y2=>by rw[ab.ah _ _ y2,ho.2 z Y];exact aC z Y y2,.inr ⟨l4 rfl,y,by omega,by omega,rfl⟩⟩
                  obtain⟨n,z,g1,g2⟩:=ho.1;exact⟨n,z,by omega,by rw[ab.ah _ _ (wK m0)];exact g2⟩))
   clear b1 a9 aC D G E F J cN dw fI K fv l4 l5
   rintro env σ6 ⟨ht,D,G,E,F,J,cN,dw,fI,K,ad,b1,a9,aC,l6⟩
   have hv:0<=ht/\ht<=30:=by rcases l6 with⟨_,q⟩|⟨_,y,q1,q2,q3⟩<;>omega
   have aE:=Fr.oh (Z.fits (by omega)) (Z.check (by omega))
   have vc:∀x∈M,x.marks.length<=3:=λx hx=>(lU (ft x hx).marks).2
   have p8:=(lU he.marks).2;have sy:=(lU b9.marks).2;have l7:=he.place;have lj:=b9.place;have tc:=b9.hour;have lp:=Z.cP;apply wx (I:=λenv S=>∃hr,env 0=.ref c 0/\env 4=.ref X 0/\env 6=.ref P 0/\env 7=.fN Q 0 i cap/\env 8=ints H/\env 10=hh/\env 11=ι ((qn:Int)-j)/\env 12=ι R/\env 13=.ref c13 0/\aU c nums (k+60+16*j+16) S/\S c13=some (.cells [ι hr,ι e.place,ι el.cZ,ints e.marks,ι ht,ι sh])/\(∀y,y≠c->y≠c13->S y=σ' y)/\(0<=hr/\hr<=1000)/\((R:Int)∈ks->Pp f1 el {e with hour:=hr}))
   . intro T
     by_cases hz:(R:Int)∈ks
     . have q2:rC ks R>=0:=(mJ ks R).2 hz
       obtain⟨rw,cb⟩:∃rw,rw=f0.roads[el.place.toNat]'(by omega):=⟨_,rfl⟩
       have gx:=aE.row (i:=el.place.toNat) (by omega)
       rw[<-cb]at gx;have cg:e.place.toNat<rw.length:=by omega
       obtain⟨r,fw⟩:∃r,r=rw[e.place.toNat]:=⟨_,rfl⟩;have vj:=gx.2 r (by rw[fw];exact xE cg)
       have b2:el.place.toNat<f0.roads.length:=by omega
       have pa:(f0.roads.map ints)[el.place.toNat]?=some (ints rw):=by rw[abw,xW b2,cb];rfl
       have hr:(rw.map ι)[e.place.toNat]?=some (ι r):=by rw[abw,xW cg,fw];rfl
       have lA:=cg;obtain⟨ch,hA⟩:∃ch,ch=Xc el.marks e.marks:=⟨_,rfl⟩
       have eE:0<=ch/\ch<=6:=by have q1:=ov el.marks e.marks;have q2:=ov e.marks el.marks;rw[hA];unfold Xc;omega
       have vk:0<=f0.cP*ch/\f0.cP*ch<=24:=⟨Int.mul_nonneg (by omega) eE.1,Int.le_trans (Int.mul_le_mul lp.2 eE.2 eE.1 (by omega)) (by omega)⟩
       have lB:-9223372036854775808<=el.hour+r/\el.hour+r<=9223372036854775807:=by omega
       have m1:-9223372036854775808<=f0.cP*ch/\f0.cP*ch<=9223372036854775807:=by omega
       have m2:-9223372036854775808<=el.hour+r+f0.cP*ch/\el.hour+r+f0.cP*ch<=9223372036854775807:=by omega
       have hB:σ6 Q=some (.cells CL):=by rw[aC Q ay (wK ml),<-bx Q ay];exact wl
       have gA:σ6 P=some (.cells [a,rows f0.roads,ι f0.aK,ι f0.dE,ι f0.cP,ι i]):=by rw[aC P n6 (wK m6)];exact a7
       refine aa.runN lay [] 3 ?_;simp[D,G,E,F,J,cN,dw,fI,K,ad,q2]
       obtain⟨V,hV⟩:∃V:Nat->AV,V=λj=>([.fN Q 0 i cap,ι R,.ref Q (R*6),.ref Q (R*6),ι el.hour,.ref P 1,rows f0.roads,.fN Q 0 i cap,ι R,.ref Q (R*6),.ref Q (R*6+1),ι el.place,.cp (ints rw) 0,ints rw,.ref c13 1,ι e.place,.cp (ι r) 0,ι r,ι (el.hour+r),.ref P 4,ι f0.cP,.fN Q 0 i cap,ι R,.ref Q (R*6),.ref Q (R*6+3),ints el.marks,.ref c13 3,ints e.marks,ι ch,ι (f0.cP*ch),ι (el.hour+r+f0.cP*ch),.ref c 0,.sl 1 (([0,0,1,3]:adK).map ι) .exact,ι 0,ι 0,.ref c13 0]:adQ).getD j (ι 0):=⟨_,rfl⟩
       have w:∀j,V j=_:=λj=>congrFun hV j
       refine aa.QX (I5 V (env.upd 96 (ψ true)) σ6 c c13 (k+60+16*j+16) nums (el.hour+r+f0.cP*ch) (λz=>[ι z,ι e.place,ι el.cZ,ints e.marks,ι ht,ι sh])) lay.mixed (by rfl) ⟨λ_ _=>rfl,by simp,λ_=>rfl,by simp,by simp,by simp,by simp,by simp⟩ ?_ ?_
       . intro done i u S N B m3 A
         have m3:i<37:=m3
         rcases(show i=0\/i=1\/i=2\/i=3\/i=4\/i=5\/i=6\/i=7\/i=8\/i=9\/i=10\/i=11\/i=12\/i=13\/i=14\/i=15\/i=16\/i=17\/i=18\/i=19\/i=20\/i=21\/i=22\/i=23\/i=24\/i=25\/i=26\/i=27\/i=28\/i=29\/i=30\/i=31\/i=32\/i=33\/i=34\/i=35\/i=36 by omega)with rfl|rfl|rfl|rfl|rfl|rfl|rfl|rfl|rfl|rfl|rfl|rfl|rfl|rfl|rfl|rfl|rfl|rfl|rfl|rfl|rfl|rfl|rfl|rfl|rfl|rfl|rfl|rfl|rfl|rfl|rfl|rfl|rfl|rfl|rfl|rfl|rfl
         . have b7:u 7=.fN Q 0 i cap:=(A.base 7 (by omega)).trans F
           refine bs lay (mu:=[]) ?_;simp[b7];exact A.next (i:=0) (by omega) B (by omega) (by omega) ((w 0).symm)
         . have eK:u 12=ι R:=(A.base 12 (by omega)).trans fI
           refine bs lay (mu:=[]) ?_;simp[eK];exact A.next (i:=1) (by omega) B (by omega) (by omega) ((w 1).symm)
         . have d0:u 97=.fN Q 0 i cap:=(A.dU 0 (N 0 (by rfl)) (by omega) (by omega) (by omega)).trans (w 0)
           have d1:u 98=ι R:=(A.dU 1 (N 1 (by rfl)) (by omega) (by omega) (by omega)).trans (w 1)
           refine bs lay (mu:=[]) ?_;simp[d0,d1,bw];exact A.next (i:=2) (by omega) B (by omega) (by omega) ((w 2).symm)
         . have d2:u 99=.ref Q (R*6):=(A.dU 2 (N 2 (by rfl)) (by omega) (by omega) (by omega)).trans (w 2)
           refine bs lay (mu:=[]) ?_;simp[d2];exact A.next (i:=3) (by omega) B (by omega) (by omega) ((w 3).symm)
         . have d3:u 100=.ref Q (R*6):=(A.dU 3 (N 3 (by rfl)) (by omega) (by omega) (by omega)).trans (w 3)
           have kl:=A.keep (by omega) B (y:=Q) ay;rw[hB]at kl
           refine bs lay (mu:=[]) ?_;simp[kl,kv,d3];exact A.next (i:=4) (by omega) B (by omega) (by omega) ((w 4).symm)
         . have b6:u 6=.ref P 0:=(A.base 6 (by omega)).trans E
           refine bs lay (mu:=[]) ?_;simp[b6];exact A.next (i:=5) (by omega) B (by omega) (by omega) ((w 5).symm)
         . have d5:u 102=.ref P 1:=(A.dU 5 (N 5 (by rfl)) (by omega) (by omega) (by omega)).trans (w 5)
           have k6:=A.keep (by omega) B (y:=P) n6;rw[gA]at k6
           refine bs lay (mu:=[]) ?_;simp[k6,d5];exact A.next (i:=6) (by omega) B (by omega) (by omega) ((w 6).symm)
         . have b7:u 7=.fN Q 0 i cap:=(A.base 7 (by omega)).trans F
           refine bs lay (mu:=[]) ?_;simp[b7];exact A.next (i:=7) (by omega) B (by omega) (by omega) ((w 7).symm)
         . have eK:u 12=ι R:=(A.base 12 (by omega)).trans fI
           refine bs lay (mu:=[]) ?_;simp[eK];exact A.next (i:=8) (by omega) B (by omega) (by omega) ((w 8).symm)
         . have d7:u 104=.fN Q 0 i cap:=(A.dU 7 (N 7 (by rfl)) (by omega) (by omega) (by omega)).trans (w 7)
           have d8:u 105=ι R:=(A.dU 8 (N 8 (by rfl)) (by omega) (by omega) (by omega)).trans (w 8)
           refine bs lay (mu:=[]) ?_;simp[d7,d8,bw];exact A.next (i:=9) (by omega) B (by omega) (by omega) ((w 9).symm)
         . have d9:u 106=.ref Q (R*6):=(A.dU 9 (N 9 (by rfl)) (by omega) (by omega) (by omega)).trans (w 9)
           refine bs lay (mu:=[]) ?_;simp[d9];exact A.next (i:=10) (by omega) B (by omega) (by omega) ((w 10).symm)
         . have pb:u 107=.ref Q (R*6+1):=(A.dU 10 (N 10 (by rfl)) (by omega) (by omega) (by omega)).trans (w 10)
           have kl:=A.keep (by omega) B (y:=Q) ay;rw[hB]at kl
           refine bs lay (mu:=[]) ?_;simp[kl,kx,pb];exact A.next (i:=11) (by omega) B (by omega) (by omega) ((w 11).symm)
         . have d6:u 103=rows f0.roads:=(A.dU 6 (N 6 (by rfl)) (by omega) (by omega) (by omega)).trans (w 6)
           have pd:u 108=ι el.place:=(A.dU 11 (N 11 (by rfl)) (by omega) (by omega) (by omega)).trans (w 11)
           refine bs lay (mu:=[]) ?_;simp[d6,pd,pa,b2];refine⟨lj.1,?_⟩;rw[<-cb];exact A.next (i:=12) (by omega) B (by omega) (by omega) ((w 12).symm)
         . have pk:u 109=.cp (ints rw) 0:=(A.dU 12 (N 12 (by rfl)) (by omega) (by omega) (by omega)).trans (w 12)
           refine bs lay (mu:=[]) ?_;simp[pk];exact A.next (i:=13) (by omega) B (by omega) (by omega) ((w 13).symm)
         . have eN:u 13=.ref c13 0:=(A.base 13 (by omega)).trans K
           refine bs lay (mu:=[]) ?_;simp[eN];exact A.next (i:=14) (by omega) B (by omega) (by omega) ((w 14).symm)
         . have ps:u 111=.ref c13 1:=(A.dU 14 (N 14 (by rfl)) (by omega) (by omega) (by omega)).trans (w 14)
           have bA:=A.keep (by omega) B (y:=c13) m0;rw[a9]at bA
           refine bs lay (mu:=[]) ?_;simp[bA,ps];exact A.next (i:=15) (by omega) B (by omega) (by omega) ((w 15).symm)
         . have pA:u 110=ints rw:=(A.dU 13 (N 13 (by rfl)) (by omega) (by omega) (by omega)).trans (w 13)
           have pB:u 112=ι e.place:=(A.dU 15 (N 15 (by rfl)) (by omega) (by omega) (by omega)).trans (w 15)
           refine bs lay (mu:=[]) ?_;simp[pA,pB,hr,lA];refine⟨l7.1,?_⟩;rw[<-fw];exact A.next (i:=16) (by omega) B (by omega) (by omega) ((w 16).symm)
         . have pO:u 113=.cp (ι r) 0:=(A.dU 16 (N 16 (by rfl)) (by omega) (by omega) (by omega)).trans (w 16)
           refine bs lay (mu:=[]) ?_;simp[pO];exact A.next (i:=17) (by omega) B (by omega) (by omega) ((w 17).symm)
         . have d4:u 101=ι el.hour:=(A.dU 4 (N 4 (by rfl)) (by omega) (by omega) (by omega)).trans (w 4)
           have q0:u 114=ι r:=(A.dU 17 (N 17 (by rfl)) (by omega) (by omega) (by omega)).trans (w 17)
           refine bs lay (mu:=[]) ?_;simp[d4,q0,lB.1,lB.2];exact A.next (i:=18) (by omega) B (by omega) (by omega) ((w 18).symm)
         . have b6:u 6=.ref P 0:=(A.base 6 (by omega)).trans E
           refine bs lay (mu:=[]) ?_;simp[b6];exact A.next (i:=19) (by omega) B (by omega) (by omega) ((w 19).symm)
         . have q5:u 116=.ref P 4:=(A.dU 19 (N 19 (by rfl)) (by omega) (by omega) (by omega)).trans (w 19)
           have k6:=A.keep (by omega) B (y:=P) n6;rw[gA]at k6
           refine bs lay (mu:=[]) ?_;simp[k6,q5];exact A.next (i:=20) (by omega) B (by omega) (by omega) ((w 20).symm)
         . have b7:u 7=.fN Q 0 i cap:=(A.base 7 (by omega)).trans F
           refine bs lay (mu:=[]) ?_;simp[b7];exact A.next (i:=21) (by omega) B (by omega) (by omega) ((w 21).symm)
         . have eK:u 12=ι R:=(A.base 12 (by omega)).trans fI
           refine bs lay (mu:=[]) ?_;simp[eK];exact A.next (i:=22) (by omega) B (by omega) (by omega) ((w 22).symm)
         . have q7:u 118=.fN Q 0 i cap:=(A.dU 21 (N 21 (by rfl)) (by omega) (by omega) (by omega)).trans (w 21)
           have q9:u 119=ι R:=(A.dU 22 (N 22 (by rfl)) (by omega) (by omega) (by omega)).trans (w 22)
           refine bs lay (mu:=[]) ?_;simp[q7,q9,bw];exact A.next (i:=23) (by omega) B (by omega) (by omega) ((w 23).symm)
         . have qb:u 120=.ref Q (R*6):=(A.dU 23 (N 23 (by rfl)) (by omega) (by omega) (by omega)).trans (w 23)
           refine bs lay (mu:=[]) ?_;simp[qb];exact A.next (i:=24) (by omega) B (by omega) (by omega) ((w 24).symm)
         . have qc:u 121=.ref Q (R*6+3):=(A.dU 24 (N 24 (by rfl)) (by omega) (by omega) (by omega)).trans (w 24)
           have kl:=A.keep (by omega) B (y:=Q) ay;rw[hB]at kl
           refine bs lay (mu:=[]) ?_;simp[kl,l1,qc];exact A.next (i:=25) (by omega) B (by omega) (by omega) ((w 25).symm)
         . have eN:u 13=.ref c13 0:=(A.base 13 (by omega)).trans K
           refine bs lay (mu:=[]) ?_;simp[eN];exact A.next (i:=26) (by omega) B (by omega) (by omega) ((w 26).symm)
         . have qe:u 123=.ref c13 3:=(A.dU 26 (N 26 (by rfl)) (by omega) (by omega) (by omega)).trans (w 26)
           have bA:=A.keep (by omega) B (y:=c13) m0;rw[a9]at bA
           refine bs lay (mu:=[]) ?_;simp[bA,qe];exact A.next (i:=27) (by omega) B (by omega) (by omega) ((w 27).symm)
         . have qi:u 122=ints el.marks:=(A.dU 25 (N 25 (by rfl)) (by omega) (by omega) (by omega)).trans (w 25)
           have qj:u 124=ints e.marks:=(A.dU 27 (N 27 (by rfl)) (by omega) (by omega) (by omega)).trans (w 27)
           refine bs lay (mu:=[]) ?_;simp[qi,qj];refine cf Tryz.func62 rfl (HC (by omega) (by omega) ?_)
           apply pg;simp;exact A.next (i:=28) (by omega) B (by omega) (by omega) (by rw[w,hA];rfl)
         . have qq:u 117=ι f0.cP:=(A.dU 20 (N 20 (by rfl)) (by omega) (by omega) (by omega)).trans (w 20)
           have qs:u 125=ι ch:=(A.dU 28 (N 28 (by rfl)) (by omega) (by omega) (by omega)).trans (w 28)
           refine bs lay (mu:=[]) ?_;simp[qq,qs,m1.1,m1.2];exact A.next (i:=29) (by omega) B (by omega) (by omega) ((w 29).symm)
         . have qx:u 115=ι (el.hour+r):=(A.dU 18 (N 18 (by rfl)) (by omega) (by omega) (by omega)).trans (w 18)
           have r9:u 126=ι (f0.cP*ch):=(A.dU 29 (N 29 (by rfl)) (by omega) (by omega) (by omega)).trans (w 29)
           refine bs lay (mu:=[]) ?_;simp[qx,r9,m2.1,m2.2];exact A.next (i:=30) (by omega) B (by omega) (by omega) ((w 30).symm)
         . have b0:u 0=.ref c 0:=(A.base 0 (by omega)).trans D
           refine bs lay (mu:=[]) ?_;simp[b0];exact A.next (i:=31) (by omega) B (by omega) (by omega) ((w 31).symm)
         . refine bs lay (mu:=[]) ?_
           simp;exact A.next (i:=32) (by omega) B (by omega) (by omega) ((w 32).symm)
         . have ra:u 128=.ref c 0:=(A.dU 31 (N 31 (by rfl)) (by omega) (by omega) (by omega)).trans (w 31)
           have rb:u 129=.sl 1 (([0,0,1,3]:adK).map ι) .exact:=(A.dU 32 (N 32 (by rfl)) (by omega) (by omega) (by omega)).trans (w 32)
           refine bs lay (mu:=[]) ?_;simp[ra,rb];have rh:=A.pre B;subst rh;have ri:34∉done:=λq=>B (A.dep q)
           refine cf Tryz.func63 rfl (np (l:=[0,0,1,3]) (by omega) hn ⟨by decide,by decide⟩ b1 λp vx hp md=>?_)
           apply pg;simp;exact A.TL B ri (p:=p) (by simp at hp;omega) (md.1.mono (by omega)) md.2
         . have rj:u 127=ι (el.hour+r+f0.cP*ch):=(A.dU 30 (N 30 (by rfl)) (by omega) (by omega) (by omega)).trans (w 30)
           have bB:=N 33 (by rfl)
           obtain⟨p,hp,Gd,_⟩:=A.pick bB;have mf:-9223372036854775808<=el.hour+r+f0.cP*ch+p/\el.hour+r+f0.cP*ch+p<=9223372036854775807:=by omega
           refine bs lay (mu:=[]) ?_;simp[rj,Gd,mf.1,mf.2];exact A.summed B bB hp Gd
         . have eN:u 13=.ref c13 0:=(A.base 13 (by omega)).trans K
           refine bs lay (mu:=[]) ?_;simp[eN];exact A.next (i:=35) (by omega) B (by omega) (by omega) ((w 35).symm)
         have rm:u 132=.ref c13 0:=(A.dU 35 (N 35 (by rfl)) (by omega) (by omega) (by omega)).trans (w 35)
         have bB:=N 33 (by rfl)
         have rr:=N 34 (by rfl)
         obtain⟨p,hp,Gd,Ge⟩:=A.pick bB;have Ge:=Ge rr;obtain⟨rF,gH⟩:=A.post bB B;have bA:=(gH c13 m0).trans a9;refine bs lay (mu:=[]) ?_;simp[rm,Ge,bA,aG]
         refine⟨A.base,λj hj g3 g4 g5=>A.dU j ((aaM.1 hj).resolve_left (by omega)) g3 g4 g5,λq=>absurd (acb _ bB) q,λ_ q=>absurd (acX ..) q,λ_=>⟨p,hp,Gd,λ_=>Ge⟩,λ_ j hj=>acb _ (N j ((by decide:∀j:Fin 36,jO _ j.val 36=true) ⟨j,hj⟩)),λ_=>acb _ bB,λ_=>⟨p,hp,?_,ab.ai _ _ _,λy Y y2=>by rw[ab.ah _ _ y2];exact gH y Y⟩⟩
         obtain⟨n,z,g1,g2⟩:=rF;exact⟨n,z,g1,by rw[ab.ah _ _ (wK m0)];exact g2⟩
       intro done td S mg A;obtain⟨p,hp,g1,g2,g3⟩:=A.fin (mg 36 (by decide))
       have hb:=λ(t:Nat) (ht:t<96)=>(A.base t (by omega)).trans (lJ (env:=env) (v:=ψ true) (show t≠96 by omega))
       refine T _ _ ⟨el.hour+r+f0.cP*ch+p,(hb 0 (by omega)).trans D,(hb 4 (by omega)).trans G,(hb 6 (by omega)).trans E,(hb 7 (by omega)).trans F,(hb 8 (by omega)).trans J,(hb 10 (by omega)).trans cN,(hb 11 (by omega)).trans dw,(hb 12 (by omega)).trans fI,(hb 13 (by omega)).trans K,g1,g2,λy Y y2=>(g3 y Y y2).trans (aC y Y y2),by omega,λ_=>?_⟩
       have rG:rd f1.roads el.place.toNat e.place.toNat=r:=by rw[eB];unfold rd;rw[wN,wN,xW b2,abT,<-cb,xW cg,<-fw];rfl
       have rM:f1.cP=f0.cP:=by rw[eB]
       unfold Pp;rw[rG,rM,<-FJ b9.marks he.marks,<-hA];show r+f0.cP*ch<=el.hour+r+f0.cP*ch+p-el.hour;omega
     have q2:¬rC ks R>=0:=λq=>hz ((mJ ks R).1 q)
     refine aa.runN lay [] 4 ?_;simp[D,G,E,F,J,cN,dw,fI,K,ad,q2];refine T _ _ ⟨e.hour,by simp[D,G,E,F,J,cN,dw,fI,K,ad],by simp[D,G,E,F,J,cN,dw,fI,K,ad],by simp[D,G,E,F,J,cN,dw,fI,K,ad],by simp[D,G,E,F,J,cN,dw,fI,K,ad],by simp[D,G,E,F,J,cN,dw,fI,K,ad],by simp[D,G,E,F,J,cN,dw,fI,K,ad],by simp[D,G,E,F,J,cN,dw,fI,K,ad],by simp[D,G,E,F,J,cN,dw,fI,K,ad],by simp[D,G,E,F,J,cN,dw,fI,K,ad],b1.mono (by omega),a9,aC,by have:=he.hour;omega,λq=>absurd q hz⟩
   clear b1 a9 aC D G E F J cN dw fI K ad
   rintro env S ⟨hr,D,G,E,F,J,cN,dw,fI,K,mi,a9,ed,rT,mj⟩
   have s3:σ.del c c13=none:=by
    cases hx:σ.del c c13 with
    |none=>rfl
    |some x=>have:=b8.1 _ _ hx;rw[<-bx c13 m0,kt]at this;cases this
   have b5:(σ.del c).Le S:=λy x hy=>by
    have Y:y≠c:=λe=>by subst e;rw[b3]at hy;cases hy
    have y2:y≠c13:=λe=>by subst e;rw[s3]at hy;cases hy
    rw[ed y Y y2];exact b8.1 y x hy
   have hD:∀b x,σ' b=some x->(∀l,x≠.cells l)->S b=σ' b:=λb x hb hx=>by
    refine ed b (λe=>?_) λe=>?_
    . rw[e]at hb;obtain⟨_,_,_,q⟩:=gU;rw[q]at hb;cases hb;exact hx _ rfl
    rw[e,<-bx c13 m0,kt]at hb;cases hb
   have cm:Tok (σ.del c) S a 6 (es.map bb):=uy b8 b5 λb hb=>by obtain⟨g1,l,g2⟩:=b8.bf hb;exact⟨hD b _ g2 (by simp),g1⟩
   have cv:Tok (σ.del c) S hh 1 (ks.map ι):=uy ea b5 λb hb=>by obtain⟨g1,l,g2⟩:=ea.bf hb;exact⟨hD b _ g2 (by simp),g1⟩
   have t4:S X=some (.cells gO):=by rw[ed X bm (wK m4)];exact q4
   have t6:S P=some (.cells (A6 a)):=by rw[ed P n6 (wK m6)];exact q6
   have tl:S Q=some (.cells (flatten (M.map bb)++μ)):=by rw[ed Q ay (wK ml)];exact ql
   clear b8 ea q4 q6 ql a7 ed hD
   rcases Int.lt_or_le 72 hr with mm|mm
   . apply rn
     simp[D,G,E,F,J,cN,dw,fI,K,a9,mm,f3.1,f3.2];refine ih _ g1 ⟨_,S,a,hh,M,es,ks,rfl,by simp[D,G,E,F,J,cN,dw,fI,K],by simp[D,G,E,F,J,cN,dw,fI,K],by simp[D,G,E,F,J,cN,dw,fI,K],by simp[D,G,E,F,J,cN,dw,fI,K],by simp[D,G,E,F,J,cN,dw,fI,K],by simp[D,G,E,F,J,cN,dw,fI,K],by simp;omega,mi.mono (by omega),t4,t6,tl,cm,cv,gl,O,ft,gW,by omega⟩
   have mw:¬hr>72:=by omega
   obtain⟨n1,mx⟩:∃n1:sP,n1=⟨hr,e.place,el.cZ,e.marks,ht,sh⟩:=⟨_,rfl⟩;obtain⟨bc,gB⟩:∃bc,bc=flatten ((M.set R n1).map bb)++μ:=⟨_,rfl⟩;have mA:R*6+6<=CL.length:=by rw[eC,aaI,gp];omega
   have mB:aG CL (R*6) [ι hr,ι e.place,ι el.cZ,ints e.marks,ι ht,ι sh]=bc:=by
    have:=BN (k:=6) (M.map bb) R (bb n1) (by rw[zH];exact fu) h2 rfl
    rw[gB,acg,<-this,eC];unfold aG;rw[List.take_append_of_le_length (by omega),List.drop_append_of_le_length (by rw[gp];simp;omega),mx]
    simp
   rw[<-eC]at tl;have b4:=cm.cells;have tf:=cv.cells;have n2:S P=some (.cells [a,rows f0.roads,ι f0.aK,ι f0.dE,ι f0.cP,ι i]):=by rw[t6,eg]
   have vy:=wK ml;apply rn;simp[D,G,E,F,J,cN,dw,fI,K,a9,mw,tl,bw,mB,mA,ab.ah,gR.symm,ml,n2,b4.1,b4.2];subst mx;have s4:bC a≠some Q:=λe=>by obtain⟨_,_,q⟩:=cm.bf e;rw[tl]at q;cases q
   have n3:bC hh≠some Q:=λe=>by obtain⟨_,_,q⟩:=cv.bf e;rw[tl]at q;cases q
   have dj:Tok (σ.del c) (S.set Q (.cells bc)) a 6 (es.map bb):=cm.beside r1 s4;have n5:Tok (σ.del c) (S.set Q (.cells bc)) hh 1 (ks.map ι):=cv.beside r1 n3;have tm:(es.map bb).length<=6:=by rw[zH];omega
   have tr:(ks.map ι).length<=6:=by rw[zH,O.len];omega
   refine aR lay rfl rfl rfl mG rfl mG rfl yS (by decide) (by simp;omega) (σ0:=(S.set Q (.cells bc)).off a) (es:=es.map bb) (xs:=[bb ⟨hr,e.place,el.cZ,e.marks,ht,sh⟩]) (by simpa using dj.here.1) (.inr ⟨_,by simp;rfl⟩) λa' hE hF=>?_
   obtain⟨dm,s5⟩:=Da n5 dj (λb hb q=>gl b q hb) hF
   have gC:=hF.base dj.here.2;have k9:∀y l,(S.set Q (.cells bc)) y=some (.cells l)->hE y=some (.cells l):=λy l hy=>hF.1 _ _ (by rw[ab.eh (λe=>by obtain⟨_,_,q⟩:=dj.bf e;rw[hy]at q;cases q)];exact hy)
   have dr:=gC.cells;apply rn;simp[D,G,E,F,J,cN,dw,fI,K,dr.1,dr.2];refine aR lay rfl rfl rfl dS rfl dS rfl sF (by decide) (by simp;omega) (σ0:=hE.off hh) (es:=ks.map ι) (xs:=[ι R]) (by simpa using dm.here.1) (.inr ⟨_,by simp;rfl⟩) λs6 ax eR=>?_
   obtain⟨hG,n7⟩:=Da gC dm (λb hb q=>s5 b q hb) eR
   have eW:=eR.base dm.here.2;have eX:=eW.cells;have fx:∀y l,hE y=some (.cells l)->ax y=some (.cells l):=λy l hy=>eR.1 _ _ (by rw[ab.eh (λe=>by obtain⟨_,_,q⟩:=dm.bf e;rw[hy]at q;cases q)];exact hy)
   have z6:ax P=some (.cells [a,rows f0.roads,ι f0.aK,ι f0.dE,ι f0.cP,ι i]):=fx _ _ (k9 _ _ (by rw[ab.ah _ _ (wK gR)];exact n2))
   have z4:ax X=some (.cells gO):=fx _ _ (k9 _ _ (by rw[ab.ah _ _ (wK p5)];exact t4))
   have zl:ax Q=some (.cells bc):=fx _ _ (k9 _ _ (ab.ai _ _ _));apply rn;simp[D,G,E,F,J,cN,dw,fI,K,z6,aG,dr.1,dr.2,eX.1,eX.2,f3.1,f3.2];have nh:Pz f0.roads.length ⟨hr,e.place,el.cZ,e.marks,ht,sh⟩:=⟨⟨rT.1,by omega⟩,he.place,b9.cZ,he.marks,hv,gw⟩
   have nq:M.getD R sL=el:=by rw[wN,xW fu,eA];rfl
   have nt:H.getD R 0=h0:=by rw[wN,xW eb,ec];rfl
   have fA:=O.push (k:=R) (n:=⟨hr,e.place,el.cZ,e.marks,ht,sh⟩) bw (by rw[eB];exact nh.check) (by rw[nq]) (by rw[nt,eB];refine PA l3 gw ?_;exact l6) (λq=>by rw[nq];exact mj q)
   have gD:∀{x:AV}{kk:Nat}{l:adQ},Tok (σ.del c) ax x kk l->Tok (σ.del c) (ax.set P (.cells (A6 a'))) x kk l:=λ{x kk l} hx=>hx.beside oG (λe=>by obtain⟨_,_,q⟩:=hx.bf e;rw[z6]at q;cases q)
   refine ih _ g1 ⟨_,ax.set P (.cells (A6 a')),a',s6,M.set R ⟨hr,e.place,el.cZ,e.marks,ht,sh⟩,es++[⟨hr,e.place,el.cZ,e.marks,ht,sh⟩],ks++[(R:Int)],by rw[eg],by simp[D,G,E,F,J,cN,dw,fI,K],by simp[D,G,E,F,J,cN,dw,fI,K],by simp[D,G,E,F,J,cN,dw,fI,K],by simp[D,G,E,F,J,cN,dw,fI,K],by simp[D,G,E,F,J,cN,dw,fI,K],by simp[D,G,E,F,J,cN,dw,fI,K],by simp;omega,?_,?_,ab.ai _ _ _,?_,by have:=gD hG;simpa using this,by have:=gD eW;simpa using this,λb hb=>n7 b hb,fA,λx hx=>?_,λx hx=>?_,by simp;omega⟩
   . obtain⟨n,z,g1,g2⟩:=mi
     exact⟨n,z,by omega,by rw[ab.ah _ _ (wK n6)];exact fx _ _ (k9 _ _ (by rw[ab.ah _ _ (wK ay)];exact g2))⟩
   . rw[ab.ah _ _ (wK fa)];exact z4
   . rw[ab.ah _ _ gR,zl,gB]
   . rcases abU hx with hx|rfl
     . exact ft x hx
     exact nh
   rcases KD.1 hx with hx|hx
   . exact gW x hx
   simp at hx;subst hx;exact p8
 have s7:j=qn:=by omega
 subst s7;have s9:¬(j:Int)<j:=by omega
 apply rn;simp[D,G,E,F,J,cN,dw,o.1,o.2,d.1,d.2,s9,q4,a7,aG];obtain⟨nb,zb,hH,gG⟩:=gU;obtain⟨f,hf⟩:∃f:Fr,f=⟨es,f0.roads,f0.aK,f0.dE,f0.cP,(i:Int)⟩:=⟨_,rfl⟩;have aE:=Fr.oh (Z.fits (by omega)) (Z.check (by omega))
 have sg:HE cnt f ks:=by
  have fO:=Z.eD;subst eB;subst hf;refine⟨⟨⟨by grind,aE.fits.roads,aE.fits.row,λe he=>by grind⟩,aE.fr,aE.to,aE.le,aE.cP,by grind,by grind,λe he=>O.rX e he,aE.J6⟩,by grind,by grind,λr hr=>?_,gW,by grind,i,C,H,M,⟨O.len,O.I1,O.rX,O.cZ,O.UM,O.fit,O.YG,O.I2,O.TH⟩,rfl⟩
  obtain⟨t,ht,rfl⟩:=abD.1 hr;exact aaH (Nat.le_of_eq (aE.row (i:=t) ht).1) fO.2
 refine .pN (a':=.cH [dv f,ints ks]) (Pm rfl λi x y x1 x2=>?_) (.less (σ':=σ.set c (.cells [ints nums,ι nb,.lit (.int .u64 zb)])) (λy x hy=>?_) (.done (h f ks _ sg ⟨⟨nb,zb,by omega,ab.ai _ _ _⟩,λy hy=>ab.ah _ _ hy⟩)))
 . match i with
   | 0=>
     simp at x1 x2;subst x1;subst x2;refine qE (by grind) λi x y x1 x2=>?_
     subst hf
     match i with
     |0=>simp at x1 x2;subst x1;subst x2;exact b8.W
     |1=>simp at x1 x2;subst x1;subst x2;exact .refl _
     |2=>simp at x1 x2;subst x1;subst x2;exact .refl _
     |3=>simp at x1 x2;subst x1;subst x2;exact .refl _
     |4=>simp at x1 x2;subst x1;subst x2;exact .refl _
     |5=>simp at x1 x2;subst x1;subst x2;exact .refl _
     |i+6=>simp at x1
   |1=>simp at x1 x2;subst x1;subst x2;exact ea.W
   |i+2=>simp at x1
 by_cases Y:y=c
 . subst Y
   rw[ab.ai]at hy;rw[ab.ah _ _ n4,gG];exact hy
 rw[ab.ah _ _ Y]at hy;have y4:y≠X:=λe=>by grind
 rw[ab.ah _ _ y4];exact b8.1 y x (by simpa[ab.del,Y]using hy)
end
end
section
open Go.ck Go.Conc
theorem kB{α g}:∀{l:List α},(∀x∈l,g x=0)->dJ g l=0
 |[],_=>rfl
 |a::l,h=>by rw[dJ,zR (h a (by simp))];exact kB λx q=>h x (by simp[q])
structure PB  cnt  (w:eG) (own lost:adK):Prop where
 valid:w.Valid
 AM:eu w=0
 len:(w.fair.aA.length:Int)+w.au.length<=cnt
 YI:w.ways.length<=5
 lo:own.length=w.fair.aA.length
 ll:lost.length=w.au.length
 Xd:∀e∈w.fair.aA,e.marks.length<=3
 Xe:∀c∈w.au,c.lost.marks.length<=3
 rows:w.fair.roads.length<=3/\∀r∈w.fair.roads,r.length<=3
 aaB:∃v∈aH (gQ w) [],∀i j ,i<w.fair.aA.length+w.au.length->j<w.fair.aA.length+w.au.length->jD i j v=decide ((own++lost).getD i 0=(own++lost).getD j 0)
theorem Rt{cnt f p}(t:HE cnt f p)(N:cnt<=6){w}{E C:adK}(z:∀i∈E++C,0<=i/\i<f.aA.length)(hn:(E.length:Int)+C.length<=cnt)
 (W:w.fair.aA=E.map (aP f)) (O:w.au.map (·.lost)=C.map (aP f)) (y:w.fair.roads=f.roads) (m:w.fair.aK=f.aK) (n:w.fair.dE=f.dE) (hd:w.fair.cP=f.cP) (X:f.aT<=w.fair.aT/\w.fair.aT<=6)
 (P:1<=w.aS/\w.aS<=4) (Y:∀x∈w.ways,jf w.aS x=0) (F:w.ways.length<=5) (Z:w.au.length<=3) (G:∀c∈w.au,(0<=c.town/\c.town<w.aS)/\(0<=c.hour/\c.hour<=72)/\c.lost.hour<=c.hour):
 PB cnt w (E.map λi=>p.getD i.toNat 0) (C.map λi=>p.getD i.toNat 0):=by
 have d:=t.oh;have l1:w.fair.aA.length=E.length:=by simp_all
 have l2:w.au.length=C.length:=by rw[<-List.length_map (f:=(·.lost)),O,zH]
 have A:∀e∈w.fair.aA,e∈f.aA:=λe q=>by rw[W]at q;obtain⟨i,I,rfl⟩:=zU.1 q;exact iz (z i (by simp[I]))
 have J:∀c∈w.au,c.lost∈f.aA:=λc q=>by have:c.lost∈w.au.map (·.lost):=zU.2 ⟨c,q,rfl⟩;rw[O]at this;obtain⟨i,I,e⟩:=zU.1 this;rw[<-e];exact iz (z i (by simp[I]))
 have gen:∀es:List sP,(∀e∈es,e∈f.aA)->es.length<=6->({w.fair with aA:=es}:Fr).Good:=λes q ql=>by
  have K:=d.aT;refine⟨⟨by grind,by show w.fair.roads.length<_;rw[y];exact d.fits.roads,by show ∀r∈w.fair.roads,_;rw[y];exact d.fits.row,λe D=>d.fits.marks e (q e D)⟩,by rw[m];exact d.fr,by rw[n];exact d.to,by rw[m,n];exact d.le,by rw[hd];exact d.cP,?_,ql,λe D=>?_,by show gN w.fair.roads=0;rw[y];exact d.J6⟩
  . grind
  . show cz w.fair.roads.length e=0
    rw[y];exact d.rX e (q e D)
 have Q:w.fair.Good:=gen w.fair.aA A (by omega)
 have R:∀c∈w.au,(lone w.fair c.lost).Good:=λc q=>gen [c.lost] (λe D=>by simp_all) (by simp)
 have S:w.rD:=⟨Q.fits,Q.AM,λc q=>⟨(R c q).fits,(R c q).AM⟩,by omega,by omega⟩
 have h6:w.fair.aA.length+w.au.length<=6:=by omega
 have T:=ku S h6
 have B:vw f (gQ w) (E++C):=⟨y,m,n,hd,X.1,z,by simp_all⟩
 obtain⟨mo,Cs,H,last,g,K⟩:=t.seen;obtain⟨v,s,h,hv⟩:=g.cM d (by omega)
 obtain⟨u,U,o⟩:=B.cM d T hv;have L:aH (gQ w) []≠[]:=acB U
 have V:eu w=0:=by
  unfold eu;have a1:bn w.aS 1 4=true:=by simp[bn,P.1,P.2]
  have a2:dJ (sI w) w.au=0:=kB λc q=>by
   have:=G c q;have e1:bn c.town 0 (w.aS-1)=true:=by simp only[bn,wL,zG];omega
   have e2:bn c.hour 0 72=true:=by simp only[bn,wL,zG];omega
   unfold sI
   simp_all
  have a3:=(Bx T).2 L;rw[a1,kB Y,a2,zA (by simp),zA (by omega),zA (by simp),zA (by omega),zA (by simp),zA (by omega),zA (by omega)]
 have a7:p.length=f.aA.length:=g.len;refine⟨eG.valid S V,V,by omega,F,by simp_all,by simp_all,λe q=>t.marks e (A e q),λc q=>t.marks _ (J c q),by rw[y];exact⟨t.eD,t.row⟩,u,U,λi j M hj=>?_⟩
 have hl:(E++C).length=w.fair.aA.length+w.au.length:=by simp_all
 rw[o i j (by omega) (by omega),<-List.map_append]
 have k:∀i:Nat,i<(E++C).length->((E++C).map λi=>p.getD i.toNat 0).getD i 0=p.getD ((E++C).getD i 0).toNat 0:=λi M=>by rw[wN,abw,xW M,wN (l:=E++C),xW M];rfl
 rw[k i (by omega),k j (by omega)]
 have ri:=z _ (iA (l:=E++C) (i:=i) (by omega))
 have rj:=z _ (iA (l:=E++C) (i:=j) (by omega))
 generalize (E++C).getD i 0=a at *;generalize (E++C).getD j 0=b at *;have ea:a=(a.toNat:Int):=by omega
 have eb:b=(b.toNat:Int):=by omega
 rw[acx,zG];constructor
 . intro q
   rw[ea,eb]at q;have:=zL h (by omega) (by omega) q
   omega
 . intro q
   have:=zK h (i:=a.toNat) (j:=b.toNat) (by omega) (by omega) q
   grind
end
section
open Go Go.ck Go.Conc
variable{m:Mo}{σ:ab}{KF:adw}
def sN(σ0 σ:ab)(l:List (AV × Nat × List AV)):Prop:=σ0.Le σ/\(∀t∈l,Tok σ0 σ t.1 t.2.1 t.2.2)/\l.Pairwise λt a=>∀b,bC t.1=some b->bC a.1≠some b
theorem sN.head{σ0 σ a kk es l}(h:sN σ0 σ ((a,kk,es)::l)):Tok σ0 σ a kk es:=h.2.1 _ (acX)
theorem sN.perm{σ0 σ l l'}(h:sN σ0 σ l)(d:l.Perm l'):sN σ0 σ l':=⟨h.1,λt q=>h.2.1 t (d.mem_iff.2 q),(d.pairwise_iff λ{a b} q c e f=>q c f e).1 h.2.2⟩
theorem sN.PT{σ0 σ σ2 l c}(h:sN σ0 σ l)(b:σ0 c=none)(d:∃l,σ c=some (.cells l))(a:∀y,y≠c->σ2 y=σ y):sN σ0 σ2 l:=⟨λy x f=>by rw[a y λe=>by simp_all];exact h.1 y x f,λt q=>rp (h.2.1 t q) b d a,h.2.2⟩
theorem sN.app{σ0 σ σ' a a' kk kk' es c l}(h:sN σ0 σ ((a,kk,es)::l))(d:Tok (σ.off a) σ' a' kk' c):sN σ0 σ' ((a',kk',c)::l)/\∀y x,σ y=some (.cells x)->σ' y=some (.cells x):=by
 have f:=h.head;obtain⟨j,k⟩:=aaL.1 h.2.2;have hb:=d.base f.here.2;have key:∀t∈l,Tok σ0 σ' t.1 t.2.1 t.2.2/\∀b,bC t.1=some b->bC a'≠some b:=λt q=>Da (h.2.1 t (acb _ q)) f (λb g i=>j t q b i g) d
 refine⟨⟨hb.1,λt q=>?_,aaL.2 ⟨λt q b g i=>(key t q).2 b i g,k⟩⟩,λy x m=>d.1 _ _ ?_⟩
 . grind
 rw[ab.eh λe=>by obtain⟨_,_,q⟩:=f.bf e;simp_all];exact m
section
variable{c k:Nat}{nums:adK}
namespace WA
end WA
end
end
section
open Go.ck Go.Conc
def GS(L:adK)(g g':Int)(v:adK):Bool:=jD (L.idxOf g:Int) (L.idxOf g':Int) v
theorem FK{L:adK}{g}(h:g∈L):L.getD (L.idxOf g) 0=g:=by grind
theorem I6  f  (es cs:adK)  x  (N:adK) (a:cs.Nodup) (b:∀c∈cs,0<=c/\c<3) (g:3*(es.getD x 0).toNat+2<N.length)  q :∀n ,n<=cs.length ->
 ((List.range n).foldl (λN y=>N.set (3*(es.getD x 0).toNat+(cs.getD y 0).toNat) (ot f x ((es.length:Int)+y))) N).length=N.length/\
 (∀y<n,((List.range n).foldl (λN y=>N.set (3*(es.getD x 0).toNat+(cs.getD y 0).toNat) (ot f x ((es.length:Int)+y))) N).getD (3*(es.getD x 0).toNat+(cs.getD y 0).toNat) 0=ot f x ((es.length:Int)+y))/\
 ((∀y<n,q≠3*(es.getD x 0).toNat+(cs.getD y 0).toNat)->((List.range n).foldl (λN y=>N.set (3*(es.getD x 0).toNat+(cs.getD y 0).toNat) (ot f x ((es.length:Int)+y))) N).getD q 0=N.getD q 0)
 |0,_=>⟨rfl,λy d=>by omega,λ_=>rfl⟩
 | n + 1,o=>by
   obtain⟨p,r,j⟩:=I6 f es cs x N a b g q n (by omega);rw[abq,abG,abB,List.foldl_nil];generalize (List.range n).foldl _ N=R at *;have s:=b _ (iA (l:=cs) (i:=n) (by omega));refine⟨by simp_all,λy d=>?_,λh=>?_⟩
   . by_cases e:y=n
     . subst e
       rw[wN,abQ (by omega)];rfl
     have k:(cs.getD y 0).toNat≠(cs.getD n 0).toNat:=λq=>by
      have m:=b _ (iA (l:=cs) (i:=y) (by omega));have:cs.getD y 0=cs.getD n 0:=by omega
      rw[wN,wN,xW (show y<cs.length by omega),xW (show n<cs.length by omega)]at this;exact e (zJ a this)
     grind
   rw[wN,abM (λe=>h n (by omega) e.symm),<-List.getD_eq_getElem?_getD];exact j λy d=>h y (by omega)
theorem FL  f   es cs  (a:es.Nodup) (g:∀i∈es,0<=i/\i<6) (b:cs.Nodup) (d:∀c∈cs,0<=c/\c<3)  q :∀n ,n<=es.length ->
 ((List.range n).foldl (λN x=>wQ f es cs x N) (List.replicate 18 0)).length=18/\
 (∀x<n,∀y<cs.length,((List.range n).foldl (λN x=>wQ f es cs x N) (List.replicate 18 0)).getD (3*(es.getD x 0).toNat+(cs.getD y 0).toNat) 0=ot f x ((es.length:Int)+y))/\
 ((∀x<n,∀y<cs.length,q≠3*(es.getD x 0).toNat+(cs.getD y 0).toNat)->((List.range n).foldl (λN x=>wQ f es cs x N) (List.replicate 18 0)).getD q 0=0)
 |0,_=>⟨by simp,λy j=>by omega,λ_=>by grind⟩
 | n + 1,w=>by
   obtain⟨o,p,r⟩:=FL f es cs a g b d q n (by omega);rw[abq,abG,abB,List.foldl_nil];obtain⟨R,k⟩:∃R,R=(List.range n).foldl (λN x=>wQ f es cs x N) (List.replicate 18 0):=⟨_,rfl⟩;rw[<-k]at o p r ⊢;have z:=g _ (iA (l:=es) (i:=n) (by omega));have s:3*(es.getD n 0).toNat+2<R.length:=by omega
   have key:=λq=>I6 f es cs n R b d s q cs.length (aaG _)
   refine⟨by unfold wQ;exact(key 0).1.trans o,λx A y j=>?_,λh=>?_⟩
   . by_cases e:x=n
     . subst e;exact(key 0).2.1 y j
     have t:=g _ (iA (l:=es) (i:=x) (by omega))
     have u:(es.getD x 0).toNat≠(es.getD n 0).toNat:=λq=>by
      have:es.getD x 0=es.getD n 0:=by omega
      rw[wN,wN,xW (show x<es.length by omega),xW (show n<es.length by omega)]at this;exact e (zJ a this)
     have v:=d _ (iA j);unfold wQ;rw[(key _).2.2 λB m=>by have:=d _ (iA m);omega]
     grind
   unfold wQ
   grind
section
variable{w:eG}
theorem BO  n :(pW n).Nodup:=by unfold pW;rw[List.Nodup,List.pairwise_map];exact(List.nodup_range (n:=n)).imp λh e=>h (by omega)
theorem Db  w   h :(fh w h).Nodup:=(BO _).filter _
theorem Dc  w   h :(fH w h).Nodup:=(BO _).filter _
theorem Lr{es cs i}(hi:i∈es):(FG w es cs).idxOf i=es.idxOf i:=by grind
theorem Ru{cs:adK}{n c}:(cs.map fun  c=>c+n).idxOf (c+n)=cs.idxOf c:=by
 induction cs with
 |nil=>rfl
 |cons a l b=>grind
theorem Ls{es cs:adK}{c:Int}(a:∀i∈es,i<w.fair.aA.length)(b:0<=c):(FG w es cs).idxOf (c+w.fair.aA.length)=es.length+cs.idxOf c:=by unfold FG;rw[List.idxOf_append,zA λq=>by grind,Ru,Nat.add_comm]
abbrev PC(w:eG)(h i c:Int):Int:=FE (aH (pL w h) []) ((sa w h).idxOf i) ((sa w h).idxOf (c+w.fair.aA.length))
theorem Rv(a:w.Valid){h i c}(hi:0<=i/\i<6)(b:0<=c/\c<3):jg w h i c=if i∈fh w h/\c∈fH w h then PC w h i c else 0:=by
 have m:=a.nK;have n:=a.Ar.1;obtain⟨_,d,f⟩:=FL (pL w h) (fh w h) (fH w h) (Db w h) (λi q=>by have:=kA q;omega) (Dc w h) (λi q=>by have:=lX q;omega) (3*i.toNat+c.toNat) _ (aaG _)
 have e:jg w h i c=(BD (pL w h) (fh w h) (fH w h)).getD (3*i.toNat+c.toNat) 0:=by show(BD (cU w (aD (kE w h)) (aD (kC w h))) (aD (kE w h)) (aD (kC w h))).getD (3*i.toNat+c.toNat) 0=_;rw[a.kE,a.kC]
 rw[e];unfold BD;split
 . next q=>
   obtain⟨g,o⟩:=uw q.1;obtain⟨j,p⟩:=uw q.2;have:=d _ g _ j;rw[FK q.1,FK q.2]at this;rw[this];unfold PC FE ot;rw[Lr q.1,Ls (λi q=>(kA q).2) b.1]
   simp_all
 next q=>
 refine f λx k y l e=>q ?_
 have r:=kA (iA k);have s:=lX (iA l);have t:(fh w h).getD x 0=i:=by omega
 have u:(fH w h).getD y 0=c:=by omega
 grind
theorem Lt(a:w.Valid)  h :0<(aH (pL w h) []).length:=by
 have:=(a.open.bk h).some;simp only[a.kE,a.kC]at this
 grind
theorem I7(a:w.Valid){h i c}(hi:0<=i/\i<6)(d:0<=c/\c<3):vp (jg w h i c)=true↔(i∈fh w h/\c∈fH w h)/\∃v∈aH (pL w h) [],GS (sa w h) i (c+w.fair.aA.length) v=true:=by
 have b:=Lt a h;rw[Rv a hi d];split
 . next q=>
   have f:=Hy b (x:=(sa w h).idxOf i) (y:=(sa w h).idxOf (c+w.fair.aA.length))
   have g:vp (PC w h i c)=true↔PC w h i c≠2:=by rcases Lm (aH (pL w h) []) ((sa w h).idxOf i) ((sa w h).idxOf (c+w.fair.aA.length)) b with e|e|e<;>simp[PC,e,vp]
   rw[g,Ne,f];unfold GS
   simp_all
 next q=>exact⟨λz=>(by cases z),λz=>absurd z.1 q⟩
end
end
section
open Go.ck Go.Conc
variable{m:Mo}{σ:ab}{KF:adw}
theorem uz{w:eG}(d:eu w=0){a b c:adK}(e:∀x∈a,0<=x/\x<=72)(hb:∀x∈b,0<=x/\x<(w.fair.aA.length:Int))(f:∀x∈c,0<=x/\x<(w.au.length:Int)):fK w a b c=0:=by
 have g:a.all (bn · 0 72)=true:=aaD.2 λx q=>by have:=e x q;simp only[bn,wL,zG];omega
 have h:b.all (bn · 0 (w.fair.aA.length-1))=true:=aaD.2 λx q=>by have:=hb x q;simp only[bn,wL,zG];omega
 have i:c.all (bn · 0 (w.au.length-1))=true:=aaD.2 λx q=>by have:=f x q;simp only[bn,wL,zG];omega
 unfold fK;rw[zR d,g,h,i,zA (by simp),zA (by simp),zA (by simp)]
end
section
open Go.ck Go.Conc
theorem qK{l:adN}(a:∀x∈l,1<=x.bo/\x.bo<=12){n:Nat}:∀(k:Nat) (t:adK),yW t->ln t<k->pass l n (cD l n k t)=cD l n k t
 |0,t,_,h=>by omega
 | k+1,t,b,h=>by
   unfold cD;split
   . next e=>exact e
   next c=>
   have:=xj (nk l n t) (b.pass a) b c;exact qK a k _ (b.pass a) (by omega)
def eG.by(w:eG)(l:adN):eG:={w with ways:=l}
theorem PD{w}(q:w.Valid)(a:eu w=0){l}(r:l.length<=6)(d:∀x∈l,jf w.aS x=0):eu (w.by l)=0:=by
 unfold eu at a;split at a
 . cases a
 next e=>
 split at a
 . cases a
 next s=>
 split at a
 . next c=>exact absurd a c
 next c=>
 split at a
 . cases a
 next f=>
 split at a
 . next b=>exact absurd a b
 next b=>
 split at a
 . cases a
 next g=>
 split at a
 . cases a
 next h=>
 have i:bn (w.by l).aS 1 4=true:=(by simpa using e:bn w.aS 1 4=true)
 have j:dJ (jf (w.by l).aS) (w.by l).ways=0:=kB d
 have k:¬(6:Int)<(w.by l).ways.length:=by show ¬(6:Int)<l.length;omega
 have m:¬(3:Int)<(w.by l).au.length:=f
 have n:dJ (sI (w.by l)) (w.by l).au=0:=(by simpa using b:dJ (sI w) w.au=0)
 have o:¬(6:Int)<((w.by l).fair.aA.length:Int)+(w.by l).au.length:=g
 have p:¬er (gQ (w.by l))=0:=h
 unfold eu;rw[i,j,n,zA (by simp),zA k,zA (by simp),zA m,zA (by simp),zA o,zA p]
theorem PE{w}(a:w.Valid)(b:eu w=0){l}(c:l.length<=6)(d:∀x∈l,jf w.aS x=0):(w.by l).Valid:=eG.valid ⟨a.mQ.fits,a.mQ.AM,a.mQ.IN,by show l.length<_;omega,a.mQ.au⟩ (PD a b c d)
end
open Go.ck Go.Conc
variable{m:Mo}{σ:ab}{KF:adw}
theorem FM{f}(O:f.Good)(P:∀e∈f.aA,e.marks.length<=1000000000)(v:f.roads.length<=1000000)(w:∀r∈f.roads,r.length<=1000000000)(h:∀a σ',bj σ σ' a 6 (f.aA.map bb)->KF (.val (.agg [a,rows f.roads,ι f.aK,ι f.dE,ι f.cP,ι f.aT])) σ'):aB prog m 35 [dv f] σ KF:=by
 have V:=O.nK;refine fs Yp Tryz.func35 rfl (by kernel_rfl) ?_
 simp[Tryz.f35];refine bP.intro λn L=>?_
 simp;apply wx (I:=λenv σ'=>∃b,σ b=none/\b≠n/\env 1=.cp (dv f) 0/\env 2=.ref n 0/\env 3=.ref b 0/\σ'=(σ.set n (.cells Pt)).set b (.cells [.lit (.slice none 0 0),rows f.roads,ι f.aK,ι f.dE,ι f.cP,ι f.aT]))
 . intro d
   refine⟨?_,?_⟩
   . refine cf Tryz.func64 rfl (zM v w ?_)
     apply pg;simp[aG];refine⟨?_,?_⟩
     . refine rA.intro λb g=>?_
       obtain⟨t,x,g⟩:=ab.aN g;simp[aG];exact d _ _ ⟨b,g,t,by simp⟩
     refine rA.intro λb g=>?_
     obtain⟨t,x,g⟩:=ab.aN g;simp[aG];exact d _ _ ⟨b,g,t,by simp⟩
   refine rA.intro λb g=>?_
   obtain⟨t,x,g⟩:=ab.aN g;simp[aG];refine cf Tryz.func64 rfl (zM v w ?_);apply pg;simp[aG];exact d _ _ ⟨b,g,t,by simp⟩
 rintro env σ' ⟨b,g,t,o,p,q,rfl⟩
 have x:n≠b:=wK t;apply rn;simp[o,p,q];have Q:bj σ ((σ.set n (.cells Pt)).set b (.cells [.lit (.slice none 0 0),rows f.roads,ι f.aK,ι f.dE,ι f.cP,ι f.aT])) (.lit (.slice none 0 0)) 6 []:=⟨ab.l9 (ab.l9 (ab.le_refl _) L) (by rw[ab.ah _ _ t];exact g),.inl ⟨rfl,.inl rfl⟩⟩
 refine aa.loop f.aA.length (λi s=>∃env σ' a,s=⟨env,σ',[],.no⟩/\env 1=.cp (dv f) 0/\env 2=.ref n 0/\env 3=.ref b 0/\env 4=ι i/\σ' n=some (.cells Pt)/\σ' b=some (.cells [a,rows f.roads,ι f.aK,ι f.dE,ι f.cP,ι f.aT])/\bd a≠some n/\bd a≠some b/\bj σ σ' a 6 ((f.aA.take i).map bb))
  ⟨_,_,.lit (.slice none 0 0),rfl,by simp[o],by simp[p],by simp[q],by simp,by rw[ab.ah _ _ x,ab.ai],ab.ai _ _ _,by simp[bd],by simp[bd],by simp_all⟩ ?_
 clear o p q Q
 rintro W i _ X ⟨env,σ',a,rfl,o,p,q,z,A,B,u,C,c⟩ R
 have j:=c.cells
 rcases abC i f.aA.length with g1|g1
 . have S:(i:Int)<f.aA.length:=by omega
   have f1:-9223372036854775808<=(i:Int)+1/\(i:Int)+1<=9223372036854775807:=by omega
   apply rn;simp[o,p,q,z,A,B,j.1,j.2,g1]
   repeat' (first
             |apply And.intro
             | (refine cf Tryz.func36 rfl (wv (P _ (xE g1)) ?_)
                apply pg;simp[o,p,q,z,A,B,j.1,j.2,g1])
             | (refine gi lay rfl rfl rfl mG rfl mG rfl yS (by decide) (by simp;omega) (σ0:=σ'.sn a) (es:=(f.aA.take i).map bb) (xs:=[bb f.aA[i]]) (by simpa using c.here.1) (.inl (.inr ⟨_,by simp;rfl⟩)) (by simp) λG D k=>?_
                have E:=k.cells;have M:∀y l,bd a≠some y->σ' y=some (.cells l)->D y=some (.cells l):=λy l hb T=>k.1 _ _ (by rw[ab.gk hb];exact T)
                have U:=M _ _ C B;have N:=M _ _ u A;apply pg;simp[o,p,q,z,N,U,E.1,E.2,aG]))
   all_goals (
    apply rn;simp[z,f1.1,f1.2]
    have H:bj σ D G 6 ((f.aA.take (i+1)).map bb):=by have:=k.base c.here.2;rw[xC g1,aaJ];simpa using this
    have J:bd G≠some n:=λe=>by have:=(k.cx e).1;rw[ab.gk u,A]at this;cases this
    have F:bd G≠some b:=λe=>by have:=(k.cx e).1;rw[ab.gk C,B]at this;cases this
    exact R _ g1 ⟨_,_,G,rfl,by simp[o],by simp[p],by simp[q],by simp,by rw[ab.ah _ _ x];exact N,ab.ai _ _ _,J,F,H.beside g F⟩)
 have K:i=f.aA.length:=by omega
 subst K;rw[aaF]at c;apply rn;simp[o,p,q,z,A,B,j.1,j.2,aG];exact .done (h a _ (c.beside L u))
abbrev HF:adQ:=[.lit (.slice none 0 0),.lit (.slice none 0 0),ι 0,ι 0,ι 0,ι 0,ι 0,.lit (.slice none 0 0),.lit (.slice none 0 0)]
abbrev Ay(w:eG)(a b:AV):adQ:=[jb w.fair.aA,rows w.fair.roads,ι w.fair.aK,ι w.fair.dE,ι w.fair.cP,ι w.fair.aT,ι w.aS,a,b]
theorem zQ{k j:Nat}:∀(es:adQ) (i:Nat) (hi:i<es.length),(∀e∈es,e.cells.length=k)->j<k->∀(v a:AV),a.cells=es[i].cells.set j v->(flatten es).set (i*k+j) v=flatten (es.set i a)
 | e::es,0,_,b,f,v,a,c=>by
   have d:=b e (by simp);rw[List.set_cons_zero,flatten_cons,flatten_cons,c,List.set_append_left _ _ (by omega)];simp
 | e::es,i+1,hi,b,f,v,a,c=>by
   have d:=b e (by simp);rw[List.set_cons_succ,flatten_cons,flatten_cons,List.set_append_right _ _ (by rw[d,acr];omega),<-zQ es i (by simpa using hi) (λx g=>b x (by simp[g])) f v a (by simpa using c)];congr 2;rw[d,acr];omega
structure Lu(c e:Nat)(nums:adK)(k:Nat)(w:eG)(a:AV)(l:adN)(σ:ab):Prop where
 Xf:aU c nums k σ
 cells:σ e=some (.cells (Ay w a (fV w.au)))
 tok:bj (λ_=>none) σ a 5 (l.map cG)
 ne:e≠c
 nc:bd a≠some c
 nx:bd a≠some e
theorem Lu.row{c e:Nat}{nums:adK}{k:Nat}{w:eG}{a:AV}{l:adN}{σ:ab}(h:Lu c e nums k w a l σ){b n cap:Nat}(d:a=.fN b 0 n cap):n=l.length/\n<=cap/\b≠e/\b≠c/\∃μ,σ b=some (.cells (flatten (l.map cG)++μ))/\μ.length=(cap-n)*5:=by
 rcases h.tok.2 with⟨_,q|q⟩|⟨r,g,μ,q,s,j,t,m,i⟩
 . rw[d]at q;cases q
 . rw[d]at q;cases q
 rw[d]at q;injection q with o u f p;subst o;subst p;rw[zH]at f j i;exact⟨f,by omega,λq=>h.nx (by rw[d,q];rfl),λq=>h.nc (by rw[d,q];rfl),μ,m,by rw[i,f]⟩
theorem Lu.put{c e:Nat}{nums:adK}{k:Nat}{w:eG}{a:AV}{l l':adN}{σ:ab}(h:Lu c e nums k w a l σ){b n cap:Nat}(i:a=.fN b 0 n cap)(d:l'.length=l.length){μ:adQ}(j:μ.length=(cap-n)*5):Lu c e nums k w a l' (σ.set b (.cells (flatten (l'.map cG)++μ))):=by
 obtain⟨f,m,o,p,g,z,A⟩:=h.row i;obtain⟨r,s,t,u⟩:=h.Xf;refine⟨⟨r,s,t,by rw[ab.ah _ _ (wK p)];exact u⟩,by rw[ab.ah _ _ (wK o)];exact h.cells,⟨(λ_ _ q=>by cases q),.inr ⟨b,cap,μ,by rw[i,zH,d,f],rfl,by rw[zH,d,<-f];exact m,λx v=>?_,ab.ai _ _ _,by rw[zH,d,<-f];exact j⟩⟩,h.ne,h.nc,h.nx⟩;obtain⟨y,_,rfl⟩:=zU.1 v;rfl
theorem Dd{l:adN}{K j:Nat}(c:K<l.length)(hj:j<5){v:AV}{x':Way}(d:(cG x').cells=(cG l[K]).cells.set j v)(μ:adQ):(flatten (l.map cG)++μ).set (K*5+j) v=flatten ((l.set K x').map cG)++μ:=by
 have b:∀e∈l.map cG,e.cells.length=5:=λe f=>by obtain⟨y,_,rfl⟩:=zU.1 f;rfl
 have a:=aX b;rw[zH]at a;rw[List.set_append_left _ _ (by rw[a];omega),zQ (k:=5) (l.map cG) K (by simpa using c) b hj v (cG x') (by simpa using d),acg]
theorem De(l:adN)(μ:adQ):(flatten (l.map cG)++μ).length=l.length*5+μ.length:=by rw[aaI,aX (kk:=5) λe a=>by obtain⟨y,_,rfl⟩:=zU.1 a;rfl,zH]
theorem I8:∀(R:adQ) (i:Nat) (a b:AV),i+2<=R.length->R.take i++a::b::R.drop (i+2)=(R.set i a).set (i+1) b
 |x::y::R,0,a,b,_=>rfl
 |[_],0,_,_,h=>by simp at h
 |[],_,_,_,h=>by simp at h
 | x::R,i+1,a,b,h=>by
   have:=I8 R i a b (by simp at h;omega);show x::(R.take i++a::b::R.drop (i+2))=x::((R.set i a).set (i+1) b);rw[this]
theorem TM{w:eG}(a:eu w=0):∀x∈w.ways,jf w.aS x=0:=by
 unfold eu at a;split at a
 . cases a
 split at a
 . cases a
 split at a
 . next q=>exact absurd a q
 next q=>
 exact jF _ (by simpa using q)
theorem aU.le{c:Nat}{nums:adK}{k:Nat}{σ σ':ab}(h:aU c nums k σ)(a:σ.Le σ'):aU c nums k σ':=by obtain⟨n,z,b,d⟩:=h;exact⟨n,z,b,a _ _ d⟩
theorem aU.at{c:Nat}{nums:adK}{k:Nat}{σ:ab}(h:aU c nums k σ):∃x,σ c=some x:=by obtain⟨n,z,b,a⟩:=h;exact⟨_,a⟩
theorem aU.put{c e:Nat}{nums:adK}{k:Nat}{σ:ab}(h:aU c nums k σ)(a:e≠c)(x:nz):aU c nums k (σ.set e x):=by obtain⟨n,z,b,d⟩:=h;exact⟨n,z,b,by rw[ab.ah _ _ (wK a)];exact d⟩

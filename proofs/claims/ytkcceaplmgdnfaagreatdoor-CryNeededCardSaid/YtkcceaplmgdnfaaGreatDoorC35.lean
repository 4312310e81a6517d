import Derived.Test.YtkcceaplmgdnfaaGreatDoorC34
set_option linter.all false
set_option maxHeartbeats 1000000
set_option maxRecDepth 4000
namespace Go.Proofs.YtkcceaplmgdnfaaGreatDoor
open Go.Proofs.Tryz (prog)
section
open Go Go.bQ Go.Conc
variable{m:Mo}{σ:aa}{KF:abT}
theorem B5{a b:acp}(t:a.length<1152921504606846976)(hb:b.length<1152921504606846976)(h:KF (.val (bool (decide (a=b)))) σ):aA prog m 47 [ints a,ints b] σ KF:=by
 refine fs Wc 2 Tryz.func47 rfl rfl (by rfl) (by kernel_rfl) ?_;simp[Tryz.f47];refine aG.intro (λd=>?_) (λd=>?_)<;>(try simp[-Int.not_lt,-Int.not_le,-Nat.not_lt,-Nat.not_le]at d)<;>(try simp[d])
 . have:a≠b:=λe=>d (by rw[e])
   simp[this]at h;exact .done h
 refine ab.loop a.length (λk s=>∃env,s=⟨env,σ,[],.no⟩/\env 0=ints a/\env 1=ints b/\env 12=int a.length/\env 13=int k/\a.take k=b.take k) ⟨_,rfl,by simp[d]⟩ ?_;rintro u k _ v ⟨env,rfl,l,n,cD,c,g⟩ p;have r:a.length=b.length:=by omega
 refine rn ?_;simp[cD,c];refine aG.intro (λf=>?_) (λf=>?_)<;>(try simp[-Int.not_lt,-Int.not_le,-Nat.not_lt,-Nat.not_le]at f)<;>(try simp[l,n,c,f])
 . have o:k<b.length:=by omega
   simp[o];refine rn ?_;simp;by_cases i:a[k]=b[k]
   . have q:(a[k]!=b[k])=false:=by simp[i]
     simp[c,q];refine⟨by omega,p _ (by omega) ⟨_,rfl,by simp[l],by simp[n],by simp[cD],by simp,?_⟩⟩;rw[zs f,zs o,g,i]
   . have q:(a[k] !=b[k])=true:=by simp[i]
     have j:a≠b:=λe=>by simp_all
     simp[j]at h;simp[q];exact .done h
 . have ek:k=a.length:=by omega
   subst ek;rw[ZG,r,ZG]at g;simp[g]at h;exact .done h
def foundAt(w:cH)(c:Int)(h i:Nat):Prop:=jN w h i c=1/\∀a b:Nat,(a<h\/a=h/\b<i)->b<w.fair.aD.length->jN w a b c≠1
theorem JA(B:m.solo=true){w:cH}(F:w.qP)(C:w.Open){c:Int}(G:0<=c/\c<3)(H:fA w [] [] [c]=0)(I:∀h i:Nat,h<73->i<w.fair.aD.length->foundAt w c h i->KF (.val (.cB [int h,int i,int 0])) σ)
 (J:(∀e b:Nat,e<73->b<w.fair.aD.length->jN w e b c≠1)->KF (.val (.cB [int 0,int 0,int 11])) σ):aA prog m 31 [eo w,int c] σ KF:=by
 have K:Wl [eo w,po,po,.sl 1 [int c] .exact] [eo w,ints [],ints [],ints [c]]:=SE (.refl _) (fQ 1) (fQ 1) (ik 1 _ _);have S:=C.qB.1;refine fs [] 2 Tryz.func31 rfl rfl (by rfl) (by kernel_rfl) ?_;simp[Tryz.f31];refine cu Tryz.func41 rfl rfl K (nO B F ⟨by simp,by simp,by simp⟩ (λq=>absurd H q) λq g fb mb u=>?_);refine rn ?_;simp;refine ab.loop 73 (λk s=>∃env a,s=⟨env,a,[],.no⟩/\(env 1=int c/\env 2=.cp (eo w) 0/\env 9=.fn (.func 67) [uH fb mb w 0] []/\env 24=int k)/\eV w mb a/\fF mb g a/\∀e b:Nat,e<k->b<w.fair.aD.length->jN w e b c≠1) ⟨_,_,rfl,by simp,u.AA,.refl mb g,λe b q=>absurd q (Nat.not_lt_zero _)⟩ ?_;rintro T k _ L ⟨env,a,rfl,⟨n,o,p,HO⟩,t,d,v⟩ M;refine rn ?_;simp[HO];refine aG.intro (λx=>?_) (λx=>?_)<;>(try simp[-Int.not_lt,-Int.not_le,-Nat.not_lt,-Nat.not_le]at x)<;>(try simp[o,HO,x])
 . refine ab.loop w.fair.aD.length (λj s=>∃env a,s=⟨env,a,[],.no⟩/\(env 1=int c/\env 2=.cp (eo w) 0/\env 9=.fn (.func 67) [uH fb mb w 0] []/\env 24=int k/\env 10=int k/\env 30=int w.fair.aD.length/\env 31=int j)/\eV w mb a/\fF mb g a/\∀b:Nat,b<j->jN w k b c≠1) ⟨_,_,rfl,by simp[n,o,p,HO],t,d,λb q=>absurd q (Nat.not_lt_zero _)⟩ ?_
   rintro U j _ V ⟨env,a,rfl,⟨n,o,p,HO,bK,r,l⟩,t,d,D⟩ y;refine rn ?_;simp[r,l];refine aG.intro (λz=>?_) (λz=>?_)<;>(try simp[-Int.not_lt,-Int.not_le,-Nat.not_lt,-Nat.not_le]at z)<;>(try simp[n,p,HO,bK,l,z])
   . refine dZ Tryz.func67 rfl rfl rfl (Eg B C (by omega) G t λA N O=>?_)
     have f:=d.trans O;by_cases E:jN w k j c=1
     . rw[show yv (jN w k j c)=.lZ 125 (.agg [])by rw[E];rfl]
       refine rn ?_;simp[bK];refine .less (u.less f) (.done (I k j (by omega) (by omega) ⟨E,λe b q P=>?_⟩))
       grind
     . have Q:Az (jN w k j c)≠125:=by unfold Az;grind
       refine rn ?_;simp[l,Q];refine⟨by omega,y _ (by omega) ⟨_,A,rfl,⟨by simp[n],by simp[o],by simp[p],by simp[HO],by simp[bK],by simp[r],by simp⟩,N,f,λb q=>?_⟩⟩
       grind
   . have R:j=w.fair.aD.length:=by omega
     subst R;refine⟨by omega,M _ (by omega) ⟨_,a,rfl,⟨by simp[n],by simp[o],by simp[p],by simp⟩,t,d,λe b q P=>?_⟩⟩
     grind
 . have ek:k=73:=by omega
   subst ek;exact .less (u.less d) (.done (J v))
theorem qJ(w:cH)(h:Int):(jB w h).length<=w.fair.aD.length:=by
 unfold jB
 grind
def cH.only(w:cH)(l:acp):cH:={w with az:=l.filterMap λc=>w.az[c.toNat]?}
abbrev vK(w:cH)(a:AV):acw:=[jw w.fair.aD,rows w.fair.roads,int w.fair.aR,int w.fair.eS,int w.fair.cQ,int w.fair.aX,int w.ba,uF w.ways,a]
theorem NF(w:cH)(a b:AV):(vK w a).set 8 b=vK w b:=rfl
theorem JB{w:cH}{wb:Nat}{a:AV}(b:σ wb=some (.cells (vK w a)))(h:KF (.val (.cB [])) (σ.set wb (.cells (zk w)))):aA prog m 88 [.cp (kM w.az) 0,.cp (.ref wb 0) 0] σ KF:=by
 refine fs [] 2 Tryz.func88 rfl rfl (by rfl) (by kernel_rfl) ?_;simp[Tryz.f88];simp[b];exact .done h
namespace CW
abbrev Wn:ace:=[⟨7,.take [0,1,2,3,5,6,7,8,11,12] false (.both 4 (.one 9 (.one 10 (.one 13 (.done)))) (.one 9 (.take [4] true (.one 10 (.one 13 (.done))))))⟩]
abbrev Wo:ace:=[⟨0,.take [3] false (.one 0 (.one 1 (.one 2 (.one 4 (.one 5 (.done))))))⟩]
theorem NG{w:cH}{wb:Nat}{l:acp}(M:∀c∈l,0<=c/\c<w.az.length)(S:l.length<=1000){F:Fn}{t:acw}(I:acu)(C:σ wb=some (.cells (zk w)))
 (N:∀a g K,Tok (σ.del wb) g a 8 ((w.only l).az.map fW)->g wb=some (.cells (vK w a))->(∀σ2,σ2 wb=some (.cells (vK w a))->I σ2->K (.val (.cB [])) σ2)->bZ prog m (.fn F [] t) [] g K)
 (h:∀σ2,I σ2->KF (.val (.cB [])) (σ2.set wb (.cells (zk w)))):aA prog m 45 [.ref wb 0,ints l,.fn F [] t] σ KF:=by
 refine aA.Fi lay [] Wn 12 3 Tryz.func45 rfl rfl (by rfl) (by kernel_rfl) ?_
 simp[Tryz.f45,C];refine bR.intro λD u=>?_
 have T:wb≠D:=λe=>by simp_all
 simp
 change ab _ _ _ _ _ _ _ _ _
 refine ab.bC 6 (b:=D) (kM w.az) (aa.ak _ _ _) (by simp) rfl ?_
 rw[fe u];refine rn ?_;simp;refine ab.defer rfl rfl rfl rfl (by simp) rfl ?_
 refine rn ?_;simp[C];refine ab.loop l.length (λk s=>∃env d a,s=⟨env,d,[.call (.func 88) [.cp (kM w.az) 0,.cp (.ref wb 0) 0] []],.no⟩/\(env 2=.fn F [] t/\env 3=.cp (.ref wb 0) 0/\env 6=.cp (kM w.az) 0/\env 17=ints l/\env 18=int l.length/\env 19=int k)/\Tok (σ.del wb) d a 8 ((w.only (l.take k)).az.map fW)/\d wb=some (.cells (vK w a))) ⟨_,_,.lit (.slice none 0 0),rfl,by simp,⟨?_,.inl ⟨rfl,by simp[cH.only]⟩⟩,aa.ak _ _ _⟩ ?_
 . intro c x v
   have E:c≠wb:=λe=>by subst e;simp[aa.del]at v
   simp only[aa.del,E,if_false]at v;rw[aa.ai _ _ E];exact v
 rintro U k _ V ⟨env,d,a,rfl,⟨G,H,J,j,tF,Ou⟩,n,i⟩ O
 refine rn ?_;simp[tF,Ou];refine aG.intro (λo=>?_) (λo=>?_)<;>(try simp[-Int.not_lt,-Int.not_le,-Nat.not_lt,-Nat.not_le]at o)<;>(try simp[G,H,J,j,Ou,o])
 . have P:=M l[k] (zD o)
   have y:((w.only (l.take k)).az.map fW).length<=k:=by
    rw[ZE];refine KD (List.length_filterMap_le _ _) ?_
    grind
   have z:(w.only (l.take (k+1))).az.map fW=(w.only (l.take k)).az.map fW++[fW w.az[l[k].toNat]]:=by simp only[cH.only];rw[zs o,List.filterMap_append,ZI];simp[zU (show l[k].toNat<w.az.length by omega)]
   have A:bp a≠some wb:=λe=>by obtain⟨_,x,q⟩:=n.aV e;simp_all
   simp[i,P];refine⟨?_,?_⟩
   all_goals
    refine aK lay rfl rfl rfl It rfl It rfl Rg (by decide) (by simp only[ZE,ZQ,aam]at y ⊢;omega) (σ0:=d.off a) (es:=(w.only (l.take k)).az.map fW) (xs:=[fW w.az[l[k].toNat]]) (by simpa using n.here.1) (.inr ⟨_,rfl⟩) λL σ2 f=>?_
    rw[<-z]at f;have p:σ2 wb=some (.cells (vK w a)):=f.1 _ _ ((aa.dO A).trans i);have B:=f.cells;have r:bp L≠some wb:=λe=>by obtain⟨_,x,q⟩:=f.aV e;rw[p]at q;cases q
    refine pg ?_;simp[p,B];refine rn ?_;simp[Ou];refine⟨by omega,O _ (by omega) ⟨_,_,L,rfl,by simp[G,H,J,j,tF],(f.base n.here.2).beside (by simp[aa.del]) r,aa.ak _ _ _⟩⟩
 . have ek:k=l.length:=by omega
   subst ek;rw[ZG]at n;refine N a d _ n i λσ2 Q R=>?_
   refine rn ?_;simp;refine qS.func Tryz.func88 rfl rfl (JB Q ?_);exact⟨[],rfl,.done (h σ2 R)⟩
theorem Qu{w:cH}{l:acp}{a:AV}(d:a.W (kM (w.only l).az)):(AV.agg (vK w a)).W (eo (w.only l)):=pS rfl λi x y c b=>by
 change (vK w (kM (w.only l).az))[i]?=some y at b;rw[<-NF w a]at b;by_cases e:i=8
 . simp_all
 . rw[aak (za e),c]at b
   cases b;exact .refl _
theorem B6(f:m.solo=true){w:cH}{wb c:Nat}{a:AV}{l e:acp}{x:AV}(g:(w.only l).Open)(d:w.ways.length<1152921504606846976/\(∀x∈w.ways,tw w.ba x)/\1<=w.ba/\w.ba<=4)(k:yr (w.only l))(t:e.length<1000000)(n:σ wb=some (.cells (vK w a)))(o:a.W (kM (w.only l).az))(p:σ c=some (.cells [x]))
 (h:∀σ2,σ.Le σ2->KF (.val (.cB [])) (σ2.set c (.cells [bool (decide (jB (w.only l) 72=e))]))):aA prog m 46 [.ref wb 0,.cp (ints e) 0,.ref c 0] σ KF:=by
 have u:=g.qB.1;have i:=qJ (w.only l) 72;have q:Wl [.agg (vK w a)] [eo (w.only l)]:=.cons (Qu o) .nil;refine fs Wo 3 Tryz.func46 rfl rfl (by rfl) (by kernel_rfl) ?_;simp[Tryz.f46];simp[n];refine cu Tryz.func48 rfl rfl q (tz f d.1 d.2.1 d.2.2 k λr fb mb j=>?_);refine pg ?_;simp;refine cf Tryz.func42 rfl (yx f g j.AA λσ2 v s=>?_);refine pg ?_;simp;have b:=j.less s;refine cf Tryz.func47 rfl (B5 (by omega) (by omega) ?_);refine pg ?_;simp[b _ _ p];refine rn ?_;simp;exact .done (h σ2 b)
end CW
theorem Eo(v:m.solo=true){w:cH}{wb:Nat}{l e:acp}(y:(w.only l).Open)(z:w.ways.length<1152921504606846976/\(∀x∈w.ways,tw w.ba x)/\1<=w.ba/\w.ba<=4)(A:yr (w.only l))(B:e.length<1000000)(k:∀c∈l,0<=c/\c<w.az.length)(C:l.length<=1000)(D:σ wb=some (.cells (zk w)))
 (h:KF (.val (bool (decide (jB (w.only l) 72=e)))) σ):aA prog m 44 [ints l,.ref wb 0,.cp (ints e) 0] σ KF:=by
 refine aA.start lay [5] [] 3 Tryz.func44 rfl rfl (by rfl) (by kernel_rfl) ?_;simp[Tryz.f44];refine bR.intro λf E=>?_
 have j:wb≠f:=λe=>by simp_all
 simp;have o:(σ.set f (.cells [bool false])) wb=some (.cells (zk w)):=(aa.ai _ _ j).trans D;refine cf Tryz.func45 rfl (CW.NG k C (λb=>∃d:aa,(∀c x,σ c=some x->c≠wb->d c=some x)/\b=d.set f (.cells [bool (decide (jB (w.only l) 72=e))])) o (λa p K r g F=>?_) ?_)
 . have s:p f=some (.cells [bool false]):=r.1 _ _ (by simp[aa.del,za j])
   refine dZ Tryz.func46 rfl rfl rfl (CW.B6 v y z A B g r.W s λb i=>?_);refine F _ ((aa.ai _ _ j).trans (i _ _ g)) ⟨b,λc x u n=>i _ _ (r.1 _ _ ?_),rfl⟩;have t:c≠f:=λe=>by simp_all
   simp only[aa.del,n,if_false];exact(aa.ai _ _ t).trans u
 . rintro b ⟨d,q,rfl⟩
   have G:((d.set f (.cells [bool (decide (jB (w.only l) 72=e))])).set wb (.cells (zk w))) f=some (.cells [bool (decide (jB (w.only l) 72=e))]):=(aa.ai _ _ (za j)).trans (aa.ak _ _ _);refine ab.run lay [5] ?_;simp[G];refine .less (λc x u=>?_) (.done h);have t:c≠f:=λe=>by simp_all
   by_cases e:c=wb
   . simp_all
   . rw[aa.ai _ _ e,aa.ai _ _ t];simp_all
def cY(x:acp):Nat:=match x.getLast? with|none=>0|some v=>v.toNat+1
def nxt(n:Nat)(x:acp):abG:=(List.range' (cY x) (n-cY x)).map λ(j:Nat)=>x++[(j:Int)]
def qK(n:Nat):Nat->abG
 |0=>[[]]
 |k+1=>(qK n k).flatMap (nxt n)
theorem B7(n:Nat):∀k,∀x∈qK n k,x.length=k/\(∀c∈x,0<=c/\c<n)/\cY x<=n
 | 0,x,a=>by
   have:x=[]:=by simpa[qK]using a
   subst this;simp[cY]
 | k+1,x,a=>by
   simp only[qK,abp,nxt,abd,List.mem_range'_1]at a;obtain⟨y,b,j,e,rfl⟩:=a;obtain⟨d,f,g⟩:=B7 n k y b;refine⟨by simp[d],λc h=>?_,?_⟩
   . grind
   . simp[cY];omega
theorem yA(n:Nat):∀M:abG,(M.flatMap (nxt n)).length<=M.length*n
 |[]=>by simp
 | x::M=>by
   have:=yA n M;rw[aaD,Rp,ZQ,aaU];have:(nxt n x).length<=n:=by simp[nxt]
   omega
theorem B8(n:Nat):∀k,(qK n k).length<=n ^ k
 |0=>by simp[qK]
 |k+1=>by have a:=yA n (qK n k);have b:=B8 n k;rw[Nat.pow_succ];exact KD a (ZZ n b)
theorem F6{x:acp}(h:0<x.length)(a:∀c∈x,0<=c):x[x.length-1]?=some ((cY x:Int)-1):=by
 have b:=a x[x.length-1] (zD _);unfold cY
 grind
def zp(n:Nat)(G:acp->Bool):acp:=(((List.range (n+1)).flatMap (qK n)).find? G).getD (np n)
theorem Ho{n k i:Nat}{G:acp->Bool}(a:k<n+1)(hi:i<(qK n k).length)(b:∀k'<k,∀x∈qK n k',G x=false)(c:∀x∈(qK n k).take i,G x=false)(h:G (qK n k)[i]=true):zp n G=(qK n k)[i]:=by
 unfold zp
 have e:List.range (n+1)=List.range k++k::List.range' (k+1) (n-k):=by rw[List.range_eq_range',List.range_eq_range',show n+1=k+(n-k+1)by omega,<-List.range'_append_1,aaz];rfl
 have d:((List.range k).flatMap (qK n)).find? G=none:=List.find?_eq_none.2 λx f=>by grind
 have g:(qK n k).find? G=some (qK n k)[i]:=by
  have j:qK n k=(qK n k).take i++(qK n k)[i]::(qK n k).drop (i+1):=by simp_all
  grind
 grind
theorem Pz{n:Nat}{G:acp->Bool}(a:∀k'<n+1,∀x∈qK n k',G x=false):zp n G=np n:=by
 unfold zp;rw[List.find?_eq_none.2 λx b=>by grind];rfl
abbrev mU(M:abG):acw:=M.map ints
theorem bZ.zE{P:acD}{m:Mo}{b:AV}{args args':acw}{σ:aa}{KF:abT}(h:bZ P m b args' σ KF)(c:Wl args args'):bZ P m b args σ KF:=λQ k O cf a fr cs d e f g i j l n=>h Q k O cf a fr cs d (e.zE c) f g i j l n
theorem JC{n:Nat}(hn:n<=3){G:acp->Bool}{f:AV}(b1:f.cells=[f])(a8:f.flat=true)(hf:∀(l:acp) (σ':aa) (K:abT),(∀c∈l,0<=c/\c<(n:Int))->l.length<=n->σ.Le σ'->K (.val (bool (G l))) σ'->bZ prog m f [ints l] σ' K){xs:acp}(hx:xs.length=n)(a9:∀(j:Nat) (q:j<xs.length),xs[j]=j)(h:KF (.val (ints (zp n G))) σ):aA prog m 43 [.agg [f],ints xs] σ KF:=by
 refine fs [] 2 Tryz.func43 rfl rfl (by rfl) (by kernel_rfl) ?_
 simp[Tryz.f43];refine⟨a8,by omega,?_⟩
 refine ab.Ew 5 (a':=.sl 1 (mU (qK n 0)) .any) ?_ ?_
 . change AV.W (.sl 1 [.nil] .exact) (.sl 1 [ints []] .any)
   exact Ly rfl (by simp) (by simp) λi a a' h1 h2=>by
    cases i with
    |zero=>cases h1;cases h2;exact fQ 1
    |succ i=>simp at h1
 refine ab.loop (n+1) (λk s=>∃env σ',s=⟨env,σ',[],.no⟩/\(env 1=ints xs/\env 2=.cp (.agg [f]) 0/\env 5=.sl 1 (mU (qK n k)) .any/\env 17=int ((n:Int)+1)/\env 18=int k)/\σ.Le σ'/\∀k'<k,∀x∈qK n k',G x=false) ⟨_,_,rfl,by simp[hx],aa.le_refl _,by simp⟩ ?_
 rintro c0 k _ hk ⟨env,σ',rfl,⟨o,r,e5,g,tF⟩,L,N⟩ ih
 have hM:=B7 n k;obtain⟨M,B⟩:∃M,M=qK n k:=⟨_,rfl⟩;rw[<-B]at hM e5;refine rn ?_;simp[g,tF];refine aG.intro (λg1=>?_) (λg1=>?_)<;>(try simp[-Int.not_lt,-Int.not_le,-Nat.not_lt,-Nat.not_le]at g1)<;>(try simp[o,e5,g1])
 . have b3:M.length<=27:=by
    rw[B];exact KD (B8 n k) (KD (Nat.pow_le_pow_left hn k) (aav (n:=3) (by decide) (show k<=3 by omega)))
   refine ab.loop M.length (λi s=>∃env σ' a,s=⟨env,σ',[],.no⟩/\(env 1=ints xs/\env 2=.cp (.agg [f]) 0/\env 17=int ((n:Int)+1)/\env 18=int k/\env 20=.sl 1 (mU M) .any/\env 21=int M.length/\env 22=int i/\env 6=a)/\Tok σ σ' a 1 (mU ((M.take i).flatMap (nxt n)))/\∀x∈M.take i,G x=false) ⟨_,_,.nil,rfl,by simp[o,r,g,tF],⟨L,.inl ⟨rfl,by simp⟩⟩,by simp⟩ ?_
   rintro c1 i _ hi ⟨env,σ',a,rfl,⟨o,r,g,tF,yW,vO,vP,u⟩,ht,v⟩ ad
   refine rn ?_;simp[vO,vP];refine aG.intro (λJ=>?_) (λJ=>?_)<;>(try simp[-Int.not_lt,-Int.not_le,-Nat.not_lt,-Nat.not_le]at J)<;>(try simp[tF,yW,vP,u,J])
   . obtain ⟨al,C,av⟩:=hM _ (zD J)
     have ax:=yA n (M.take i);have b0:((M.take i).flatMap (nxt n)).length<=200:=KD ax (KD (Nat.mul_le_mul (by rw[aai];omega:(M.take i).length<=27) hn) (by decide))
     obtain⟨x,D⟩:∃x,x=M[i]:=⟨_,rfl⟩;rw[<-D]at al C av;simp only[<-D];refine ab.loop x.length (λj s=>∃env t b,s=⟨env,t,[],.no⟩/\(env 1=ints xs/\env 2=.cp (.agg [f]) 0/\env 17=int ((n:Int)+1)/\env 18=int k/\env 20=.sl 1 (mU M) .any/\env 21=int M.length/\env 22=int i/\env 6=a/\env 8=ints x/\env 26=ints x/\env 27=int x.length/\env 28=int j/\env 9=b)/\Tok σ' t b 1 ((x.take j).map int)) ⟨_,_,.nil,rfl,by simp[o,r,g,tF,yW,vO,vP,u],.nil σ' 1⟩ ?_
     rintro c2 j _ hj ⟨env,t,b,rfl,⟨o,r,g,tF,yW,vO,vP,u,A,O,P,F,e9⟩,w⟩ ay
     refine rn ?_;simp[P,F];refine aG.intro (λQ=>?_) (λQ=>?_)<;>(try simp[-Int.not_lt,-Int.not_le,-Nat.not_lt,-Nat.not_le]at Q)<;>(try simp[o,r,O,F,e9,Q])
     . have g4:=C _ (zD Q)
       have g5:x[j].toNat<xs.length:=by omega
       have R:(xs[x[j].toNat]:Int)=x[j]:=by rw[a9 _ g5];omega
       have g7:x[j]<(xs.length:Int):=by omega
       simp[g4,g7,R];have H:(x.take (j+1)).map int=(x.take j).map int++[int x[j]]:=by rw[zs Q,ZI];rfl
       refine aK lay rfl rfl rfl dh rfl dh rfl qM (by decide) (by simp only[ZE,aai,ZQ,aam];omega) (σ0:=σ') (es:=(x.take j).map int) (xs:=[int x[j]]) (by simpa using w) (.inr ⟨_,rfl⟩) λa' p S=>?_
       rw[<-H]at S;refine rn ?_;simp[F];refine⟨by omega,ay _ (by omega) ⟨_,_,a',rfl,by simp[o,r,g,tF,yW,vO,vP,u,A,O,P],S⟩⟩
     . have ej:j=x.length:=by omega
       subst ej;rw[ZG]at w;have T:=ht.up w.1;have E:=T.1;refine bZ.zE (hf x t _ C (by omega) E ?_) (.cons w.W .nil)
       have U:G x=true->ints (zp n G)=ints x:=λq=>by
        rw[Ho (i:=i) (by omega) (by grind) N (by rw[<-B];exact v) (by grind)]
        grind
       cases hG:G x with
       |true=>rw[U hG]at h;refine rn ?_;simp[e9,aG];refine .n8 w.W (.less E (.done h))
       | false=>
         by_cases gl:0<x.length
         have aC:=F6 gl λc hc=>(C c hc).1
         have gx:0<=(x.length:Int)-1/\(x.length:Int)-1<x.length/\1<=(x.length:Int):=by omega
         refine rn ?_;simp[A,aG,gl,gx,aC];refine⟨by omega,by omega,?_⟩
         refine ab.jL (λe s=>(e 1=ints xs/\e 2=.cp (.agg [f]) 0/\e 17=int ((n:Int)+1)/\e 18=int k/\e 20=.sl 1 (mU M) .any/\e 21=int M.length/\e 22=int i/\e 6=a/\e 8=ints x/\e 13=int (cY x))/\s=t) ⟨by simp[o,r,g,tF,yW,vO,vP,u,A],rfl⟩ ?_
         rotate_left
         have aE:cY x=0:=by
          have:x=[]:=List.length_eq_zero_iff.1 (by omega)
          subst this;rfl
         refine rn ?_;simp[A,aG,gl];refine ab.jL (λe s=>(e 1=ints xs/\e 2=.cp (.agg [f]) 0/\e 17=int ((n:Int)+1)/\e 18=int k/\e 20=.sl 1 (mU M) .any/\e 21=int M.length/\e 22=int i/\e 6=a/\e 8=ints x/\e 13=int (cY x))/\s=t) ⟨by simp[o,r,g,tF,yW,vO,vP,u,A,aE],rfl⟩ ?_
         rotate_left
         all_goals
          rintro env _ ⟨⟨o,r,g,tF,yW,vO,vP,u,A,z⟩,rfl⟩
          refine ab.loop (n-cY x) (λd s=>∃env p a',s=⟨env,p,[],.no⟩/\(env 1=ints xs/\env 2=.cp (.agg [f]) 0/\env 17=int ((n:Int)+1)/\env 18=int k/\env 20=.sl 1 (mU M) .any/\env 21=int M.length/\env 22=int i/\env 6=a'/\env 8=ints x/\env 13=int ((cY x:Int)+d))/\Tok σ p a' 1 (mU ((M.take i).flatMap (nxt n)++(List.range' (cY x) d).map λ(j:Nat)=>x++[(j:Int)]))) ⟨_,_,a,rfl,by simp[o,r,g,tF,yW,vO,vP,u,A,z],by simpa using T⟩ ?_
          rintro c3 d _ hd ⟨env,p,a',rfl,⟨o,r,g,tF,yW,vO,vP,u,A,z⟩,V⟩ aL
          refine rn ?_;simp[o,z];refine aG.intro (λR=>?_) (λR=>?_)<;>(try simp[-Int.not_lt,-Int.not_le,-Nat.not_lt,-Nat.not_le]at R)<;>(try simp[vP,u,A,R])
          . refine uT lay rfl dh rfl qM (es:=x.map int) (sp:=.any) (l:=0) (h:=x.length) (by simp) (λcap X=>⟨⟨⟨.i64,by simp⟩,by simpa using X⟩,⟨⟨.i64,by simp⟩,ZF _⟩,rfl⟩) (by simp) λb2 Y=>?_
            have Z:Tok p p b2 1 (x.map int):=by
             rw[List.drop_zero,aag (by simp)]at Y
             rcases Y with rfl|⟨e,rfl⟩
             . exact .exact _ _ _
             . rw[e];exact .nil _ _
            refine rn ?_;simp[z];refine aK lay rfl rfl rfl dh rfl dh rfl qM (by decide) (by simp only[ZE,ZQ,aam];omega) (σ0:=p) (es:=x.map int) (xs:=[int ((cY x:Int)+d)]) (by simpa using Z) (.inr ⟨_,rfl⟩) λa2 b4 I=>?_
            have H:x.map int++[int ((cY x:Int)+d)]=(x++[((cY x+d:Nat):Int)]).map int:=by rw[ZI,Int.natCast_add];rfl
            rw[H]at I;refine ab.Ew 71 (a':=ints (x++[((cY x+d:Nat):Int)])) (show AV.W a2 _ from I.W) ?_
            refine rn ?_;simp
            have aO:mU ((M.take i).flatMap (nxt n)++(List.range' (cY x) (d+1)).map λ(j:Nat)=>x++[(j:Int)])=mU ((M.take i).flatMap (nxt n)++(List.range' (cY x) d).map λ(j:Nat)=>x++[(j:Int)])++[ints (x++[((cY x+d:Nat):Int)])]:=by rw[List.range'_1_concat,ZI,<-List.append_assoc,mU,ZI];rfl
            refine aK lay rfl rfl rfl nf rfl nf rfl dh (by decide) (by simp only[ZE,Rp,List.length_range',ZQ,aam];omega) (σ0:=σ) (es:=mU ((M.take i).flatMap (nxt n)++(List.range' (cY x) d).map λ(j:Nat)=>x++[(j:Int)])) (xs:=[ints (x++[((cY x+d:Nat):Int)])]) (by simpa using V.up I.1) (.inr ⟨_,rfl⟩) λa3 b5 a7=>?_
            rw[<-aO]at a7;refine rn ?_;simp[z];refine⟨by omega,aL _ (by omega) ⟨_,_,a3,rfl,by simp[o,r,g,tF,yW,vO,vP,A,Int.add_assoc],a7⟩⟩
          . have ed:d=n-cY x:=by omega
            subst ed;refine⟨by omega,ad _ (by omega) ⟨_,_,a',rfl,by simp[o,r,g,tF,yW,vO,u],?_,λy hy=>?_⟩⟩
            . rw[zs J,aay,List.flatMap_singleton,<-D]
              exact V
            . rw[zs J,<-D]at hy
              rcases List.mem_append.1 hy with hy|hy
              . exact v y hy
              . rw[List.mem_singleton.1 hy];exact hG
   . have ei:i=M.length:=by omega
     subst ei;rw[ZG]at ht v;refine⟨by omega,?_⟩
     refine ab.Ew 5 (a':=.sl 1 (mU (qK n (k+1))) .any) ?_ (ih _ (by omega) ⟨_,_,rfl,by simp[o,r,g],ht.1,λk' q x hx=>?_⟩)
     . change AV.W a _
       have:=ht.W;rw[B]at this;exact this
     grind
 . have ek:k=n+1:=by omega
   subst ek;have e:xs=np n:=List.ext_getElem (by grind) λj q1 q2=>by grind
   rw[Pz N,<-e]at h;exact .less L (.done h)
def wi(w:cH):acp:=zp w.az.length λl=>decide (jB (w.only l) 72=jB w 72)
theorem JD{w:cH}(a:w.Valid){l:acp}(b:l.length<=w.az.length):yr (w.only l):=by
 refine⟨KD (List.length_filterMap_le _ _) (KD b a.Ec.1),λc d=>a.Ec.2 c ?_⟩;obtain⟨i,_,h⟩:=List.mem_filterMap.1 d
 grind
theorem yB(g:m.solo=true){w:cH}(h:w.qP)(o:w.Open)(hSub:∀l:acp,(∀c∈l,0<=c/\c<(w.az.length:Int))->l.length<=w.az.length->(w.only l).Open)(p:fA w [] [] []=0)(v:KF (.val (.cB [ints (wi w),int 0])) σ):aA prog m 12 [eo w] σ KF:=by
 have y:Wl [eo w,po,po,po] [eo w,ints [],ints [],ints []]:=SE (.refl _) (fQ 1) (fQ 1) (fQ 1);have z:=o.qB;have r:=qJ w 72;refine aA.start lay [1] [] 1 Tryz.func12 rfl rfl (by rfl) (by kernel_rfl) ?_;simp[Tryz.f12];refine bR.intro λwb A=>?_
 simp;refine cu Tryz.func41 rfl rfl y (nO g h ⟨by simp,by simp,by simp⟩ (λq=>absurd p q) λq B fb mb s=>?_);refine ab.run lay [1] ?_;simp;refine cf Tryz.func42 rfl (yx g o s.AA λi I C=>?_);have a:=s.less C;refine ab.runN lay [1] 3 ?_;simp;refine bR.intro λD k=>?_
 simp;change ab _ _ _ _ _ _ _ _ _;refine ab.bC 6 (b:=D) (ints (jB w 72)) (aa.ak _ _ _) (by simp) rfl ?_;rw[fe k];have d:i wb=some (.cells (zk w)):=a _ _ (aa.ak _ _ _);refine ab.run lay [1] ?_;simp[d];refine cf Tryz.func49 rfl (uG (by omega) ?_);refine ab.run lay [1] ?_;simp;have n:w.Valid:=cH.valid h (by unfold fA at p;omega);refine cf Tryz.func43 rfl (JC z.2 rfl (by simp) (G:=λl=>decide (jB (w.only l) 72=jB w 72)) (λl E K t u f F=>dZ Tryz.func44 rfl rfl rfl (Eo g (hSub l t u) ⟨h.ways,n.cS,n.ba⟩ (JD n u) (by omega) t (by omega) (f _ _ d) F)) (B2 _) (λj q=>by grind) ?_);refine ab.run lay [1] ?_;simp;exact .less (λc x H=>a _ _ ((aa.ai _ _ λe=>by simp_all).trans H)) (.done v)
end
section
open Go.bQ Go.Conc
theorem yC(p:Int->Bool):∀n:Nat,n<=6->(0<=aY ((np n).filter p)/\aY ((np n).filter p)<64)/\aB (aY ((np n).filter p))=(np n).filter p
 | 0,_=>by
   show(0<=aY []/\aY []<64)/\aB (aY [])=[];decide
 | n + 1,h=>by
   obtain⟨a,b⟩:=yC p n (by omega);rw[yt];split
   . rw[nk]
     exact⟨(FO a (by omega)).1,by rw[Au a (by omega) λe c=>by grind,b]⟩
   simp_all
section
variable{w:cH}
abbrev NH(w:cH)(es cs:acp):acp:=es++cs.map λ(c:Int)=>c+(w.fair.aD.length:Int)
theorem NI{i:Int}(h:0<=i/\i<w.fair.aD.length):aQ (gT w) i=aQ w.fair i:=by
 have:i.toNat<w.fair.aD.length:=by omega
 unfold aQ gT
 grind
theorem NJ{c:Int}(h:0<=c/\c<w.az.length):aQ (gT w) (c+w.fair.aD.length)=(mh w c).lost:=by
 have a:c.toNat<w.az.length:=by omega
 have e:(c+w.fair.aD.length).toNat=w.fair.aD.length+c.toNat:=by omega
 unfold aQ gT mh
 simp_all
theorem UZ:(gT w).aD.length=w.fair.aD.length+w.az.length:=by simp_all
theorem yD{es cs:acp}(b:∀i∈es,0<=i/\i<w.fair.aD.length)(d:∀i∈cs,0<=i/\i<w.az.length):tv (gT w) (dz w es cs) (NH w es cs):=
 ⟨rfl,rfl,rfl,rfl,abk _,λi a=>by
   grind,by
   show _=(es++cs.map λ(c:Int)=>c+(w.fair.aD.length:Int)).map (aQ (gT w));rw[ZI,abc];show es.map (aQ w.fair)++_=_;rw[aba (g:=aQ (gT w)) λi a=>(NI (b i a)).symm];congr 1
   . exact aba λi a=>(NJ (d i a)).symm⟩
theorem JE(b:w.Valid){es cs:acp}(f:∀i∈es,0<=i/\i<w.fair.aD.length)(g:∀i∈cs,0<=i/\i<w.az.length)(j:es.length+cs.length<=6):(dz w es cs).Good:=by
 have a:=gV b.ys b.qB;have c:=yD f g
 have d:∀e∈(dz w es cs).aD,e∈(gT w).aD:=λe q=>by rw[c.te]at q;obtain⟨i,h,rfl⟩:=List.mem_map.1 q;exact gS (c.Qq i h)
 have hlen:(dz w es cs).aD.length=es.length+cs.length:=by grind
 exact⟨⟨by omega,a.fits.roads,a.fits.row,λe q=>a.fits.marks e (d e q)⟩,a.fr,a.to,a.le,a.cQ,a.aX,by omega,λe q=>a.te e (d e q),a.JN⟩
theorem uJ{h i:Int}(hi:i∈lY w h):0<=i/\i<w.fair.aD.length:=wh (List.mem_filter.1 hi).1
theorem uK{h i:Int}(hi:i∈nj w h):0<=i/\i<w.az.length:=wh (List.mem_filter.1 hi).1
theorem F7(w:cH)(h:Int):(lY w h).length<=w.fair.aD.length:=by
 have:=aas (pE w h) (np w.fair.aD.length)
 rwa [B2]at this
theorem F8(w:cH)(h:Int):(nj w h).length<=w.az.length:=by
 have:=aas (pC w h) (np w.az.length)
 rwa [B2]at this
theorem cH.Valid.kE(a:w.Valid)(h:Int):aB (kE w h)=lY w h:=(yC _ _ (by have:=a.qB;omega)).2
theorem cH.Valid.kC(a:w.Valid)(h:Int):aB (kC w h)=nj w h:=(yC _ _ (by have:=a.qB;omega)).2
abbrev Qv(w:cH)(h:Int):Fr:=dz w (lY w h) (nj w h)
abbrev U1(w:cH)(h:Int):acp:=NH w (lY w h) (nj w h)
theorem JF(w:cH)(h:Int):tv (gT w) (Qv w h) (U1 w h):=yD (λ_=>uJ) λ_=>uK
theorem F9(a:w.Valid)(h:Int):(Qv w h).Good:=JE a (λ_=>uJ) (λ_=>uK) (by have:=F7 w h;have:=F8 w h;have:=a.qB;omega)
theorem cH.Valid.open(a:w.Valid):w.Open:=by
 have c:=a.qB;refine⟨⟨by omega,a.Ec.1⟩,λh=>?_⟩;have hb:=F9 a h;obtain⟨v,b⟩:=aat _ a.some;obtain⟨u,d,_⟩:=(JF w h).cS (gV a.ys c) hb b;refine⟨?_,?_,?_,?_⟩<;>simp only[a.kE,a.kC]
 . exact λ_=>uJ
 . exact λ_=>uK
 . exact hb
 grind
theorem tD{l:acp}(b:∀c∈l,0<=c/\c<(w.az.length:Int)):(w.only l).az=l.map (mh w):=by
 show l.filterMap _=_;induction l with
 |nil=>rfl
 | cons a l e=>
   have f:=b a (by simp);have d:a.toNat<w.az.length:=by omega
   rw[List.filterMap_cons,aaT,zU d];simp only[List.cons.injEq];exact⟨by simp[mh,d],e λc q=>b c (by simp[q])⟩
theorem Hp{c:Int}(h:0<=c/\c<w.az.length):mh w c∈w.az:=by
 have a:c.toNat<w.az.length:=by omega
 unfold mh
 simp_all
theorem cH.Valid.only(a:w.Valid){l:acp}(e:∀c∈l,0<=c/\c<(w.az.length:Int))(o:l.length<=w.az.length):(w.only l).Valid:=by
 have h:=tD e;have k:=a.qB
 have f:∀c∈(w.only l).az,c∈w.az:=λc q=>by rw[h]at q;obtain⟨i,m,rfl⟩:=List.mem_map.1 q;exact Hp (e i m)
 have hlen:(w.only l).az.length=l.length:=by simp_all
 have j:(w.only l).qP:=⟨a.ys.fits,a.ys.Cd,λc q=>a.ys.SC c (f c q),a.ys.ways,by omega⟩
 have b:(w.only l).fair.aD.length+(w.only l).az.length<=6:=by rw[hlen];show w.fair.aD.length+l.length<=6;omega
 refine⟨j,a.ba,a.cS,a.YE,⟨by rw[hlen];have:=a.Ec.1;omega,λc q=>a.Ec.2 c (f c q)⟩,λc q=>a.late c (f c q),b,?_⟩
 obtain⟨v,g⟩:=aat _ a.some
 have d:tv (gT w) (gT (w.only l)) (NH w (np w.fair.aD.length) l):=by
  have:=yD (w:=w) (es:=np w.fair.aD.length) (cs:=l) (λ_=>wh) e
  refine⟨rfl,rfl,rfl,rfl,abk _,this.Qq,?_⟩;rw[<-this.te];show w.fair.aD++(w.only l).az.map (·.lost)=(np w.fair.aD.length).map (aQ w.fair)++l.map λc=>(mh w c).lost
  rw[h,abc];congr 1;refine List.ext_getElem (by grind) λi n p=>?_
  unfold np;rw[aaR,aaR,List.getElem_range];simp[aQ,n]
 obtain⟨u,r,_⟩:=d.cS (gV a.ys k) (gV j b) g
 grind
end
end
section
open Go Go.bQ Go.Conc
variable{m:Mo}{σ:aa}{KF:abT}
theorem PA{P Q:Prop}(f:P->Q)(p:P):Q:=f p
end
section
open Go.bQ Go.Conc
section
variable{w:cH}
theorem Ga:∀n:Fin 4,∀k:Fin 4,k.1<=n.1->qK n.1 k.1=BR n.1 k.1:=by decide +kernel
theorem NK(w:cH):w.only (np w.az.length)=w:=by
 have h:=tD (w:=w) (l:=np w.az.length) λc q=>wh q
 have e:(np w.az.length).map (mh w)=w.az:=List.ext_getElem (by grind) λi d a=>by unfold np;rw[aaR,aaR,List.getElem_range];simp[mh,a]
 have b:(np w.az.length).filterMap (λc=>w.az[c.toNat]?)=w.az:=h.trans e
 unfold cH.only;rw[b]
theorem Gb:∀n:Fin 4,np n.1∈qK n.1 n.1:=by decide +kernel
end
end
section
open Go Go.bQ Go.Conc
variable{m:Mo}{σ:aa}{KF:abT}
theorem nP{a b c d e:Int}{l:acp}(h:KF (.val (br ⟨a,b,c,l,d,e⟩)) σ):aA prog m 37 [int a,int b,int c,int d,int e,ints l] σ KF:=by
 refine fs [] 6 Tryz.func37 rfl rfl (by rfl) (by kernel_rfl) ?_;simp[Tryz.f37];refine bR.intro λk f=>?_
 simp;exact .less (by repeat (first|exact aa.le_refl _|assumption|refine aa.fj ?_ (by assumption)|refine aa.lD ?_ (by assumption))) (.done h)
theorem B9{a b c d e:Int}(h:KF (.val (jH ⟨a,b,c,d,e⟩)) σ):aA prog m 68 [int a,int b,int c,int d,int e] σ KF:=by
 refine fs [] 5 Tryz.func68 rfl rfl (by rfl) (by kernel_rfl) ?_;simp[Tryz.f68];refine bR.intro λk f=>?_
 simp[aJ];exact .less (by repeat (first|exact aa.le_refl _|assumption|refine aa.fj ?_ (by assumption)|refine aa.lD ?_ (by assumption))) (.done h)
def NL:acC:=[⟨10,0,1,[0],15,0⟩,⟨12,0,1,[],16,1⟩,⟨14,0,2,[],14,0⟩,⟨16,0,1,[],14,0⟩]
def yE:List Way:=[⟨0,1,4,6,20⟩,⟨1,2,1,0,72⟩,⟨2,0,2,0,72⟩]
def U2:Fr:=⟨NL,[[0,2],[2,0]],1,2,3,3⟩
def U3:Jq:=⟨⟨4,1,1,[0],15,0⟩,1,5⟩
def lW(n:Nat):cH:=⟨U2,3,yE.take n,[U3]⟩
theorem AG{n:Nat}(z:n<=3)(h:KF (.val (eo (lW n))) σ):aA prog m 32 [int n] σ KF:=by
 have v:∀a b c d e:Int,∀l:acp,Wl [int a,int b,int c,int d,int e,.sl 1 (l.map int) .exact] [int a,int b,int c,int d,int e,ints l]:=λa b c d e l=>.cons (.refl _) (.cons (.refl _) (.cons (.refl _) (.cons (.refl _) (.cons (.refl _) (.cons (ik 1 _ .exact) .nil)))))
 have r:∀a b c d e:Int,Wl [int a,int b,int c,int d,int e,.lit (.slice none 0 0)] [int a,int b,int c,int d,int e,ints []]:=λa b c d e=>.cons (.refl _) (.cons (.refl _) (.cons (.refl _) (.cons (.refl _) (.cons (.refl _) (.cons (fQ 1) .nil)))))
 refine fs V' 1 Tryz.func32 rfl rfl (by rfl) (by kernel_rfl) ?_
 simp[Tryz.f32];refine bR.intro λwb t=>?_
 simp;refine cu Tryz.func37 rfl rfl (v 10 0 1 15 0 [0]) (nP ?_);refine rn ?_;simp;refine cu Tryz.func37 rfl rfl (r 12 0 1 16 1) (nP ?_);refine rn ?_;simp;refine cu Tryz.func37 rfl rfl (r 14 0 2 14 0) (nP ?_);refine rn ?_;simp;refine cu Tryz.func37 rfl rfl (r 16 0 1 14 0) (nP ?_);refine ab.runN lay [] 9 ?_;simp[aJ];refine bR.intro λfb j=>?_
 obtain⟨A,B,w⟩:=aa.aN j;simp[aJ]
 change ab _ _ _ _ _ _ _ _ _
 refine ab.bC 3 (b:=fb) (.agg [.sl 6 (NL.map br) .exact,.sl 1 [.sl 1 [int 0,int 2] .exact,.sl 1 [int 2,int 0] .exact] .exact,int 1,int 2,int 3,int 3]) (aa.ak _ _ _) (by simp) rfl ?_
 rw[fe j];refine rn ?_;simp;refine cf Tryz.func68 rfl (B9 ?_);refine rn ?_;simp;refine cf Tryz.func68 rfl (B9 ?_);refine rn ?_;simp;refine cf Tryz.func68 rfl (B9 ?_);refine rn ?_;simp;obtain⟨L,x⟩:∃L,L=(yE.take n).map jH:=⟨_,rfl⟩;have u:((yE.map jH).drop 0).take (n-0)=L:=by simp_all
 have YB:(σ.set wb (.cells [.nil,.nil,int 0,int 0,int 0,int 0,int 0,.nil,.nil])) wb=some (.cells [.nil,.nil,int 0,int 0,int 0,int 0,int 0,.nil,.nil]):=aa.ak _ _ _;have k:n<=(yE.map jH).length:=by simp[yE];omega
 apply PA
 . intro key
   repeat' first
    |refine⟨?_,?_⟩
    | (refine wT lay rfl Rf rfl Ui (es:=yE.map jH) (sp:=.exact) (l:=0) (h:=n) (by simp[yE]) (λcap o=>⟨rfl,⟨⟨.i64,by simp⟩,KD k o⟩,rfl⟩) k ?_
       rw[u];refine pg ?_;simp[aJ])
    | (refine cu Tryz.func37 rfl rfl (v 4 1 1 15 0 [0]) (nP ?_)
       refine pg ?_;simp[aJ])
   all_goals
    refine ab.jL (λe s=>e 2=.ref wb 0/\s=σ.set wb (.cells [.sl 6 (NL.map br) .exact,.sl 1 [.sl 1 [int 0,int 2] .exact,.sl 1 [int 2,int 0] .exact] .exact,int 1,int 2,int 3,int 3,int 3,.sl 5 L .any,.sl 8 [fW U3] .exact])) ⟨by simp,rfl⟩ ?_
    exact key
 rintro env _ ⟨y,rfl⟩
 refine rn ?_;simp[y]
 have p:(AV.sl 1 [AV.sl 1 [int 0,int 2] .exact,.sl 1 [int 2,int 0] .exact] .exact).W (rows [[0,2],[2,0]]):=US rfl (λa q=>by simp at q;rcases q with rfl|rfl<;>rfl) (λa q=>by simp at q;rcases q with rfl|rfl<;>rfl) (λi a a' f g=>by
  match i with
  |0=>simp at f g;subst f;subst g;exact ik 1 [int 0,int 2] .exact
  |1=>simp at f g;subst f;subst g;exact ik 1 [int 2,int 0] .exact
  |i+2=>simp at f)
 refine .less (aa.fj (aa.le_refl _) t) (.n8 (a':=eo (lW n)) (pS rfl λi a a' f g=>?_) (.done h))
 match i with
 |0=>cases f;cases g;exact ik 6 _ .exact
 |1=>cases f;cases g;exact p
 |2=>cases f;cases g;exact .refl _
 |3=>cases f;cases g;exact .refl _
 |4=>cases f;cases g;exact .refl _
 |5=>cases f;cases g;exact .refl _
 |6=>cases f;cases g;exact .refl _
 |7=>cases f;cases g;rw[x];exact .refl _
 |8=>cases f;cases g;exact ik 8 _ .exact
 |i+9=>cases f
end
section
open Go Go.bQ Go.Conc
def Hq(f:Fr):Bool:=decide (f.aD.length<100) && decide (f.roads.length<100) && f.roads.all (λr=>decide (r.length<100)) && f.aD.all (λe=>decide (e.marks.length<100))
theorem yF{f:Fr}(h:Hq f=true):f.Fits:=by simp only[Hq,zj,decide_eq_true_eq,ZP]at h;obtain⟨⟨⟨a,b⟩,c⟩,d⟩:=h;exact⟨by omega,by omega,λr g=>by grind,λe i=>by grind⟩
def Ep(f:Fr):Bool:=Hq f && decide (check f=0)
theorem NM{f:Fr}(h:Ep f=true):f.Good:=by simp only[Ep,zj,decide_eq_true_eq]at h;exact Fr.qO (yF h.1) h.2
def oR(h:Int):Int:=if h<0 then -1 else if 72<h then 72 else h
theorem NN(h:Int):∃k:Nat,k<74/\oR h=(k:Int)-1:=by refine⟨(oR h+1).toNat,?_,?_⟩<;>(unfold oR;split<;>(try split)<;>omega)
def Gc(w:cH):Bool:=(np w.fair.aD.length).all (λi=>decide (0<=(aQ w.fair i).hour) && decide ((aQ w.fair i).hour<=72)) && (np w.az.length).all λi=>decide (0<=il w i.toNat)
theorem Er{w:cH}(a:Gc w=true)(h:Int):kE w h=kE w (oR h)/\kC w h=kC w (oR h):=by
 simp only[Gc,zj,ZP,decide_eq_true_eq]at a
 have c:lY w h=lY w (oR h):=aaA λx b=>by
  have:=a.1 x b;unfold pE oR
  grind
 have d:nj w h=nj w (oR h):=aaA λx b=>by
  have:=a.2 x b;unfold pC oR
  grind
 grind
def Wp(w:cH)(p:Int × Int):Bool:=(aB p.1).all (λi=>decide (0<=i) && decide (i<w.fair.aD.length)) && (aB p.2).all (λi=>decide (0<=i) && decide (i<w.az.length)) && Ep (dz w (aB p.1) (aB p.2)) && decide (aH (dz w (aB p.1) (aB p.2)) []≠[])
theorem U4{w:cH}{p:Int × Int}(h:Wp w p=true):w.Bk p.1 p.2:=by simp only[Wp,zj,ZP,decide_eq_true_eq]at h;exact⟨h.1.1.1,h.1.1.2,NM h.1.2,h.2⟩
def Qw(w:cH)(L:abF):Bool:=decide (w.fair.aD.length<=6) && decide (w.az.length<=3) && Gc w && (List.range 74).all (λk=>L.contains (kE w ((k:Int)-1),kC w ((k:Int)-1))) && L.all (Wp w)
theorem Ca{w:cH}{L:abF}(h:Qw w L=true):w.Open:=by
 simp only[Qw,zj,ZP,decide_eq_true_eq]at h;refine⟨⟨h.1.1.1.1,h.1.1.1.2⟩,λt=>?_⟩;obtain⟨a,b⟩:=Er h.1.1.2 t;obtain⟨k,c,ek⟩:=NN t;rw[a,b,ek];exact U4 (p:=(kE w ((k:Int)-1),kC w ((k:Int)-1))) (h.2 _ (by grind))
def Qx(w:cH):Bool:=Ep w.fair && w.az.all (λc=>Hq (lone w.fair c.lost) && decide (check (lone w.fair c.lost)=0)) && decide (w.ways.length<100) && decide (w.az.length<100)
theorem Hr{w:cH}(h:Qx w=true):w.qP:=by simp only[Qx,Ep,zj,ZP,decide_eq_true_eq]at h;obtain⟨⟨⟨⟨d,e⟩,a⟩,f⟩,g⟩:=h;exact⟨yF d,e,λc b=>⟨yF (a c b).1,(a c b).2⟩,by omega,by omega⟩
theorem PB:(lW 2).qP/\(lW 3).qP:=⟨Hr (by decide +kernel),Hr (by decide +kernel)⟩
theorem Ht:(lW 2).Open/\(lW 3).Open:=⟨Ca (L:=[(0,0),(0,1),(1,0),(1,1),(3,1),(7,1),(15,1)]) (by decide +kernel),Ca (L:=[(0,0),(0,1),(1,1),(3,1),(7,1),(15,1)]) (by decide +kernel)⟩
end
section
open Go Go.bQ Go.Conc
variable{m:Mo}{σ:aa}{KF:abT}
theorem RF:G4 prog 26 3:=.of (by kernel_rfl) (by kernel_rfl) (by kernel_rfl) (by kernel_rfl)
namespace SR
abbrev Wq:ace:=[⟨4,.take [0,1,2,3,4,5,6,7] false (.one 8 (.done))⟩]
theorem zq{a b:abF}(A:a.length<1152921504606846976)(hb:b.length<1152921504606846976)(h:KF (.val (bool (decide (a=b)))) σ):aA prog m 35 [oQ a,oQ b] σ KF:=by
 refine fs Wq 2 Tryz.func35 rfl rfl (by rfl) (by kernel_rfl) ?_;simp[Tryz.f35];refine ab.loop a.length (λk s=>∃env,s=⟨env,σ,[],.no⟩/\env 0=oQ a/\env 1=oQ b/\env 5=int k/\k<=b.length/\a.take k=b.take k) ⟨_,rfl,by simp⟩ ?_;rintro B k _ C ⟨env,rfl,g,l,i,r,o⟩ t;refine rn ?_;simp[g,i];refine uX.intro (λf=>?_) (λf=>?_)<;>(try simp[-Int.not_lt,-Int.not_le,-Nat.not_lt,-Nat.not_le]at f)<;>(try simp[g,l,i,f])
 . refine aG.intro (λj=>?_) (λj=>?_)<;>(try simp[-Int.not_lt,-Int.not_le,-Nat.not_lt,-Nat.not_le]at j)<;>(try simp[g,l,i,j,f])
   . obtain⟨x,u⟩:∃x,x=a[k]:=⟨_,rfl⟩
     obtain⟨y,v⟩:∃y,y=b[k]:=⟨_,rfl⟩;simp only[<-u,<-v];refine Iq lay RF qM rfl rfl (a:=x.1) (b:=x.2) (c:=y.1) (d:=y.2) (by simp) (by simp) (.inr ⟨rfl,rfl⟩) ?_;have w:(!(x.1==y.1 && x.2==y.2))=!decide (x=y):=by grind
     rw[w];by_cases p:x=y
     . refine pg ?_
       simp[p];refine rn ?_;simp[i];have z:a[k]=b[k]:=by simp_all
       refine⟨by omega,t _ f ⟨_,rfl,by simp[g],by simp[l],by simp,by omega,?_⟩⟩;rw[zs f,zs j,o,z]
     . have:a≠b:=λe=>by simp_all
       simp[this]at h;refine pg ?_;simp[p];refine rn ?_;simp;exact .done h
   . have:a≠b:=λe=>by simp_all
     have n:((a.length:Int)==b.length)=false:=by grind
     rw[n];exact .done (by simp_all)
 . have:k=a.length:=by omega
   subst this;rw[ZG]at o;by_cases e:a.length=b.length
   . have:a=b:=by grind
     exact .done (by grind)
   . have:a≠b:=λq=>e (by rw[q])
     have n:((a.length:Int)==b.length)=false:=by grind
     rw[n];exact .done (by grind)
end SR
theorem NO:fA (lW 3) [] [] [0]=0/\fA (lW 3) [14] [] []=0/\fA (lW 3) [] [1] []=0/\fA (lW 2) [] [] []=0/\fA (lW 3) [] [] []=0:=by decide +kernel
theorem PC:il (lW 3) 0=8/\jB (lW 3) 14=[0,1]/\cr (lW 3) 1=[(12,15)]/\iS (lW 2) (lW 2).fair.aD.length=67/\wi (lW 3)=[0]:=by decide +kernel
theorem NP:jN (lW 3) 16 0 0=1/\((List.range 16).all λh=>(List.range 4).all λ(i:Nat)=>decide (jN (lW 3) (h:Nat) i 0≠1))=true:=by decide +kernel
theorem RG:∀l:acp,(∀c∈l,0<=c/\c<((lW 3).az.length:Int))->l.length<=(lW 3).az.length->((lW 3).only l).Open:=λl d g=>by
 have f:l=[]\/l=[0]:=by
  match l with
  |[]=>simp_all
  | [a]=>
    have:=d a (by simp);have e:(lW 3).az.length=1:=rfl
    grind
  | a::b::t=>
    have e:(lW 3).az.length=1:=rfl
    simp_all
 rcases f with rfl|rfl
 . exact Ca (L:=[(0,0),(1,0),(3,0),(7,0),(15,0)]) (by decide +kernel)
 . exact Ht.2
theorem Gd:(∀h i:Nat,h<73->i<(lW 3).fair.aD.length->foundAt (lW 3) 0 h i->h=16/\i=0)/\¬(∀a b:Nat,a<73->b<(lW 3).fair.aD.length->jN (lW 3) a b 0≠1):=by
 obtain⟨f1,c⟩:=NP;have e:(lW 3).fair.aD.length=4:=rfl;refine⟨λh i j k d=>?_,λq=>q 16 0 (by omega) (by omega) f1⟩;simp only[ZP,decide_eq_true_eq,abf]at c;by_cases f:h<16
 . exact absurd d.1 (c h f i (by omega))
 . by_cases g:h=16/\i=0
   . exact g
   . exact absurd f1 (d.2 16 0 (by omega) (by omega))
theorem NQ(d:m.solo=true)(h:KF (.val (bool true)) σ):aA prog m 16 [] σ KF:=by
 have e:∀(σ:aa) (KF:abT),KF (.val (eo (lW 3))) σ->aA prog m 32 [int 3] σ KF:=λσ KF h=>AG (n:=3) (by decide) h
 have k:∀(σ:aa) (KF:abT),KF (.val (eo (lW 2))) σ->aA prog m 32 [int 2] σ KF:=λσ KF h=>AG (n:=2) (by decide) h
 obtain⟨j,l,o,p,r⟩:=NO;obtain⟨s,t,u,v,w⟩:=PC;obtain⟨f1,x⟩:=Gd;obtain⟨y,f⟩:=PB;obtain⟨z,g⟩:=Ht;have sub:=RG;generalize lW 3=A at *;generalize lW 2=B at *;refine fs [] 0 Tryz.func16 rfl rfl (by rfl) (by kernel_rfl) ?_;simp[Tryz.f16];refine cf Tryz.func32 rfl (e _ _ ?_);refine rn ?_;simp;refine cf Tryz.func22 rfl (Ek d f (c:=0) (by decide) j ?_);rw[s,if_neg (by decide)];refine rn ?_;simp;refine cf Tryz.func32 rfl (e _ _ ?_);refine rn ?_;simp;refine cf Tryz.func11 rfl (yy d f g (λq=>absurd l q) λ_=>?_);rw[t];refine rn ?_;simp;refine cf Tryz.func32 rfl (e _ _ ?_);refine rn ?_;simp;refine cf Tryz.func23 rfl (Jx d f g (by decide) (λq=>absurd o q) λ_=>?_);rw[u];refine rn ?_;simp;refine cf Tryz.func32 rfl (e _ _ ?_);refine rn ?_;simp;refine cf Tryz.func31 rfl (JA d f g (by decide) j (λh i C D E=>?_) λq=>absurd q x)
 obtain⟨rfl,rfl⟩:=f1 h i C D E;refine rn ?_;simp;refine cf Tryz.func32 rfl (k _ _ ?_);refine rn ?_;simp;refine cf Tryz.func25 rfl (Jz d y z p ?_);rw[v];refine rn ?_;simp;refine cf Tryz.func32 rfl (e _ _ ?_);refine rn ?_;simp;refine cf Tryz.func12 rfl (yB d f g sub r ?_);rw[w];refine rn ?_;simp;refine cu Tryz.func15 rfl rfl (.cons (.refl _) (.cons (ik 1 [int 0,int 1] .exact) .nil)) (mP (a:=[0,1]) (b:=[0,1]) (by simp) (by simp) ?_);refine rn ?_;simp;refine cu Tryz.func35 rfl rfl (.cons (.refl _) (.cons (ik 2 [kG (12,15)] .exact) .nil)) (SR.zq (a:=[(12,15)]) (b:=[(12,15)]) (by simp) (by simp) ?_);refine rn ?_;simp;refine cu Tryz.func15 rfl rfl (.cons (.refl _) (.cons (ik 1 [int 0] .exact) .nil)) (mP (a:=[0]) (b:=[0]) (by simp) (by simp) ?_);refine rn ?_;simp;exact .done h
end
section
open Go.bQ Go.Conc
variable{m:Mo}{σ:aa}{KF:abT}
theorem yG{P:acD}{m:Mo}{fid n:Nat}{ro:acf}{hold:ace}{K:bQ.Exit->St->Prop}{todo:acm}{D:acz}{rc:Rec}{G:Prop}(I:abP)
 (a:(∀env σ,I env σ->ab P m fid n ro hold todo ⟨env,σ,D,rc⟩ K)->G) (b:∀env σ,I env σ->ab P m fid n ro hold todo ⟨env,σ,D,rc⟩ K):G:=a b
end
open Go Go.bQ Go.Conc
variable{m:Mo}{σ:aa}{KF:abT}
namespace ON
abbrev Wr:ace:=[⟨5,.take [0,1,3,4,5,6] false (.one 2 (.take [7,8] false (.one 9 (.one 10 (.take [11] true (.done))))))⟩]
theorem JG{w:cH}{l:acp}(D:∀c∈l,0<=c/\c<(w.az.length:Int))(U:l.length<=1000)(h:KF (.val (eo (w.only l))) σ):aA prog m 14 [eo w,ints l] σ KF:=by
 refine aA.start lay [2] Wr 2 Tryz.func14 rfl rfl (by rfl) (by kernel_rfl) ?_
 simp[Tryz.f14];refine bR.intro λz V=>?_
 simp;refine bR.intro λA E=>?_
 obtain⟨F,G,E⟩:=aa.aN E;simp[F,G,aa.ai];generalize p:(σ.set z (.cells (zk w))).set A (.cells [.lit (.slice none 0 0),.lit (.slice none 0 0),int 0,int 0,int 0,int 0,int 0,.lit (.slice none 0 0),.lit (.slice none 0 0)])=t;have J:t z=some (.cells (zk w)):=by subst p;exact(aa.ai _ _ (by assumption)).trans (aa.ak _ _ _)
 have K:t A=some (.cells [.lit (.slice none 0 0),.lit (.slice none 0 0),int 0,int 0,int 0,int 0,int 0,.lit (.slice none 0 0),.lit (.slice none 0 0)]):=by subst p;simp_all
 refine ab.loop l.length (λi s=>∃env q a,s=⟨env,q,[],.no⟩/\(env 1=ints l/\env 2=.ref z 0/\env 4=.ref A 0/\env 5=a/\env 6=int i)/\Tok t q a 8 ((l.take i).map λc=>fW (mh w c))) ⟨_,_,.nil,rfl,⟨by simp,by simp,by simp,by simp,by simp⟩,by simpa using Tok.nil t 8⟩ ?_
 rintro X i _ Y ⟨env,q,a,rfl,⟨f,g,j,k,n⟩,d⟩ L
 have b:=d.cells;have o:=d.1 _ _ J;have M:=d.1 _ _ K;refine rn ?_;simp[f,g,j,k,n,b.1,b.2,o];refine aG.intro (λr=>?_) (λr=>?_)<;>(try simp[-Int.not_lt,-Int.not_le,-Nat.not_lt,-Nat.not_le]at r)<;>(try simp[f,g,j,k,n,b.1,b.2,o,r])
 . have B:=D _ (zD r)
   obtain⟨x,u⟩:∃x,x=l[i]:=⟨_,rfl⟩;simp only[<-u]at B ⊢;have v:x.toNat<w.az.length:=by omega
   have C:mh w x=w.az[x.toNat]:=by simp[mh,v]
   simp[f,g,j,k,n,b.1,b.2,o,B.1,B.2,v,<-C];refine aK lay rfl rfl rfl It rfl It rfl Rg (by decide) (by simp;omega) (σ0:=t) (es:=(l.take i).map λc=>fW (mh w c)) (xs:=[fW (mh w x)]) (by simpa using d) (.inr ⟨.exact,by simp⟩) λN O P=>?_
   refine aM.go lay [2] ?_;simp[f,g,j,k,n,b.1,b.2,o];refine ab.run lay [2] ?_;simp[f,g,j,k,n,b.1,b.2,o];refine⟨by omega,L _ r ⟨_,_,N,rfl,⟨by simp[f,g,j,k,n,b.1,b.2,o],by simp[f,g,j,k,n,b.1,b.2,o],by simp[f,g,j,k,n,b.1,b.2,o],by simp,by simp⟩,?_⟩⟩
   rw[zs r,ZI,<-u]
   simpa using P
 . have Q:i=l.length:=by omega
   subst Q;rw[ZG]at d;simp[f,g,j,k,n,b.1,b.2,o,M,aa.ai,F,G,aJ];have R:=tD D
   have S:(AV.agg (vK w a)).W (eo (w.only l)):=CW.Qu (by rw[R];show a.W (.sl 8 ((l.map (mh w)).map fW) .any);rw[abc];exact d.W)
   refine .n8 S (.less (λy x T=>?_) (.done h))
   have H:y≠z:=λe=>by simp_all
   have I:y≠A:=λe=>by simp_all
   rw[aa.ai _ _ I,aa.ai _ _ H];refine d.1 _ _ ?_;rw[<-p,aa.ai _ _ I,aa.ai _ _ H];exact T
end ON

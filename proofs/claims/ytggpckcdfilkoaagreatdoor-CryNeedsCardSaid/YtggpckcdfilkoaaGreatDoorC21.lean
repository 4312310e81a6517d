import Derived.Test.YtggpckcdfilkoaaGreatDoorC20
set_option linter.all false
set_option maxHeartbeats 16000000
set_option maxRecDepth 4000
namespace Go.Proofs.YtggpckcdfilkoaaGreatDoor
open Go.Proofs.Tryz hiding f0 f1 f10
section
open Go Go.bu Go.Conc
variable{m:Mo}{σ:af}{KF:YC}
def qw:Ke->AV
 |none=>.agg [Ae [],Xn 0]
 |some r=>lN r
def tk:Ke->We
 |none=>[.lit (.slice none 0 0),Xn 0]
 |some r=>[Ae r.1,Xn r.2]
def np(o:Ke):Bool:=match o with
 |none=>false
 |some r=>decide (r.2<=72)
namespace W7
abbrev afB:YA:=[⟨11,.take (MX 0 9) false (MU [9] (MV [10,11]))⟩,⟨13,.take [0,1,2,3,4,5,6,8] false (MU [7] .done)⟩]
def qT{w}(hl:w.ways.length<1152921504606846976)(hw:∀x∈w.ways,uv w.aX x)(ht:1<=w.aX/\w.aX<=4){c}(hc:c<w.ak.length)(hh:0<=w.ak[c].hour/\w.ak[c].hour<=72)(h:KF (.val (.cx [qw ((sL w w.ak[c] w.aX.toNat).foldl iv none),T0 (np ((sL w w.ak[c] w.aX.toNat).foldl iv none))])) σ):ar prog m 71 [aT w,Xn c] σ KF:=by
 have I:w.ak[c]?=some w.ak[c]:=am
 obtain⟨N,hN⟩:∃N:Nat,w.aX=N:=am
 have a8:N<=4:=ac
 rw[show w.aX.toNat=N by omega]at h
 obtain⟨x,hx⟩:=S1 (w.ak[c]);rw[<-hx]at hh h I;refine S0 afB func71 ?_
 simp[f71];refine bz.intro λA a9=>?_
 simp[I];refine bz.intro λF B=>?_
 obtain⟨n1,n2,Q⟩:=af.bd B;simp[aI];refine bz.intro λtb C=>?_
 obtain⟨t,xO⟩:=S1 ((σ.set A (.cells (tk none))).set F (.cells [Xn x.lost.hour,Xn x.lost.place,Xn x.lost.di,Ae x.lost.marks,Xn x.lost.bY,Xn x.lost.ma,Xn x.town,Xn x.hour]));have f:t=(σ.set A (.cells [AV.lit (.slice none 0 0),Xn 0])).set F (.cells [Xn x.lost.hour,Xn x.lost.place,Xn x.lost.di,Ae x.lost.marks,Xn x.lost.bY,Xn x.lost.ma,Xn x.town,Xn x.hour]):=xO;rw[<-f]at C;simp only[<-f];have q1:t A=some (.cells (tk none)):=by simp_all [af.ah,af.aj]
 have q2:t F=some (.cells [Xn x.lost.hour,Xn x.lost.place,Xn x.lost.di,Ae x.lost.marks,Xn x.lost.bY,Xn x.lost.ma,Xn x.town,Xn x.hour]):=aq
 have J:σ.Le t:=by grind [af.bZ,af.le_refl]
 have t1:A≠tb:=am
 have t2:F≠tb:=am
 have r2:∀X,(t.set tb X) F=some (.cells [Xn x.lost.hour,Xn x.lost.place,Xn x.lost.di,Ae x.lost.marks,Xn x.lost.bY,Xn x.lost.ma,Xn x.town,Xn x.hour]):=(by grind [af.ah])
 obtain⟨O,R⟩:=S1 (λk=>(sL w x k).foldl iv none:Nat->Ke)
 have S:(sL w x N).foldl iv none=O N:=by rw[R]
 rw[S]at h;clear B Q xO f;simp;refine aa.loop N (λk s=>∃ε,s=⟨ε,t.set tb (.cells (tk (O k))),[],.no⟩/\ε 2=.cp (aT w) 0/\ε 4=.ref A 0/\ε 6=.ref F 0/\ε 7=.ref tb 0/\ε 8=T0 (O k).isSome/\ε 9=Xn ((k+1:Nat):Int)) ?_ ?_
 . have T:O 0=none:=by rw[R];rfl
   exact⟨_,by rw[show tk (O 0)=[.lit (.slice none 0 0),Xn 0]by rw[T];rfl],ap,ap,ap,ap,aq,ap⟩
 rintro c0 k _ hk ⟨ε,rfl,l,g,D,n,d,p⟩ ih
 rcases za k N with K|K
 . apply rn
   have P:(k:Int)+1<=w.aX:=ac
   simp[l,D,p,P,r2,aI];refine bp func122 rfl rfl (.cons (.refl _) (.cons (by grind [tA,eo]) (.cons (.refl _) .nil))) (CAt hl hw ht k (r:=([x.town],x.hour)) (many:=k+1) am ap ac ac ?_)
   obtain⟨M,U⟩:=S1 (lu w k ([x.town],x.hour))
   have ab:M.length<=256:=by have L:=Aw ht.2 k ([x.town],x.hour);rw[<-U]at L;exact FL L (FL (KQ ac (show k<=4 by omega)) be)
   rw[<-U]
   have V:O (k+1)=M.foldl iv (O k):=by rw[R,U];show((List.range (k+1)).flatMap _).foldl iv none=_;rw[zU,Fe,ET];simp only[Mh,List.flatMap_nil,xx];rfl
   apply rn;simp;refine aa.loop M.length (λj s=>∃ε,s=⟨ε,t.set tb (.cells (tk ((M.take j).foldl iv (O k)))),[],.no⟩/\ε 2=.cp (aT w) 0/\ε 4=.ref A 0/\ε 6=.ref F 0/\ε 7=.ref tb 0/\ε 8=T0 ((M.take j).foldl iv (O k)).isSome/\ε 9=Xn ((k+1:Nat):Int)/\ε 10=.sl 2 (M.map lN) .any/\ε 11=Xn j) ?_ ?_
   . exact⟨_,rfl,by simp[l],by simp[g],by simp[D],by simp[n],by simp[d],by simp[p],ap,ap⟩
   clear l g D n d p ε
   rintro c1 j _ hj ⟨ε,rfl,l,g,D,n,d,p,er,fh⟩ G
   apply rn;simp[er,fh];refine aM.intro (λE=>?_) (λE=>?_)<;>(try simp[-Int.not_lt,-Int.not_le,-Nat.not_lt,-Nat.not_le]at E)<;>(try simp[d,p,E])
   . obtain⟨y,hy⟩:=S1 (M[j])
     have H:M[j]?=some y:=by rw[hy];exact kn E
     have u:(M.take (j+1)).foldl iv (O k)=iv ((M.take j).foldl iv (O k)) y:=by rw[so E,ET,<-hy];rfl
     obtain⟨o,W⟩:=S1 ((M.take j).foldl iv (O k));rw[<-W]at d u ⊢;cases o with
     | none=>
       simp only[Option.isSome_none]at d;have a:(M.take (j+1)).foldl iv (O k)=some y:=u;have hb:tk ((M.take (j+1)).foldl iv (O k))=[Ae y.1,Xn y.2]:=by rw[a];rfl
       have e:tk none=[.lit (.slice none 0 0),Xn 0]:=rfl;simp;apply rn;simp[n,er,fh,H,aI,e];refine⟨ac,G _ E ⟨_,by rw[hb],by simp[l],by simp[g],by simp[D],by simp[n],by rw[a];simp,by simp[p],by simp[er],ap⟩⟩
     | some b=>
       simp only[Option.isSome_some]at d;have e:tk (some b)=[Ae b.1,Xn b.2]:=rfl;simp[n,er,fh,H,e]
       by_cases q:y.2<b.2
       . have a:(M.take (j+1)).foldl iv (O k)=some y:=by rw[u];show(if y.2<b.2 then some y else some b)=some y;rw[wS q]
         have hb:tk ((M.take (j+1)).foldl iv (O k))=[Ae y.1,Xn y.2]:=by rw[a];rfl
         apply rn;simp[n,er,fh,H,aI,q];refine⟨ac,G _ E ⟨_,by rw[hb],by simp[l],by simp[g],by simp[D],by simp[n],by rw[a];simp,by simp[p],by simp[er],ap⟩⟩
       . have a:(M.take (j+1)).foldl iv (O k)=some b:=by rw[u];show(if y.2<b.2 then some y else some b)=some b;rw[wN q]
         have hb:tk ((M.take (j+1)).foldl iv (O k))=[Ae b.1,Xn b.2]:=by rw[a];rfl
         apply rn;simp[fh,q];refine⟨ac,G _ E ⟨_,by rw[hb],by simp[l],by simp[g],by simp[D],by simp[n],by rw[a];simp[d],by simp[p],by simp[er],ap⟩⟩
   . have ek:j=M.length:=ac
     subst ek;rw[zH]at d ⊢;rw[<-V]at d ⊢;refine⟨ac,ih _ K ⟨_,rfl,by simp[l],by simp[g],by simp[D],by simp[n],by simp[d],ap⟩⟩
 . have ek:k=N:=ac
   subst ek;have P:¬(k:Int)+1<=w.aX:=ac
   refine aa.bj 7 (b:=tb) (.agg (tk (O k))) (af.aj _ _ _) ac rfl ?_
   rw[cy C];obtain⟨o,W⟩:=S1 (O k);rw[<-W]at h d ⊢;cases o with
   | none=>
     simp only[Option.isSome_none]at d;have e:tk none=[.lit (.slice none 0 0),Xn 0]:=rfl;apply rn;simp[l,g,p,P,d,e,q1,aI];apply rn;simp[g];refine .dp (a':=.cx [qw none,T0 false]) (vf rfl λi x y L h2=>?_) (.less (λv z Y=>?_) (.done h))
     . match i with
       |0=>cases L;cases h2;exact tA (bK 1)
       |1=>cases L;cases h2;exact .refl _
       |i+2=>grind
     . have Z:v≠A:=am
       rw[af.ah _ _ Z];exact J _ _ Y
   | some b=>
     simp only[Option.isSome_some]at d;have e:tk (some b)=[Ae b.1,Xn b.2]:=rfl;have a7:tk none=[.lit (.slice none 0 0),Xn 0]:=rfl;apply rn;simp[l,g,p,P,d,e,a7,q1,aI];apply rn;simp[g];refine .less (λv z Y=>?_) (.done h)
     have Z:v≠A:=am
     rw[af.ah _ _ Z];exact J _ _ Y
end W7
namespace RC
abbrev afC:YA:=[⟨11,.take (MX 0 6) false (MU [6] (MV [7]))⟩,⟨19,.take (MX 0 6) false (MU [6] (MV [7]))⟩,⟨28,.take (MX 1 6) false (MU [0,7,8] .done)⟩]
def jN{w}(l:w.cA)(h:KF (.val (Xn (ij w))) σ):ar prog m 34 [aT w] σ KF:=by
 have R:=l.ways;have S:=l.ak;unfold ij at h;refine S0 afC func34 ?_
 simp[f34];refine O1 func82 (BA l.fits ?_)
 by_cases d:¬check w.fair=0
 . rw[wS d]at h
   generalize check w.fair=e at d h ⊢;have O:(e==0)=false:=am
   have T:(e !=0)=true:=am
   apply rn;simp[T];exact .done h
 replace d:check w.fair=0:=Classical.not_not.1 d
 rw[wN (by simp[d])]at h
 rw[d];apply rn;simp;refine O1 func67 (eY ?_);apply rn;simp;refine aM.intro (λo=>?_) (λo=>?_)<;>(try simp[-Int.not_lt,-Int.not_le,-Nat.not_lt,-Nat.not_le]at o)<;>(try simp[o]at h)<;>(try simp[o])<;>(try exact .done h)
 have X:=dJ o;refine aM.intro (λu=>?_) (λu=>?_)<;>(try simp[-Int.not_lt,-Int.not_le,-Nat.not_lt,-Nat.not_le]at u)<;>(try simp[u]at h)<;>(try simp[u])<;>(try exact .done h)
 refine aa.loop w.ways.length (λk=>MY σ λε=>ε 1=.cp (aT w) 0/\ε 4=Xn k/\dv (sD w.aX) w.ways=dv (sD w.aX) (w.ways.drop k)) aq ?_
 rintro Y k _ P ⟨ε,rfl,b,v,c⟩ D
 apply rn;simp[b,v];refine aM.intro (λy=>?_) (λy=>?_)<;>(try simp[-Int.not_lt,-Int.not_le,-Nat.not_lt,-Nat.not_le]at y)<;>(try simp[b,v,y])
 . rw[qY _ _ k y]at c
   refine O1 func83 (aiB ⟨ac,ac⟩ ?_)
   apply pg;simp;apply rn;simp;refine aM.intro (λi=>?_) (λi=>?_)<;>(try simp[-Int.not_lt,-Int.not_le,-Nat.not_lt,-Nat.not_le]at i)<;>(try simp[v,i])
   . rw[wN i]at c
     simp[c,i]at h;exact .done h
   . rw[wS i]at c
     refine⟨ac,D _ ac ⟨_,rfl,by simp[b],ap,c⟩⟩
 . have ek:k=w.ways.length:=ac
   subst ek;rw[K1]at c;rw[show dv (sD w.aX) []=0 from rfl]at c
   simp[c]at h;refine aM.intro (λz=>?_) (λz=>?_)<;>(try simp[-Int.not_lt,-Int.not_le,-Nat.not_lt,-Nat.not_le]at z)<;>(try simp[z]at h)<;>(try simp[z])<;>(try exact .done h)
   refine aa.loop w.ak.length (λk=>MY σ λε=>ε 1=.cp (aT w) 0/\ε 6=Xn k/\dv (xQ w) w.ak=dv (xQ w) (w.ak.drop k)) ⟨_,rfl,by simp[b],ap,ap⟩ ?_
   clear b v ε
   rintro Z k _ P ⟨ε,rfl,b,B,a⟩ D
   apply rn;simp[b,B];refine aM.intro (λp=>?_) (λp=>?_)<;>(try simp[-Int.not_lt,-Int.not_le,-Nat.not_lt,-Nat.not_le]at p)<;>(try simp[b,B,p])
   . rw[qY _ _ k p]at a
     refine O1 func84 (acR ac (l.Rl _ (lb p)) ?_)
     apply pg;simp;apply rn;simp;refine aM.intro (λj=>?_) (λj=>?_)<;>(try simp[-Int.not_lt,-Int.not_le,-Nat.not_lt,-Nat.not_le]at j)<;>(try simp[B,j])
     . rw[wN j]at a
       simp[a,j]at h;exact .done h
     . rw[wS j]at a
       refine⟨ac,D _ ac ⟨_,rfl,by simp[b],ap,a⟩⟩
   . have ek:k=w.ak.length:=ac
     subst ek;rw[K1]at a;rw[show dv (xQ w) []=0 from rfl]at a
     simp[a]at h;have E:=l.oX d (by grind [Bx,nX])
     have U:=(Fr.wA E.fits E.Jc).jo;refine⟨ac,?_⟩
     refine aM.intro (λC=>?_) (λC=>?_)<;>(try simp[-Int.not_lt,-Int.not_le,-Nat.not_lt,-Nat.not_le]at C)<;>(try simp[C]at h)<;>(try simp[b,C])<;>(try exact .done h)
     have F:=gy E ac
     obtain⟨Fk,g⟩:=S1 (λk=>{w.fair with ao:=w.fair.ao++Aj (w.ak.take k)}:Nat->Fr)
     have G:Fk 0=w.fair:=by rw[g];simp[Aj]
     have H:Fk w.ak.length=dM w:=am
     refine bz.intro λdb I=>?_
     simp[aI];refine aa.loop w.ak.length (λk s=>∃ε,s=⟨ε,σ.set db (.cells (vK (Fk k))),[],.no⟩/\ε 1=.cp (aT w) 0/\ε 8=.ref db 0/\ε 9=Xn k) ⟨_,by rw[G],by simp[b],ap,ap⟩ ?_
     clear b B ε
     rintro c2 k _ P ⟨ε,rfl,b,J,K⟩ L
     apply rn;simp[b,K];refine aM.intro (λr=>?_) (λr=>?_)<;>(try simp[-Int.not_lt,-Int.not_le,-Nat.not_lt,-Nat.not_le]at r)<;>(try simp[b,J,K,r])
     . obtain⟨x,Q⟩:=S1 (w.ak[k])
       have V:w.ak[k]?=some x:=am
       have M:Fk (k+1)=Ov (Fk k) x.lost:=by rw[g,Q];unfold Ov;simp only[so r,DL,IG];rfl
       have W:(Fk k).ao.length<=1000:=by rw[g];simp only[zR,zD,HX];omega
       refine O1 func85 (WI.Yh (f:=Fk k) (n:=w.ak[k].lost) W ?_);rw[<-Q,<-M];apply pg;simp[J,aI];apply rn;simp[K];refine⟨ac,L _ r ⟨_,rfl,by simp[b],by simp[J],ap⟩⟩
     . have ek:k=w.ak.length:=ac
       subst ek;rw[H];refine O1 func86 (ab6 F.fits ?_)
       have N:E5 (dM w)=(jl (dM w),0):=by unfold E5;rw[wN (by simp[F.Jc]),ahN F]
       rw[N];have t:∀A:uK,σ.Le (σ.set db A):=λA=>af.bZ (af.le_refl _) I
       generalize jl (dM w)=n at h ⊢
       by_cases q:n=0
       . subst q
         apply rn;simp;exact .less (t _) (.done am)
       . have O:(n==0)=false:=am
         apply rn;simp[O];exact .less (t _) (.done am)
end RC
def pr{w}(d:w.cA){a b c}(h:bg w a b c=0):w.pq/\tE w=0/\dR w a b c=0:=by
 unfold bg at h
 grind [cX]
structure bF.Small(w:bF):Prop where
 ao:w.fair.ao.length<=20
 roads:w.fair.roads.length<=20
 ways:w.ways.length<=20
 ak:w.ak.length<=20
 marks:∀e∈w.fair.ao,e.marks.length<=20
 row:∀r∈w.fair.roads,r.length<=20
 lost:∀c∈w.ak,c.lost.marks.length<=20
def E6{α:Type}{P:α->Prop}{l:List α}{k}  a  (h:∀x∈l.take k,P x) (b:P l[k]):∀x∈l.take (k+1),P x:=(by grind [List.take_succ_eq_append_getElem])
def wD{w}(f:KF (.val (T0 true)) σ)(B:w.Small->KF (.val (T0 false)) σ):ar prog m 8 [aT w] σ KF:=by
 refine S0 [] func8 ?_;simp[f8];by_cases F:20<w.fair.ao.length
 . have g:(20:Int)<w.fair.ao.length:=ac
   simp[g];exact .done f
 have g:¬(20:Int)<w.fair.ao.length:=ac
 by_cases G:20<w.fair.roads.length
 . have h:(20:Int)<w.fair.roads.length:=ac
   simp[g,h];exact .done f
 have h:¬(20:Int)<w.fair.roads.length:=ac
 by_cases H:20<w.ways.length
 . have l:(20:Int)<w.ways.length:=ac
   simp[g,h,l];exact .done f
 have l:¬(20:Int)<w.ways.length:=ac
 by_cases I:20<w.ak.length
 . have p:(20:Int)<w.ak.length:=ac
   simp[g,h,l,p];exact .done f
 have p:¬(20:Int)<w.ak.length:=ac
 simp[g,h,l,p];refine aa.loop w.fair.ao.length (λk=>MY σ λε=>ε 1=.cp (aT w) 0/\ε 3=Xn k/\∀e∈w.fair.ao.take k,e.marks.length<=20) ⟨_,rfl,ap,ap,ap⟩ ?_;rintro J k _ K ⟨ε,rfl,a,n,q⟩ C;apply rn;simp[a,n];refine aM.intro (λi=>?_) (λi=>?_)<;>(try simp[-Int.not_lt,-Int.not_le,-Nat.not_lt,-Nat.not_le]at i)<;>(try simp[a,n,i])
 . obtain⟨x,j⟩:=S1 (w.fair.ao[k])
   simp only[<-j];refine aM.intro (λb=>?_) (λb=>?_)<;>(try simp[-Int.not_lt,-Int.not_le,-Nat.not_lt,-Nat.not_le]at b)<;>(try simp[n,b])
   . exact .done f
   . refine⟨ac,C _ i ⟨_,rfl,by simp[a],ap,E6 i q am⟩⟩
 have ek:k=w.fair.ao.length:=ac
 subst ek;rw[zH]at q;refine aa.loop w.fair.roads.length (λk=>MY σ λε=>ε 1=.cp (aT w) 0/\ε 4=Xn k/\∀r∈w.fair.roads.take k,r.length<=20) ⟨_,rfl,by simp[a],ap,ap⟩ ?_;clear a n ε;rintro L k _ D ⟨ε,rfl,a,o,t⟩ u;apply rn;simp[a,o];refine aM.intro (λb=>?_) (λb=>?_)<;>(try simp[-Int.not_lt,-Int.not_le,-Nat.not_lt,-Nat.not_le]at b)<;>(try simp[a,o,b])
 . obtain⟨x,j⟩:=S1 (w.fair.roads[k])
   simp only[<-j];refine aM.intro (λd=>?_) (λd=>?_)<;>(try simp[-Int.not_lt,-Int.not_le,-Nat.not_lt,-Nat.not_le]at d)<;>(try simp[o,d])
   . exact .done f
   . refine⟨ac,u _ b ⟨_,rfl,by simp[a],ap,E6 b t am⟩⟩
 have ek:k=w.fair.roads.length:=ac
 subst ek;rw[zH]at t;refine aa.loop w.ak.length (λk=>MY σ λε=>ε 1=.cp (aT w) 0/\ε 5=Xn k/\∀c∈w.ak.take k,c.lost.marks.length<=20) ⟨_,rfl,by simp[a],ap,ap⟩ ?_;clear a o ε;rintro M k _ E ⟨ε,rfl,a,v,y⟩ z;apply rn;simp[a,v];refine aM.intro (λd=>?_) (λd=>?_)<;>(try simp[-Int.not_lt,-Int.not_le,-Nat.not_lt,-Nat.not_le]at d)<;>(try simp[a,v,d])
 . obtain⟨x,j⟩:=S1 (w.ak[k])
   simp only[<-j];refine aM.intro (λA=>?_) (λA=>?_)<;>(try simp[-Int.not_lt,-Int.not_le,-Nat.not_lt,-Nat.not_le]at A)<;>(try simp[v,A])
   . exact .done f
   . refine⟨ac,z _ d ⟨_,rfl,by simp[a],ap,E6 d y am⟩⟩
 have ek:k=w.ak.length:=ac
 subst ek;rw[zH]at y;exact .done (B ⟨ac,ac,ac,ac,q,t,y⟩)
end
section
open Go.bu Go.Conc
variable{m:Mo}{σ:af}{KF:YC}
namespace FO
section
variable{c k:Nat}{nums:RQ}
def V9(hk : k+20<1000000)(hn:nums.length<1152921504606846976)(hb:cq c nums k σ)(h:∀  f  σ',Bt 0 f->vV c nums (k+20) σ σ'->KF (.val (.agg [.lit (.slice none 0 0),Cu f.roads,Xn f.bs,Xn f.fN,Xn f.dN,Xn f.bc])) σ'):ar prog m 145 [.ref c 0,Xn 0] σ KF:=by
 obtain⟨n0,s0,_,dr⟩:=id hb;refine S0 adn func145 ?_
 simp[f145];refine bz.intro λr h4=>?_
 have n4:c≠r:=am
 have D:∀x,cq c nums k (σ.set r x):=λx=>⟨n0,s0,z0,by rw[af.ah _ _ n4];exact dr⟩
 simp;refine O1 func108 (jH ac hn ac ac (D _) λdN eW dx aE=>?_)
 apply rn;simp;refine O1 func96 (tg (l:=[1,2,2,3,3,6]) ac hn am aE.1 λbc w dy a8=>?_)
 apply rn;simp;refine bz.intro λp h5=>?_
 have N:r≠c:=vj n4;have H:vV c nums (k+2) (σ.set r (.cells my)) w:=aE.trans a8;have ea:w r=some (.cells my):=by rw[H.2 r N,af.aj]
 have n5:p≠c:=λe=>by subst e;obtain⟨_,_,_,q⟩:=a8.1;grind
 have S:p≠r:=am
 have b5:σ p=none:=by rw[H.2 p n5,af.ah _ _ S]at h5;omega
 simp[aI]
 have b6:∀x,cq c nums (k+2) (w.set p x):=λx=>by obtain⟨n,z,h1,h2⟩:=a8.1;exact⟨n,z,ac,by simp_all [af.ah,vj]⟩
 refine O1 func108 (jH ac hn ac ac (b6 _) λkm o eb aF=>?_)
 apply rn;simp;refine O1 func13 (gT ac hn ac aF.1 λlo O ec aL=>?_)
 apply rn;simp;have I:vV c nums (k+4) (w.set p (.cells [.lit (.slice none 0 0),.lit (.slice none 0 0),Xn 0,Xn 0,Xn dN,Xn bc])) O:=aF.trans aL;obtain⟨sp,rfl⟩:∃sp:Nat,km=(sp:Int):=⟨km.toNat,ac⟩
 have eX:1<=sp/\sp<=3:=ac
 have ed:0<=lo/\lo<=4:=ac
 have b7:1<=dN/\dN<=4:=ac
 have aO:bc=1\/bc=2\/bc=3\/bc=6:=am
 have b8:O p=some (.cells [.lit (.slice none 0 0),.lit (.slice none 0 0),Xn 0,Xn 0,Xn dN,Xn bc]):=by rw[I.2 p n5,af.aj]
 have b9:O r=some (.cells my):=by rw[I.2 r N,af.ah _ _ (vj S)];omega
 have al:(σ.del c).Le O:=λy x t=>by
  have y1:y≠c:=λe=>by subst e;simp[af.del]at t
  have y0:σ y=some x:=by simpa[af.del,y1]using t
  have y5:y≠p:=am
  have y4:y≠r:=am
  rw[I.2 y y1,af.ah _ _ y5,H.2 y y1,af.ah _ _ y4];omega
 have T:=aL.1;clear aE a8 aF aL H I D b6 h5 ea dx dy eb ec
 refine aa.loop sp (λi s=>∃ε σ' a rs,s=⟨ε,σ',[],.no⟩/\ε 0=.ref c 0/\ε 1=Xn 0/\ε 4=.ref r 0/\ε 5=.ref p 0/\ε 6=Xn sp/\ε 7=Xn lo/\ε 8=Xn i/\cq c nums (k+4) σ'/\σ' r=some (.cells my)/\σ' p=some (.cells [.lit (.slice none 0 0),a,Xn 0,Xn 0,Xn dN,Xn bc])/\
  Tok (σ.del c) σ' a 1 (rs.map λb:Nat=>AV.mJ b 0 sp sp)/\rs.length=i/\rs.Nodup/\(∀b∈rs,σ b=none/\b≠c/\b≠r/\b≠p/\σ' b=some (.cells (List.replicate sp (Xn 0))))) ⟨_,O,.lit (.slice none 0 0),[],rfl,ap,ap,ap,ap,ap,ap,ap,T,b9,b8,⟨al,.inl ⟨rfl,rfl⟩⟩,rfl,KS,ap⟩ ?_
 rintro c0 i _ hi ⟨ε,σ',a,rs,rfl,J,U,V,F,E,W,e8,u,q4,X,C,aW,P,b0⟩ ih
 have bm:=C.cells
 rcases za i sp with g1|g1
 . have ee:(i:Int)<sp:=ac
   have f1:=M1 ((i:Int)+1)
   have eg:∀b1:af,Tok (σ.del c) b1 a 1 (rs.map λb:Nat=>AV.mJ b 0 sp sp)->∀y l,b1 y=some (.cells l)->bG a≠some y:=λb1 hx y l t e=>by obtain⟨_,_,q⟩:=hx.bH e;rw[t]at q;cases q
   have fresh:∀b,σ' b=none->σ b=none/\b≠c/\b≠r/\b≠p/\p≠b/\b∉rs:=λb Q=>by
    have n1:b≠c:=λe=>by subst e;obtain⟨_,_,_,q⟩:=u;simp_all
    refine⟨?_,n1,λe=>(by subst e;grind),λe=>(by subst e;grind),λe=>aq,λe=>(by rw[(b0 b e).2.2.2.2]at Q;cases Q)⟩
    cases e:σ b with
    |none=>rfl
    |some x=>have:=C.1 b x (by simp[af.del,n1,e]);rw[Q]at this;cases this
   apply rn;simp[F,E,e8,X,ee]
   repeat' (first
             |apply And.intro
             | (refine z8 Ax rfl bX rfl nM rfl be rfl rfl (n:=sp) (by simp[E]) (by simp[E]) ⟨ac,ac⟩ λb Q=>?_
                obtain⟨ei,bq,br,bw,bx,bA⟩:=fresh b Q;have up:=C.up (af.oi (x:=.cells (List.replicate sp (Xn 0))) (af.le_refl _) Q);have bB:(σ'.set b (.cells (List.replicate sp (Xn 0)))) p=some (.cells [.lit (.slice none 0 0),a,Xn 0,Xn 0,Xn dN,Xn bc]):=(af.ah _ _ bx).trans X;apply pg;simp[F,E,bB,bm.1,bm.2])
             | (refine aP Ax rfl rfl rfl sA rfl sA rfl bX be F2 (σ0:=(σ'.set b (.cells (List.replicate sp (Xn 0)))).off a) (es:=rs.map λb:Nat=>AV.mJ b 0 sp sp) (xs:=[AV.mJ b 0 sp sp]) (by simpa using up.here.1) (.inr ⟨_,by simp;rfl⟩) λa' o b2=>?_
                have bC:=b2.cells;have k3:∀y l,(σ'.set b (.cells (List.replicate sp (Xn 0)))) y=some (.cells l)->o y=some (.cells l):=λy l t=>b2.1 _ _ (by rw[af.hQ (eg _ up y l t)];exact t)
                have t5:=k3 _ _ bB;apply pg;simp[F,t5,bC.1,bC.2,aI];apply rn;simp[e8,f1.1,f1.2];obtain⟨nb,zb,D,a9⟩:=u
                have bE:Tok (σ.del c) o a' 1 ((rs++[b]).map λb:Nat=>AV.mJ b 0 sp sp):=by have:=b2.base up.here.2;simpa using this
                refine ih _ g1 ⟨_,_,a',rs++[b],rfl,by simp[J],by simp[U],by simp[V],by simp[F],by simp[E],by simp[W],ap,⟨nb,zb,D,?_⟩,?_,af.aj _ _ _,bE.beside (by simp[af.del,n5,b5]) (λe=>by obtain⟨_,_,q⟩:=bE.bH e;rw[t5]at q;cases q),by simp[aW],?_,?_⟩
                . rw[af.ah _ _ (vj n5)];exact k3 _ _ ((af.ah _ _ (vj bq)).trans a9)
                . rw[af.ah _ _ (vj S)];exact k3 _ _ ((af.ah _ _ (vj br)).trans q4)
                . rw[MH]
                  exact⟨P,ap,λx hx y t=>by simp at t;subst t;exact λe=>bA (e ▸ hx)⟩
                . intro d hd
                  rcases E4.1 hd with hd|hd
                  . obtain⟨p1,p2,p3,p4,p5⟩:=b0 d hd
                    have ej:d≠b:=λe=>bA (e ▸ hd)
                    exact⟨p1,p2,p3,p4,by rw[af.ah _ _ p4];exact k3 _ _ ((af.ah _ _ ej).trans p5)⟩
                  . simp at hd
                    subst hd;exact⟨ei,bq,br,bw,by rw[af.ah _ _ bw];exact k3 _ _ (af.aj _ _ _)⟩))
 . have ep:sp=i:=ac
   subst ep;clear ih T b8 b9 al
   obtain⟨spr,rfl⟩:∃spr,a=.sl 1 (rs.map λb:Nat=>AV.mJ b 0 sp sp) spr:=by
    rcases C.2 with⟨_,e⟩|e|⟨_,_,_,e,_⟩
    . have:=congrArg List.length e
      grind
    . grind
    grind
   have A:=C.1;clear C;have ab:∀(j:Nat) (hj:j<rs.length),σ rs[j]=none/\rs[j]≠c/\rs[j]≠r/\rs[j]≠p:=am
   apply rn;simp[E,e8];have g:∀(j:Nat) (hj:j<rs.length),σ' rs[j]=some (.cells (((List.replicate sp (List.replicate sp (0:Int))).getD j []).map Xn)):=aq
   clear b0
   refine aa.loop sp (λi s=>∃ε σ' M,s=⟨ε,σ',[],.no⟩/\ε 0=.ref c 0/\ε 1=Xn 0/\ε 4=.ref r 0/\ε 5=.ref p 0/\ε 6=Xn sp/\ε 7=Xn lo/\ε 9=Xn i/\cq c nums (k+4+3*i) σ'/\σ' r=some (.cells my)/\σ' p=some (.cells [.lit (.slice none 0 0),.sl 1 (rs.map λb:Nat=>AV.mJ b 0 sp sp) spr,Xn 0,Xn 0,Xn dN,Xn bc])/\
    (σ.del c).Le σ'/\Ou sp lo i 0 M/\∀(j:Nat) (hj:j<rs.length),σ' rs[j]=some (.cells ((M.getD j []).map Xn))) ⟨_,σ',_,rfl,by simp[J],by simp[U],by simp[V],by simp[F],by simp[E],by simp[W],ap,u,q4,X,A,Ou.start sp lo,g⟩ ?_
   clear J U V F E W e8 u q4 X A g
   rintro c1 i _ fc ⟨ε,σ',M,rfl,J,U,V,F,E,W,e9,u,q4,X,A,G,g⟩ ih
   rcases za i sp with g2|g2
   . have pL:(i:Int)<sp:=ac
     apply rn;simp[E,e9,pL]
     refine aa.loop i (λj s=>∃ε σ' M,s=⟨ε,σ',[],.no⟩/\ε 0=.ref c 0/\ε 1=Xn 0/\ε 4=.ref r 0/\ε 5=.ref p 0/\ε 6=Xn sp/\ε 7=Xn lo/\ε 9=Xn i/\ε 10=Xn j/\cq c nums (k+4+3*i+j) σ'/\σ' r=some (.cells my)/\σ' p=some (.cells [.lit (.slice none 0 0),.sl 1 (rs.map λb:Nat=>AV.mJ b 0 sp sp) spr,Xn 0,Xn 0,Xn dN,Xn bc])/\
      (σ.del c).Le σ'/\Ou sp lo i j M/\∀(j:Nat) (hj:j<rs.length),σ' rs[j]=some (.cells ((M.getD j []).map Xn))) ⟨_,σ',M,rfl,by simp[J],by simp[U],by simp[V],by simp[F],by simp[E],by simp[W],by simp[e9],ap,u,q4,X,A,G,g⟩ ?_
     clear J U V F E W e9 u q4 X A G g
     rintro c2 j _ hj ⟨ε,σ',M,rfl,J,U,V,F,E,W,e9,er,u,q4,X,A,G,g⟩ c6
     rcases za j i with g3|g3
     . have Cq:(j:Int)<i:=ac
       have f1:=M1 ((j:Int)+1)
       have f2:=M1 (2*lo)
       apply rn;simp[J,W,e9,er,Cq,f2.1,f2.2];refine O1 func108 (jH ac hn ac ac u λv w hv hd=>?_)
       have s5:w p=some (.cells [.lit (.slice none 0 0),.sl 1 (rs.map λb:Nat=>AV.mJ b 0 sp sp) spr,Xn 0,Xn 0,Xn dN,Xn bc]):=by rw[hd.2 p n5];omega
       have s4:w r=some (.cells my):=by rw[hd.2 r N];omega
       have av:i<rs.length:=ac
       have ax:j<rs.length:=ac
       obtain⟨z1,z2,z3,z4⟩:=ab i av;obtain⟨y1,y2,y3,y4⟩:=ab j ax;have si:w rs[i]=some (.cells ((M.getD i []).map Xn)):=by rw[hd.2 _ z2];exact g i av
       have sj:w rs[j]=some (.cells ((M.getD j []).map Xn)):=by rw[hd.2 _ y2];exact g j ax
       have et:rs[i]≠rs[j]:=Ag P ac
       have c7:=vj et;obtain⟨Ri,c8⟩:=S1 (M.getD i []);obtain⟨Rj,c9⟩:=S1 (M.getD j []);have li:=G.row i ac
       have lj:=G.row j ac
       rw[<-c8]at si li;rw[<-c9]at sj lj;have ev:j+1<=sp:=ac
       have ey:i+1<=sp:=ac
       have g4:j<sp:=ac
       have ez:(j:Int)<sp:=ac
       have ca:(i:Int)<sp:=ac
       have hF:∀o,o=(w.set rs[i] (.cells ((Ri.map Xn).set j (Xn v)))).set rs[j] (.cells ((Rj.map Xn).set i (Xn v)))->cq c nums (k+4+3*i+(j+1)) o/\o r=some (.cells my)/\o p=some (.cells [.lit (.slice none 0 0),.sl 1 (rs.map λb:Nat=>AV.mJ b 0 sp sp) spr,Xn 0,Xn 0,Xn dN,Xn bc])/\(σ.del c).Le o/\∀(l:Nat) (hl:l<rs.length),o rs[l]=some (.cells (((FF M i j v).getD l []).map Xn)):=λo e3=>by
        subst e3;refine⟨?_,?_,?_,λy x t=>?_,λl hl=>?_⟩
        . obtain⟨nb,zb,D,a9⟩:=hd.1
          exact⟨nb,zb,ac,by rw[af.ah _ _ (vj y2),af.ah _ _ (vj z2)];omega⟩
        . rw[af.ah _ _ (vj y3),af.ah _ _ (vj z3)];omega
        . rw[af.ah _ _ (vj y4),af.ah _ _ (vj z4)];omega
        . have w1:y≠c:=λe=>by subst e;simp[af.del]at t
          have w0:σ y=some x:=by simpa[af.del,w1]using t
          have w2:y≠rs[i]:=λe=>by rw[e,z1]at w0;cases w0
          have w3:y≠rs[j]:=λe=>by rw[e,y1]at w0;cases w0
          rw[af.ah _ _ w3,af.ah _ _ w2,hd.2 y w1];exact A y x t
        . rw [GO (by rw[G.len];omega) (by rw[G.len];omega) ac,<-c8,<-c9]
          by_cases q1:l=j
          . subst q1
            rw[wS rfl,af.aj,LH]
          . rw[wN q1,af.ah _ _ (Ag P q1)]
            by_cases q2:l=i
            . subst q2
              rw[wS rfl,af.aj,LH]
            . rw[wN q2,af.ah _ _ (Ag P q2),hd.2 _ (ab l hl).2.1]
              exact g l hl
       have B:=hF _ rfl;clear hF;apply rn;simp[F,e9,er,s5,aW,g2,g4,ez,ca,ev,ey,li,lj,si,sj,af.ah,c7];refine⟨?_,?_⟩
       . apply rn
         simp[er,f1.1,f1.2];exact c6 _ g3 ⟨_,_,FF M i j v,rfl,by simp[J],by simp[U],by simp[V],by simp[F],by simp[E],by simp[W],by simp[e9],ap,B.1,B.2.1,B.2.2.1,B.2.2.2.1,G.next ac g3 ⟨hv.1,ac⟩,B.2.2.2.2⟩
       . apply rn
         simp[er,f1.1,f1.2];exact c6 _ g3 ⟨_,_,FF M i j v,rfl,by simp[J],by simp[U],by simp[V],by simp[F],by simp[E],by simp[W],by simp[e9],ap,B.1,B.2.1,B.2.2.1,B.2.2.2.1,G.next ac g3 ⟨hv.1,ac⟩,B.2.2.2.2⟩
     . have eA:i=j:=ac
       subst eA;have f1:=M1 ((i:Int)+1)
       apply rn;simp[e9,er,f1.1,f1.2];exact ih _ g2 ⟨_,_,M,rfl,by simp[J],by simp[U],by simp[V],by simp[F],by simp[E],by simp[W],ap,u.mono ac,q4,X,A,G.line,g⟩
   . have eB:sp=i:=ac
     subst eB;clear ih;have cb:∀l,l<rs.length->(M.getD l []).length=sp:=λl hl=>G.row l ac
     have cg:p∉rs:=(by simp_all [FG])
     have K:rs.map (λb:Nat=>AV.mJ b 0 sp sp)=nC rs M sp 0:=by
      apply Ko;intro l
      by_cases hl:l<rs.length
      . simp_all [vB,sg]
      simp_all [zD,vA]
     have L:nC rs M sp rs.length=M.map Ae:=by
      have eC:=G.len;apply Ko;intro l
      by_cases hl:l<rs.length
      . simp_all [vB,sg]
      simp_all [vA,zD]
     rw[K]at X;refine KR (d:=p) (n:=sp) (at_:=1) (rs:=rs) (M:=M) (cs:=[.lit (.slice none 0 0),.eT,Xn 0,Xn 0,Xn dN,Xn bc]) (spr:=spr) σ' P cb ap cg (λo b3 cm=>?_) rs.length 0 ac σ' am am am
     rw[L]at b3;have eR:=G.fin;have eC:=G.len
     have k3:∀(j:Nat),j≠p->(∀(l:Nat) (hl:l<rs.length),rs[l]≠j)->o j=σ' j:=λj h1 h2=>cm j h1 λe=>by obtain⟨l,hl,e'⟩:=FG.1 e;exact h2 l hl e'
     have cr:cq c nums (k+4+3*sp) o:=by obtain⟨nb,zb,D,a9⟩:=u;exact⟨nb,zb,D,by rw[k3 c (vj n5) am];omega⟩
     have eE:o r=some (.cells my):=by rw[k3 r (vj S) am];omega
     have eK:o p=some (.cells [.lit (.slice none 0 0),.sl 1 (M.map Ae) spr,Xn 0,Xn 0,Xn dN,Xn bc]):=by simpa using b3
     have ay:(σ.del c).Le o:=λy x t=>by
      have w1:y≠c:=λe=>by subst e;simp[af.del]at t
      have w0:σ y=some x:=by simpa[af.del,w1]using t
      rw[k3 y am am]
      exact A y x t
     clear b3 cm g K L u q4 X A G cb cg k3 ab P aW;apply rn;simp[J,E,e9];refine O1 func13 (gT ac hn ⟨ac,ac⟩ cr λfr O fg Y=>?_)
     apply rn;simp[J];refine O1 func108 (jH ac hn ac ac Y.1 λto ad fi Z=>?_)
     have t5:ad p=some (.cells [.lit (.slice none 0 0),.sl 1 (M.map Ae) spr,Xn 0,Xn 0,Xn dN,Xn bc]):=by rw[Z.2 p n5,Y.2 p n5];omega
     apply rn;simp[J,U,F,t5,aI];have t4:ad r=some (.cells my):=by rw[Z.2 r N,Y.2 r N];omega
     have aC:(σ.del c).Le ad:=λy x t=>by
      have w1:y≠c:=λe=>by subst e;simp[af.del]at t
      rw[Z.2 y w1,Y.2 y w1];exact ay y x t
     have cv:∀x,cq c nums (k+6+3*sp) (ad.set p x):=λx=>by obtain⟨n,z,h1,h2⟩:=Z.1;exact⟨n,z,ac,by simp_all [af.ah,vj]⟩
     refine O1 func13 (gT ac hn ac (cv _) λq b4 fl a7=>?_)
     apply rn;simp;have u5:b4 p=some (.cells [.lit (.slice none 0 0),.sl 1 (M.map Ae) spr,Xn fr,Xn to,Xn dN,Xn bc]):=by rw[a7.2 p n5,af.aj]
     have u4:b4 r=some (.cells my):=by rw[a7.2 r N,af.ah _ _ (vj S)];omega
     have dj:(σ.del c).Le b4:=λy x t=>by
      have w1:y≠c:=λe=>by subst e;simp[af.del]at t
      have w0:σ y=some x:=by simpa[af.del,w1]using t
      rw[a7.2 y w1,af.ah _ _ (λe=>by subst e;rw[b5]at w0;cases w0)];exact aC y x t
     obtain⟨qn,rfl⟩:∃qn:Nat,q=(qn:Int):=am
     have fp:(qn:Int)<=0:=ac
     have dm:=a7.1;clear Y Z a7 cv cr eE eK ay aC t5 t4;obtain rfl:qn=0:=ac
     apply rn;simp;refine aa.yD ?_;apply rn;simp[V,F,u5,u4,aI];obtain⟨nb,zb,D,a9⟩:=dm;obtain⟨f,hf⟩:=S1 (⟨[],M,fr,to,dN,bc⟩:Fr)
     have eN:Bt 0 f:=by subst hf;exact⟨b7,aO,am,⟨lo,ed,am⟩,am,am,ap,ap⟩
     refine .dp (a':=.agg [.lit (.slice none 0 0),Cu f.roads,Xn f.bs,Xn f.fN,Xn f.dN,Xn f.bc]) (ig am λi x y x1 x2=>?_) (.less (σ':=σ.set c (.cells [Ae nums,Xn nb,.lit (.int .u64 zb)])) (λy x t=>?_) (.done (h f _ eN ⟨⟨nb,zb,ac,af.aj _ _ _⟩,(by grind [af.ah])⟩)))
     . subst hf
       match i with
       |1=>grind [eo]
       |0|2|3|4|5=>simp at x1 x2;subst x1;subst x2;exact .refl _
       |i+6=>simp at x1
     . by_cases y1:y=c
       . grind [af.aj,af.ah]
       . rw[af.ah _ _ y1]at t
         have y4:y≠r:=am
         rw[af.ah _ _ y4];exact dj y x (by simpa[af.del,y1]using t)
end
end FO
namespace SO
structure Zq  cnt  (f:Fr) (ks:RQ):Prop where
 len:(f.ao.length:Int)<=cnt
 roads:f.roads.length<=3/\∀r∈f.roads,r.length<=3
 pS:∀e∈f.ao,(0<=e.hour/\e.hour<=72)/\e.marks.length<=3
 ks:ks.length=f.ao.length
structure PB  km  (e:vU):Prop where
 hour:0<=e.hour/\e.hour<=72
 place:0<=e.place/\e.place<km
 marks:e.marks.length<=3
section
variable{c k:Nat}{nums:RQ}
def V'{cnt}(hk:k+500<1000000)(hn:nums.length<1152921504606846976)(p6:1<=cnt/\cnt<=6)(hb:cq c nums k σ)(h:∀  f   ks  σ',Zq cnt f ks->vV c nums (k+500) σ σ'->KF (.val (.cx [bR f,Ae ks])) σ'):ar prog m 107 [.ref c 0,Xn cnt] σ KF:=by
 obtain⟨n0,s0,_,gR⟩:=id hb;refine S0 adh func107 ?_
 simp[f107];refine bz.intro λG h4=>?_
 have n4:c≠G:=λe=>by subst e;rw[gR]at h4;cases h4
 have gU:∀x,cq c nums k (σ.set G x):=λx=>⟨n0,s0,z0,by rw[af.ah _ _ n4];exact gR⟩
 simp;refine O1 func145 (FO.V9 ac hn (gU _) λf0 h7 R c5=>?_)
 have b2:G≠c:=vj n4;have h8:h7 G=some (.cells my):=by rw[c5.2 G b2,af.aj]
 apply rn;simp;refine bz.intro λu h6=>?_
 have n6:u≠c:=λe=>by subst e;obtain⟨_,_,_,q⟩:=c5.1;rw[q]at h6;cases h6
 have ec:u≠G:=λe=>by subst e;rw[h8]at h6;cases h6
 have h9:σ u=none:=by rw[c5.2 u n6,af.ah _ _ ec]at h6;exact h6
 simp
 have eW:∀x,cq c nums (k+20) (h7.set u x):=λx=>by obtain⟨n,z,g1,P⟩:=c5.1;exact⟨n,z,g1,by rw[af.ah _ _ (vj n6)];exact P⟩
 refine O1 func108 (jH ac hn ⟨ac,ac⟩ ⟨ac,ac⟩ (eW _) λbc bx q9 ed=>?_)
 have t6:bx u=some (.cells [.lit (.slice none 0 0),Cu f0.roads,Xn f0.bs,Xn f0.fN,Xn f0.dN,Xn f0.bc]):=by rw[ed.2 u n6,af.aj]
 have t4:bx G=some (.cells my):=by rw[ed.2 G b2,af.ah _ _ (vj ec)];exact h8
 apply rn;simp[t6,aI];obtain⟨mo,rfl⟩:∃mo:Nat,bc=(mo:Int):=⟨bc.toNat,ac⟩
 have qb:1<=mo/\mo<=3:=ac
 have eX:=R.km;obtain⟨A6,bA⟩:=S1 (λa=>[a,Cu f0.roads,Xn f0.bs,Xn f0.fN,Xn f0.dN,Xn mo]:AV->We)
 have md:∀a,(A6 a).length=6:=λa=>by rw[bA];rfl
 have Y:σ.del c c=none:=by simp[af.del]
 have ho:cq c nums (k+21) (bx.set u (.cells (A6 (.lit (.slice none 0 0))))):=by obtain⟨n,z,g1,P⟩:=ed.1;exact⟨n,z,ac,by rw[af.ah _ _ (vj n6)];exact P⟩
 have Z:(σ.del c).Le (bx.set u (.cells (A6 (.lit (.slice none 0 0))))):=λy x hy=>by
  have N:y≠c:=λe=>by subst e;rw[Y]at hy;cases hy
  have y0:σ y=some x:=by simpa[af.del,N]using hy
  have y6:y≠u:=λe=>by subst e;rw[h9]at y0;cases y0
  have y4:y≠G:=λe=>by subst e;rw[h4]at y0;cases y0
  rw[af.ah _ _ y6,ed.2 y N,af.ah _ _ y6,c5.2 y N,af.ah _ _ y4];exact y0
 have mf:σ.del c u=none:=by simp[af.del,h9]
 have qi:σ.del c G=none:=by simp[af.del,h4]
 have hv:(bx.set u (.cells (A6 (.lit (.slice none 0 0))))) G=some (.cells my):=by rw[af.ah _ _ (vj ec)];exact t4
 refine aa.loop mo (λi s=>∃ε σ' la ha L H,s=⟨ε,σ',[],.no⟩/\ε 0=.ref c 0/\ε 1=Xn cnt/\ε 4=.ref G 0/\ε 6=.ref u 0/\ε 7=la/\ε 8=ha/\ε 9=Xn i/\cq c nums (k+21+12*i) σ'/\σ' G=some (.cells my)/\σ' u=some (.cells (A6 (.lit (.slice none 0 0))))/\cV (σ.del c) σ' la 6 (L.map bn)/\Tok (σ.del c) σ' ha 1 (H.map Xn)/\jJ la≠some c/\jJ la≠some G/\jJ la≠some u/\L.length=i/\H.length=i/\(∀e∈L,GN f0.roads.length e)/\(∀x∈H,13<=x/\x<=16))
  ⟨_,bx.set u (.cells (A6 (.lit (.slice none 0 0)))),.lit (.slice none 0 0),.lit (.slice none 0 0),[],[],by rw[bA],ap,ap,ap,ap,ap,ap,ap,ho,hv,af.aj _ _ _,⟨Z,.inl ⟨rfl,.inl rfl⟩⟩,⟨Z,.inl ⟨rfl,rfl⟩⟩,by simp[jJ],by simp[jJ],by simp[jJ],rfl,rfl,ap,ap⟩ ?_
 clear ho Z hv
 rintro c0 i _ hi ⟨ε,σ',la,ha,L,H,rfl,K,e1,e4,M,U,X,e9,ee,q4,q6,c7,c8,c9,eg,ei,fc,hA,fg,hB⟩ ih
 have hD:=c7.cells;have hF:=c8.cells;have a7:σ' u=some (.cells [.lit (.slice none 0 0),Cu f0.roads,Xn f0.bs,Xn f0.fN,Xn f0.dN,Xn mo]):=by rw[q6,bA]
 rcases za i mo with g1|g1
 . have mg:(i:Int)<mo:=ac
   have f1:=M1 ((i:Int)+1)
   apply rn;simp[K,M,U,e9,a7,g1];refine O1 func37 (yy ac hn ⟨ac,ac⟩ ee λe Q he E=>?_)
   have hG:∃l,σ' c=some (.cells l):=by obtain⟨_,_,_,q⟩:=ee;exact⟨_,q⟩
   have ca:=OD c7 Y c9 E.2;have hH:=CJ c8 Y hG E.2;have cb:Q G=some (.cells my):=by rw[E.2 G b2];exact q4
   have cg:Q u=some (.cells (A6 (.lit (.slice none 0 0)))):=by rw[E.2 u n6];exact q6
   apply rn;simp;refine kA Ax rfl rfl rfl kG rfl kG rfl vb be F2 (σ0:=Q.Hq la) (es:=L.map bn) (xs:=[bn e]) (by simpa using ca.here.1) (.inl (.inr ⟨_,by simp;rfl⟩)) ap λej aC a8=>?_
   have k4:∀y l,jJ la≠some y->Q y=some l->aC y=some l:=λy l hy hl=>a8.1 _ _ (by rw[af.xk hy];exact hl)
   have hK:=Yi hH ca a8;have fi:=a8.base ca.here.2
   have hL:cq c nums (k+21+12*i+11) aC:=by obtain⟨n,z,g1,P⟩:=E.1;exact⟨n,z,g1,k4 _ _ c9 P⟩
   have ev:jJ ej≠some c:=λq=>by obtain⟨g,_⟩:=a8.rl q;obtain⟨_,_,_,P⟩:=E.1;rw[af.xk c9,P]at g;cases g
   have hO:jJ ej≠some G:=λq=>by obtain⟨g,_⟩:=a8.rl q;rw[af.xk eg,cb]at g;cases g
   have hP:jJ ej≠some u:=λq=>by obtain⟨g,_⟩:=a8.rl q;rw[af.xk ei,cg]at g;cases g
   have p7:=a8.cells;apply rn;simp[K,X];refine O1 func108 (jH ac hn ⟨ac,ac⟩ ⟨ac,ac⟩ hL λx bB mi aE=>?_)
   have hR:∃l,aC c=some (.cells l):=by obtain⟨_,_,_,q⟩:=hL;exact⟨_,q⟩
   have b5:=CJ hK Y hR aE.2;have hS:=OD fi Y ev aE.2;apply rn;simp;refine aP Ax rfl rfl rfl bX rfl bX rfl nM be F2 (σ0:=bB.off ha) (es:=H.map Xn) (xs:=[Xn x]) (by simpa using b5.here.1) (.inr ⟨_,by simp;rfl⟩) λmj w b6=>?_
   have hT:=Yj hS b5 b6;have fl:=b6.base b5.here.2;have p8:=b6.cells;have k6:∀y l,bB y=some (.cells l)->w y=some (.cells l):=λy l hy=>b6.1 _ _ (by rw[af.hQ (λe=>by obtain⟨_,_,q⟩:=b5.bH e;rw[hy]at q;cases q)];exact hy)
   have mm:w G=some (.cells my):=k6 _ _ (by rw[aE.2 G b2];exact k4 _ _ eg cb)
   have mw:w u=some (.cells (A6 (.lit (.slice none 0 0)))):=k6 _ _ (by rw[aE.2 u n6];exact k4 _ _ ei cg)
   have aF:cq c nums (k+21+12*(i+1)) w:=by obtain⟨n,z,g1,P⟩:=aE.1;exact⟨n,z,ac,k6 _ _ P⟩
   apply rn;simp[e9,f1.1,f1.2];refine ih _ g1 ⟨_,w,ej,mj,L++[e],H++[x],rfl,by simp[K],by simp[e1],by simp[e4],by simp[M],ap,ap,ap,aF,mm,mw,by simpa using hT,by simpa using fl,ev,hO,hP,by simp[fc],by simp[hA],λy hy=>?_,λy hy=>?_⟩
   . rcases E4.1 hy with hy|hy
     . exact fg y hy
     . simp at hy;subst hy;exact he
   . rcases E4.1 hy with hy|hy
     . exact hB y hy
     . simp at hy;subst hy;omega
 . have mx:i=mo:=ac
   subst mx;clear ih
   obtain⟨C,cap,μ,rfl,r1,r2,r3,r4,r5⟩:∃C cap μ,la=.mJ C 0 i cap/\σ.del c C=none/\i<=cap/\(∀e∈L.map bn,e.cells.length=6)/\σ' C=some (.cells (RP (L.map bn)++μ))/\μ.length=(cap-i)*6:=by
    have cm:(L.map bn).length=i:=by rw[zD,fc]
    rcases c7.2 with⟨e,_⟩|⟨b,cap,μ,g1,P,g3,g4,g5,g6⟩
    . have:=congrArg List.length e
      rw[cm,Dv]at this;omega
    . rw[cm]at g1 g3 g6
      exact⟨b,cap,μ,g1,P,g3,g4,g5,g6⟩
   have aO:C≠c:=λe=>c9 (by rw[e];rfl)
   have mA:C≠G:=λe=>eg (by rw[e];rfl)
   have fp:C≠u:=λe=>ei (by rw[e];rfl)
   have pb:σ C=none:=by simpa[af.del,aO]using r1
   refine aa.Fs 8 (a':=Ae H) (by rw[X];simpa using c8.W) ?_
   have aW:=c8.1;clear c7 c8 hD hF c9 eg ei X;apply rn;simp[K,e1,M,e9,a7];refine O1 func108 (jH ac hn ⟨ac,ac⟩ ⟨ac,ac⟩ ee λq Q hq E=>?_)
   have cb:Q G=some (.cells my):=by rw[E.2 G b2];exact q4
   have cg:Q u=some (.cells (A6 (.lit (.slice none 0 0)))):=by rw[E.2 u n6];exact q6
   have hU:Q C=some (.cells (RP (L.map bn)++μ)):=by rw[E.2 C aO];exact r4
   have Z:(σ.del c).Le Q:=λy x hy=>by
    have N:y≠c:=λe=>by subst e;rw[Y]at hy;cases hy
    rw[E.2 y N];exact aW y x hy
   obtain⟨qn,rfl⟩:∃qn:Nat,q=(qn:Int):=⟨q.toNat,ac⟩
   have qj:1<=qn/\qn<=6:=ac
   have ey:cq c nums (k+60) Q:=E.1.mono ac
   have ez:∀e∈L,PB f0.roads.length e:=λe he=>by have:=fg e he;exact⟨⟨this.hour.1,by have:=this.hour;omega⟩,this.place,(uu this.marks).2⟩
   apply rn;simp;have hX:=K;have hY:=e4;have hZ:=M;have ic:=U;clear K e1 e4 M U e9 a7 fg r3
   refine aa.loop qn (λj s=>∃ε σ' a hh d es ks,s=⟨ε,σ',[],.no⟩/\ε 0=.ref c 0/\ε 4=.ref G 0/\ε 6=.ref u 0/\ε 7=.mJ C 0 i cap/\ε 8=Ae H/\ε 10=hh/\ε 11=Xn ((qn:Int)-j)/\cq c nums (k+60+16*j) σ'/\σ' G=some (.cells my)/\σ' u=some (.cells (A6 a))/\σ' C=some (.cells (RP (d.map bn)++μ))/\Tok (σ.del c) σ' a 6 (es.map bn)/\Tok (σ.del c) σ' hh 1 (ks.map Xn)/\(∀b,bG a=some b->bG hh≠some b)/\(d.length=i/\ks.length=es.length)/\(∀e∈d,PB f0.roads.length e)/\(∀e∈es,(0<=e.hour/\e.hour<=72)/\e.marks.length<=3)/\es.length<=j)
    ⟨_,Q,.lit (.slice none 0 0),.lit (.slice none 0 0),L,[],[],rfl,by simp[hX],by simp[hY],by simp[hZ],by simp[ic],ap,ap,ap,ey,cb,cg,hU,⟨Z,.inl ⟨rfl,rfl⟩⟩,⟨Z,.inl ⟨rfl,rfl⟩⟩,λb hb=>by simp[bG]at hb,⟨fc,rfl⟩,ez,ap,ap⟩ ?_
   clear hX hY hZ ic ey cb cg hU Z aW ez q4 q6 ee E r4
   rintro c1 j _ hj ⟨ε,σ',a,hh,d,es,ks,rfl,K,e4,M,U,X,er,fh,ft,q4,q6,ql,b0,bC,eA,J,fu,fv,qq⟩ ih
   have mB:=b0.cells;have hF:=bC.cells;have a7:σ' u=some (.cells [a,Cu f0.roads,Xn f0.bs,Xn f0.fN,Xn f0.dN,Xn i]):=by rw[q6,bA]
   rcases za j qn with g1|g1
   . have mg : (0 : Int)<(qn:Int)-j:=ac
     have pL:(j:Int)<qn:=ac
     have f2:=M1 ((i:Int)-1)
     have f3:=M1 ((qn:Int)-j-1)
     apply rn;simp[K,M,fh,pL,a7,f2.1,f2.2];refine O1 func13 (gT ac hn ⟨ac,ac⟩ ft λkk Q qs E=>?_)
     obtain⟨F,rfl⟩:∃F:Nat,kk=(F:Int):=⟨kk.toNat,ac⟩
     have cr:F<i:=ac
     have w6:Q u=some (.cells [a,Cu f0.roads,Xn f0.bs,Xn f0.fN,Xn f0.dN,Xn i]):=by rw[E.2 u n6];exact a7
     apply rn;simp[K,M,w6];refine O1 func37 (yy ac hn ⟨ac,ac⟩ E.1 λe aC he fw=>?_)
     have b3:∀y,y≠c->aC y=σ' y:=λy hy=>(fw.2 y hy).trans (E.2 y hy)
     have w6:aC u=some (.cells [a,Cu f0.roads,Xn f0.bs,Xn f0.fN,Xn f0.dN,Xn i]):=by rw[b3 u n6];exact a7
     have wl:aC C=some (.cells (RP (d.map bn)++μ)):=by rw[b3 C aO];exact ql
     have w4:aC G=some (.cells my):=by rw[b3 G b2];exact q4
     apply rn;simp;refine bz.intro λo al=>?_
     have m0:o≠c:=λe=>by subst e;obtain⟨_,_,_,q⟩:=fw.1;rw[q]at al;cases al
     have m4:o≠G:=λe=>by subst e;rw[w4]at al;cases al
     have m6:o≠u:=λe=>by subst e;rw[w6]at al;cases al
     have ml:o≠C:=λe=>by subst e;rw[wl]at al;cases al
     have fx:F<d.length:=by rw[J.1];exact cr
     obtain⟨el,cm⟩:=S1 (d[F]);have cv:=fu el (by rw[cm];exact lb fx)
     obtain⟨CL,dj⟩:=S1 (RP (d.map bn)++μ);rw[<-dj]at wl;have fO:∀x∈d.map bn,x.cells.length=6:=λx hx=>by obtain⟨y,_,rfl⟩:=CR.1 hx;rfl
     have b7:(RP (d.map bn)).length=d.length*6:=by rw[bL (kk:=6) fO,zD]
     have b8:∀t,t<6->CL[F*6+t]?=(bn el).cells[t]?:=λt ht=>by
      rw[dj,KX (by rw[b7];omega)]
      exact jx (kk:=6) fO (by rw[Hi,kn fx,cm];rfl) t ht
     have ie:=b8 0 ac
     have ix:=b8 1 ac
     have iP:=b8 2 ac
     have iW:=b8 3 ac
     simp at ie ix iP iW;simp[K,U,wl,af.ah,vj ml,cr,iP,aI]
     have n2:∀x,cq c nums (k+60+16*j+12) (aC.set o x):=λx=>by obtain⟨n,z,g1,P⟩:=fw.1;exact⟨n,z,ac,by rw[af.ah _ _ (vj m0)];exact P⟩
     refine O1 func13 (gT ac hn ⟨ac,ac⟩ (n2 _) λsh bB mi aE=>?_)
     have gd:bB o=some (.cells [Xn e.hour,Xn e.place,Xn el.di,Ae e.marks,Xn e.bY,Xn e.ma]):=by rw[aE.2 o m0,af.aj]
     have dm:F<H.length:=by rw[hA];exact cr
     obtain⟨h0,dr⟩:=S1 (H[F]);have pd:13<=h0/\h0<=16:=hB _ (by rw[dr];exact lb dm)
     have r6:(H.map Xn)[F]?=some (Xn h0):=by rw[Hi,kn dm,dr];rfl
     have k0:sh=0\/sh=1\/sh=2:=ac
     have pk:0<=sh/\sh<=2:=ac
     have ps:f0.bs<=f0.fN:=R.to.1;have r9:0<=f0.bs/\f0.fN<=2:=⟨R.fr.1,R.to.2⟩
     have gf:∀x,cq c nums (k+60+16*j+13) (bB.set o x):=λx=>by obtain⟨n,z,g1,P⟩:=aE.1;exact⟨n,z,ac,by rw[af.ah _ _ (vj m0)];exact P⟩
     have gj:∀y,y≠c->y≠o->bB y=σ' y:=λy N y2=>by rw[aE.2 y N,af.ah _ _ y2,b3 y N]
     have pA:ks.length<1000000:=by rw[J.2];omega
     obtain⟨EE,av⟩:=S1 (λε=>ε 0=.ref c 0/\ε 4=.ref G 0/\ε 6=.ref u 0/\ε 7=.mJ C 0 i cap/\ε 8=Ae H/\ε 10=hh/\ε 11=Xn ((qn:Int)-j)/\ε 12=Xn F/\ε 13=.ref o 0:Env->Prop)
     apply sQ (I:=λε w=>∃b,EE ε/\ε 80=T0 b/\cq c nums (k+60+16*j+14) w/\w o=some (.cells [Xn e.hour,Xn e.place,Xn el.di,Ae e.marks,Xn h0,Xn sh])/\(∀y,y≠c->y≠o->w y=σ' y))
     . intro A
       rcases k0 with rfl|rfl|rfl
       . refine aa.runN Ax [] 28 ?_
         simp[X,gd,dm,aI,<-dr];refine A _ _ ⟨false,by rw[av];simp[K,e4,M,U,X,er,fh],ap,(gf _).mono ac,af.aj _ _ _,λy N y2=>by rw[af.ah _ _ y2];exact gj y N y2⟩
       . refine aa.runN Ax [] 28 ?_
         simp[X,gd,dm,aI,<-dr];refine A _ _ ⟨true,by rw[av];simp[K,e4,M,U,X,er,fh],ap,(gf _).mono ac,af.aj _ _ _,λy N y2=>by rw[af.ah _ _ y2];exact gj y N y2⟩
       . refine aa.runN Ax [] 28 ?_
         simp[K,X,gd,dm,aI,<-dr];refine O1 func47 (Af ac hn ⟨ac,ac⟩ (gf _) λb w gl=>?_)
         refine aa.runN Ax [] 3 ?_;simp;refine A _ _ ⟨b,by rw[av];simp[K,e4,M,U,X,er,fh],ap,gl.1,by rw[gl.2 o m0,af.aj],λy N y2=>by rw[gl.2 y N,af.ah _ _ y2];exact gj y N y2⟩
     clear K e4 M U X er fh
     rintro ε w ⟨b,hE,gp,aF,S,ax⟩
     obtain⟨K,e4,M,U,X,er,fh,iQ,O⟩:=av ▸ hE;apply sQ (I:=λε w=>∃ht,EE ε/\ε 95=Xn (rN ks F)/\cq c nums (k+60+16*j+15) w/\w o=some (.cells [Xn e.hour,Xn e.place,Xn el.di,Ae e.marks,Xn ht,Xn sh])/\(∀y,y≠c->y≠o->w y=σ' y))
     . intro A
       have hW:Wl [hh,Xn F] [Ae ks,Xn F]:=.cons (by simpa using bC.W) (.cons (.refl _) .nil)
       cases b
       . apply rn
         simp[er,iQ,gp];refine bp func146 rfl rfl hW (Ac ac ?_)
         refine A _ _ ⟨h0,by rw[av];simp[K,e4,M,U,X,er,fh,iQ,O],ap,aF.mono ac,S,ax⟩
       . have v6 : w u=some (.cells [a,Cu f0.roads,Xn f0.bs,Xn f0.fN,Xn f0.dN,Xn i]):=by rw[ax u n6 (vj m6)];exact a7
         have ra:=R.fr;have c7:=R.to;apply rn;simp[K,M,O,gp,S,v6]
         repeat' (first
                   |apply And.intro
                   | (refine O1 func108 (jH ac hn ⟨ac,ac⟩ ⟨ac,ac⟩ aF λy v hy gw=>?_)
                      have n3:v o=some (.cells [Xn e.hour,Xn e.place,Xn el.di,Ae e.marks,Xn h0,Xn sh]):=by rw[gw.2 o m0];exact S
                      have f4:=M1 (h0+y)
                      apply pg;simp[K,e4,M,U,X,er,fh,iQ,O,n3,f4.1,f4.2,aI];apply rn;simp[K,e4,M,U,X,er,fh,iQ,O];refine bp func146 rfl rfl hW (Ac ac ?_)
                      refine A _ _ ⟨h0+y,by rw[av];simp[K,e4,M,U,X,er,fh,iQ,O],ap,?_,af.aj _ _ _,λz N y2=>by rw[af.ah _ _ y2,gw.2 z N];exact ax z N y2⟩
                      obtain⟨n,z,g1,P⟩:=gw.1;exact⟨n,z,ac,by rw[af.ah _ _ (vj m0)];exact P⟩))
     clear aF S ax hE K e4 M U X er fh iQ O gp
     rintro ε w ⟨ht,hE,gx,aF,S,ax⟩
     obtain⟨K,e4,M,U,X,er,fh,iQ,O⟩:=av ▸ hE;have gA:=Fr.wA (R.fits ac) (R.check ac)
     have k2:=(uu he.marks).2;have pB:=cv.marks;have k3:=he.place;have k5:=cv.place;have pO:=cv.hour;have k7:=R.dN;apply sQ (I:=λε v=>∃hr,EE ε/\cq c nums (k+60+16*j+16) v/\v o=some (.cells [Xn hr,Xn e.place,Xn el.di,Ae e.marks,Xn ht,Xn sh])/\(∀y,y≠c->y≠o->v y=σ' y)/\(0<=hr/\hr<=1000))
     . intro A
       by_cases k8:(F:Int)∈ks
       . have q2:rN ks F>=0:=(sk ks F).2 k8
         obtain⟨rw,eB⟩:=S1 (f0.roads[el.place.toNat]' ac)
         have eC:=gA.row (i:=el.place.toNat) ac
         rw[<-eB]at eC;have dx:e.place.toNat<rw.length:=ac
         obtain⟨r,kt⟩:=S1 (rw[e.place.toNat]);have rb:=eC.2 r (by rw[kt];exact lb dx)
         have ep:el.place.toNat<f0.roads.length:=ac
         have n5:(f0.roads.map Ae)[el.place.toNat]?=some (Ae rw):=by rw[Hi,kn ep,eB];rfl
         have hr:(rw.map Xn)[e.place.toNat]?=some (Xn r):=by rw[Hi,kn dx,kt];rfl
         have q0:=dx;obtain⟨ch,kv⟩:=S1 (O3 el.marks e.marks)
         have dy:0<=ch/\ch<=6:=by have q1:=uF el.marks e.marks;have q2:=uF e.marks el.marks;rw[kv];unfold O3;omega
         have rh:0<=f0.dN*ch/\f0.dN*ch<=24:=⟨Int.mul_nonneg ac dy.1,LL (MF k7.2 dy.2 dy.1 ac) ac⟩
         have kx:=M1 (el.hour+r)
         have ky:=M1 (f0.dN*ch)
         have l1:=M1 (el.hour+r+f0.dN*ch)
         have n7:w C=some (.cells CL):=by rw[ax C aO (vj ml),<-b3 C aO];exact wl
         have l2:w u=some (.cells [a,Cu f0.roads,Xn f0.bs,Xn f0.fN,Xn f0.dN,Xn i]):=by rw[ax u n6 (vj m6)];exact a7
         refine aa.runN Ax [] 3 ?_;simp[gx,q2]
         obtain⟨V,hV⟩:=S1 (λj=>([.mJ C 0 i cap,Xn F,.ref C (F*6),.ref C (F*6),Xn el.hour,.ref u 1,Cu f0.roads,.mJ C 0 i cap,Xn F,.ref C (F*6),.ref C (F*6+1),Xn el.place,.cp (Ae rw) 0,Ae rw,.ref o 1,Xn e.place,.cp (Xn r) 0,Xn r,Xn (el.hour+r),.ref u 4,Xn f0.dN,.mJ C 0 i cap,Xn F,.ref C (F*6),.ref C (F*6+3),Ae el.marks,.ref o 3,Ae e.marks,Xn ch,Xn (f0.dN*ch),Xn (el.hour+r+f0.dN*ch),.ref c 0,.sl 1 (([0,0,1,3]:RQ).map Xn) .exact,Xn 0,Xn 0,.ref o 0]:We).getD j (Xn 0):Nat->AV)
         have aL:∀j,V j=_:=λj=>congrFun hV j
         refine aa.XV (OE V (ε.upd 96 (T0 true)) w c o (k+60+16*j+16) nums (el.hour+r+f0.dN*ch) (λz=>[Xn z,Xn e.place,Xn el.di,Ae e.marks,Xn ht,Xn sh])) Ax.mixed (by rfl) ⟨λ_ _=>rfl,ap,λ_=>rfl,ap,ap,ap,ap,ap⟩ ?_ ?_
         . intro done i a9 v ab ay gB T
           have gB:i<37:=gB;have D:=λ(s:Nat) (h1:97<=s) (h3:s≠130) (h4:s≠131) (h5:s<133) h2=>(congrArg a9 (show s=97+(s-97)by omega)).trans (T.rA (s-97) (ab (s-97) h2) ac ac ac)
           have B:=T.base;have kl:=λq=>(T.keep (y:=C) q ay aO).trans n7
           have k6:=λq=>(T.keep (y:=u) q ay n6).trans l2
           have gD:=λq=>(T.keep (y:=o) q ay m0).trans S
           have hz:=wL.2 gB;simp[List.range,List.range.loop]at hz
           repeat' rcases hz with rfl|hz
           all_goals try
            refine z9 Ax (mu:=[]) ?_;simp(disch:=first|omega|decide|simp) [D,B,aL,kl,k6,gD,K,M,U,iQ,O,ie,ix,iW,cr,n5,k5.1,hr,k3.1,kx.1,kx.2,ky.1,ky.2,l1.1,l1.2]
            exact T.next ac ay ac ac (by rw[aL];rfl)
           . have n9:a9 122=Ae el.marks:=(T.rA 25 (ab 25 (by rfl)) ac ac ac).trans (aL 25)
             have nc:a9 124=Ae e.marks:=(T.rA 27 (ab 27 (by rfl)) ac ac ac).trans (aL 27)
             refine z9 Ax (mu:=[]) ?_;simp[n9,nc];refine O1 func147 (stS ac ac ?_)
             apply pg;simp;exact T.next (i:=28) ac ay ac ac (by rw[aL,kv];rfl)
           . have nh:a9 128=.ref c 0:=(T.rA 31 (ab 31 (by rfl)) ac ac ac).trans (aL 31)
             have nq:a9 129=.sl 1 (([0,0,1,3]:RQ).map Xn) .exact:=(T.rA 32 (ab 32 (by rfl)) ac ac ac).trans (aL 32)
             refine z9 Ax (mu:=[]) ?_;simp[nh,nq];have ns:=T.pre ay;subst ns;have nt:34∉done:=λq=>ay (T.dep q)
             refine O1 func96 (tg (l:=[0,0,1,3]) ac hn ⟨be,be⟩ aF λp rm hp l3=>?_)
             apply pg;simp;exact T.aaC ay nt (p:=p) (by simp at hp;omega) (l3.1.mono ac) l3.2
           . have ob:a9 127=Xn (el.hour+r+f0.dN*ch):=(T.rA 30 (ab 30 (by rfl)) ac ac ac).trans (aL 30)
             have b4:=ab 33 (by rfl)
             obtain⟨p,hp,LV,_⟩:=T.pick b4;have l4:=M1 (el.hour+r+f0.dN*ch+p)
             refine z9 Ax (mu:=[]) ?_;simp[ob,LV,l4.1,l4.2];exact T.summed ay b4 hp LV
           . have oj:a9 132=.ref o 0:=(T.rA 35 (ab 35 (by rfl)) ac ac ac).trans (aL 35)
             have b4:=ab 33 (by rfl)
             have ox:=ab 34 (by rfl)
             obtain⟨p,hp,LV,LW⟩:=T.pick b4;have LW:=LW ox;obtain⟨oF,eX⟩:=T.post b4 ay;have gD:=(eX o m0).trans S;refine z9 Ax (mu:=[]) ?_;simp[oj,LW,gD,aI]
             refine⟨T.base,λj hj g3 g4 g5=>T.rA j ((Cv.1 hj).resolve_left ac) g3 g4 g5,λq=>absurd (Lb _ b4) q,λ_ q=>absurd (MJ ..) q,λ_=>⟨p,hp,LV,λ_=>LW⟩,λ_ j hj=>Lb _ (ab j ((by decide:∀j:Fin 36,oe _ j.val 36=true) ⟨j,hj⟩)),λ_=>Lb _ b4,λ_=>⟨p,hp,?_,af.aj _ _ _,λy N y2=>by rw[af.ah _ _ y2];exact eX y N⟩⟩
             obtain⟨n,z,g1,P⟩:=oF;exact⟨n,z,g1,by rw[af.ah _ _ (vj m0)];exact P⟩
         . intro done q3 v l5 T
           obtain⟨p,hp,g1,P,g3⟩:=T.fin (l5 36 be)
           refine A _ _ ⟨el.hour+r+f0.dN*ch+p,by rw[av];simp[T.base,K,e4,M,U,X,er,fh,iQ,O],g1,P,λy N y2=>(g3 y N y2).trans (ax y N y2),ac⟩
       . have q2:¬rN ks F>=0:=λq=>k8 ((sk ks F).1 q)
         refine aa.runN Ax [] 4 ?_;simp[gx,q2];refine A _ _ ⟨e.hour,by rw[av];simp[K,e4,M,U,X,er,fh,iQ,O],aF.mono ac,S,ax,by have:=he.hour;omega⟩
     clear aF S ax hE K e4 M U X er fh iQ O gx
     rintro ε v ⟨hr,hE,l6,S,bE,oG⟩
     obtain⟨K,e4,M,U,X,er,fh,iQ,O⟩:=av ▸ hE
     have oK:σ.del c o=none:=by
      cases hx:σ.del c o with
      |none=>rfl
      |some x=>have:=b0.1 _ _ hx;rw[<-b3 o m0,al]at this;cases this
     have aW:(σ.del c).Le v:=λy x hy=>by
      have N:y≠c:=λe=>by subst e;rw[Y]at hy;cases hy
      have y2:y≠o:=λe=>by subst e;rw[oK]at hy;cases hy
      rw[bE y N y2];exact b0.1 y x hy
     have gG:∀b x,σ' b=some x->(∀l,x≠.cells l)->v b=σ' b:=λb x hb hx=>by
      refine bE b (λe=>?_) λe=>?_
      . rw[e]at hb;obtain⟨_,_,_,q⟩:=ft;rw[q]at hb;cases hb;exact hx _ rfl
      . rw[e,<-b3 o m0,al]at hb;cases hb
     have b9:Tok (σ.del c) v a 6 (es.map bn):=Ap b0 aW λb hb=>by obtain⟨g1,l,P⟩:=b0.bH hb;exact⟨gG b _ P ap,g1⟩
     have bm:Tok (σ.del c) v hh 1 (ks.map Xn):=Ap bC aW λb hb=>by obtain⟨g1,l,P⟩:=bC.bH hb;exact⟨gG b _ P ap,g1⟩
     have t4:v G=some (.cells my):=by rw[bE G b2 (vj m4)];exact q4
     have t6:v u=some (.cells (A6 a)):=by rw[bE u n6 (vj m6)];exact q6
     have tl:v C=some (.cells (RP (d.map bn)++μ)):=by rw[bE C aO (vj ml)];exact ql
     clear b0 bC q4 q6 ql a7 bE gG
     rcases Int.lt_or_le 72 hr with l7|l7
     . apply rn
       simp[fh,O,S,l7,f3.1,f3.2];refine ih _ g1 ⟨_,v,a,hh,d,es,ks,rfl,by simp[K],by simp[e4],by simp[M],by simp[U],by simp[X],by simp[er],F2,l6.mono ac,t4,t6,tl,b9,bm,eA,J,fu,fv,ac⟩
     . have lj:¬hr>72:=ac
       obtain⟨n1,lp⟩:=S1 (⟨hr,e.place,el.di,e.marks,ht,sh⟩:vU);obtain⟨b1,eE⟩:=S1 (RP ((d.set F n1).map bn)++μ);have lA:F*6+6<=CL.length:=by rw[dj,zR,b7];omega
       have lB:aI CL (F*6) [Xn hr,Xn e.place,Xn el.di,Ae e.marks,Xn ht,Xn sh]=b1:=by
        have:=G1 (k:=6) (d.map bn) F (bn n1) (by rw[zD];exact fx) fO rfl
        rw[eE,LH,<-this,dj];unfold aI;rw[List.take_append_of_le_length (by rw[b7];omega),List.drop_append_of_le_length (by rw[b7];simp;omega),lp]
        simp
       rw[<-dj]at tl;have hD:=b9.cells;have q5:=bm.cells;have lC:v u=some (.cells [a,Cu f0.roads,Xn f0.bs,Xn f0.fN,Xn f0.dN,Xn i]):=by rw[t6,bA]
       have rr:=vj ml;apply rn;simp[M,U,iQ,O,S,lj,tl,cr,lB,lA,af.ah,fp.symm,ml,lC];subst lp;have oL:bG a≠some C:=λe=>by obtain⟨_,_,q⟩:=b9.bH e;rw[tl]at q;cases q
       have lE:bG hh≠some C:=λe=>by obtain⟨_,_,q⟩:=bm.bH e;rw[tl]at q;cases q
       have bq:Tok (σ.del c) (v.set C (.cells b1)) a 6 (es.map bn):=b9.beside r1 oL;have m1:Tok (σ.del c) (v.set C (.cells b1)) hh 1 (ks.map Xn):=bm.beside r1 lE;have q7:(es.map bn).length<=6:=by rw[zD];omega
       have q8:(ks.map Xn).length<=6:=by rw[zD,J.2];omega
       refine aP Ax rfl rfl rfl kG rfl kG rfl vb be F2 (σ0:=(v.set C (.cells b1)).off a) (es:=es.map bn) (xs:=[bn ⟨hr,e.place,el.di,e.marks,ht,sh⟩]) (by simpa using bq.here.1) (.inr ⟨_,by simp;rfl⟩) λa' gH gI=>?_
       obtain⟨br,oM⟩:=IA m1 bq (λb hb q=>eA b q hb) gI
       have eK:=gI.base bq.here.2;have k9:∀y l,(v.set C (.cells b1)) y=some (.cells l)->gH y=some (.cells l):=λy l hy=>gI.1 _ _ (by rw[af.hQ (λe=>by obtain⟨_,_,q⟩:=bq.bH e;rw[hy]at q;cases q)];exact hy)
       have eN:=eK.cells;apply rn;simp[er,iQ];refine aP Ax rfl rfl rfl bX rfl bX rfl nM be F2 (σ0:=gH.off hh) (es:=ks.map Xn) (xs:=[Xn F]) (by simpa using br.here.1) (.inr ⟨_,by simp;rfl⟩) λoN ad ea=>?_
       obtain⟨gP,m2⟩:=IA eK br (λb hb q=>oM b q hb) ea
       have eb:=ea.base br.here.2;have oS:=eb.cells;have et:∀y l,gH y=some (.cells l)->ad y=some (.cells l):=λy l hy=>ea.1 _ _ (by rw[af.hQ (λe=>by obtain⟨_,_,q⟩:=br.bH e;rw[hy]at q;cases q)];exact hy)
       have z6:ad u=some (.cells [a,Cu f0.roads,Xn f0.bs,Xn f0.fN,Xn f0.dN,Xn i]):=et _ _ (k9 _ _ (by rw[af.ah _ _ (vj fp)];exact lC))
       have z4:ad G=some (.cells my):=et _ _ (k9 _ _ (by rw[af.ah _ _ (vj mA)];exact t4))
       have zl:ad C=some (.cells b1):=et _ _ (k9 _ _ (af.aj _ _ _));apply rn;simp[M,fh,z6,aI,eN.1,eN.2,f3.1,f3.2];have m3:PB f0.roads.length ⟨hr,e.place,el.di,e.marks,ht,sh⟩:=⟨⟨oG.1,ac⟩,he.place,k2⟩
       have eR:∀{x:AV}{kk:Nat}{l:We},Tok (σ.del c) ad x kk l->Tok (σ.del c) (ad.set u (.cells (A6 a'))) x kk l:=λ{x kk l} hx=>hx.beside mf (λe=>by obtain⟨_,_,q⟩:=hx.bH e;rw[z6]at q;cases q)
       refine ih _ g1 ⟨_,ad.set u (.cells (A6 a')),a',oN,d.set F ⟨hr,e.place,el.di,e.marks,ht,sh⟩,es++[⟨hr,e.place,el.di,e.marks,ht,sh⟩],ks++[(F:Int)],by rw[bA],by simp[K],by simp[e4],by simp[M],by simp[U],by simp[X],ap,F2,?_,?_,af.aj _ _ _,?_,by have:=eR gP;simpa using this,by have:=eR eb;simpa using this,λb hb=>m2 b hb,⟨by simp[J.1],by simp[J.2]⟩,λx hx=>?_,λx hx=>?_,F2⟩
       . obtain⟨n,z,g1,P⟩:=l6
         exact⟨n,z,ac,by rw[af.ah _ _ (vj n6)];exact et _ _ (k9 _ _ (by rw[af.ah _ _ (vj aO)];exact P))⟩
       . rw[af.ah _ _ (vj ec)];exact z4
       . rw[af.ah _ _ fp,zl,eE]
       . rcases Mq hx with hx|rfl
         . exact fu x hx
         . exact m3
       . rcases E4.1 hx with hx|hx
         . exact fv x hx
         . simp at hx;subst hx;exact⟨m3.hour,k2⟩
   . have p0:j=qn:=ac
     subst p0;have rF:¬(j:Int)<j:=ac
     apply rn;simp[e4,M,er,fh,mB.2,q4,a7,aI];obtain⟨nb,zb,gU,eW⟩:=ft;obtain⟨f,hf⟩:=S1 (⟨es,f0.roads,f0.bs,f0.fN,f0.dN,(i:Int)⟩:Fr);have gA:=Fr.wA (R.fits ac) (R.check ac)
     have bw:=R.km
     have p5:Zq cnt f ks:=by
      subst hf;refine⟨by show(es.length:Int)<=cnt;omega,⟨bw.2,λr hr=>?_⟩,fv,J.2⟩
      obtain⟨t,ht,rfl⟩:=FG.1 hr;exact FL (Nat.le_of_eq (gA.row (i:=t) ht).1) bw.2
     refine .dp (a':=.cx [bR f,Ae ks]) (vf rfl λi x y x1 x2=>?_) (.less (σ':=σ.set c (.cells [Ae nums,Xn nb,.lit (.int .u64 zb)])) (λy x hy=>?_) (.done (h f ks _ p5 ⟨⟨nb,zb,ac,af.aj _ _ _⟩,λy hy=>af.ah _ _ hy⟩)))
     . match i with
       | 0=>
         simp at x1 x2;subst x1;subst x2;refine ig (by subst hf;rfl) λi x y x1 x2=>?_
         subst hf
         match i with
         |0=>simp at x1 x2;subst x1;subst x2;exact b0.W
         |1=>simp at x1 x2;subst x1;subst x2;exact .refl _
         |2=>simp at x1 x2;subst x1;subst x2;exact .refl _
         |3=>simp at x1 x2;subst x1;subst x2;exact .refl _
         |4=>simp at x1 x2;subst x1;subst x2;exact .refl _
         |5=>simp at x1 x2;subst x1;subst x2;exact .refl _
         |i+6=>simp at x1
       |1=>simp at x1 x2;subst x1;subst x2;exact bC.W
       |i+2=>simp at x1
     . by_cases N:y=c
       . subst N
         rw[af.aj]at hy;rw[af.ah _ _ n4,eW];exact hy
       . rw[af.ah _ _ N]at hy
         have y4:y≠G:=λe=>by subst e;rw[h4]at hy;cases hy
         rw[af.ah _ _ y4];exact b0.1 y x (by simpa[af.del,N]using hy)
end
end SO
end
section
open Go Go.bu Go.Conc
variable{m:Mo}{σ:af}{KF:YC}
structure Nt(w:bF):Prop where
 jo:w.fair.ao.length+w.ak.length<=6
 aaI:w.ways.length<=5
 ad0:∀e∈w.fair.ao,e.marks.length<=3
 ad1:∀c∈w.ak,c.lost.marks.length<=3
 rows:w.fair.roads.length<=3/\∀r∈w.fair.roads,r.length<=3
abbrev wZ:We:=[.nil,.nil,Xn 0,Xn 0,Xn 0,Xn 0,Xn 0,.nil,.nil]
abbrev w9(f:Fr)(M T:Int)(a aw b:AV):We:=[a,Cu f.roads,Xn f.bs,Xn f.fN,Xn f.dN,Xn M,Xn T,aw,b]
section
variable{c k:Nat}{nums:RQ}
namespace WX
abbrev afD:YA:=[⟨11,.take [0,2,3,8] false (.both 1 (MU [4,5,6,7,9] .done) (MU [4] (.both 1 (MU [5,6,7,9] .done) (MU [5] (.both 1 (MU [6,7,9] .done) (MU [6] (.take [1] true (MU [7,9] .done))))))))⟩,⟨18,.take [0,2,3,4,8,9,10,11,12,13,19] false (.both 1 (.both 5 (.take [6] false (.both 7 (MU [14,15,16,17,18,20] .done) (MU [14,7,15,16,17,18,20] .done))) (MU [14,5] (.take [6] false (MU [7,15,16,17,18,20] .done)))) (.both 5 (.take [6] false (.both 1 (.both 7 (MU [14,15,16,17,18,20] .done) (MU [14,7,15,16,17,18,20] .done)) (.both 7 (.both 1 (MU [14,15,16,17,18,20] .done) (MU [14] (.both 1 (MU [15,16,17,18,20] .done) (MU [15] (.both 1 (MU [16,17,18,20] .done) (MU [16] (.both 1 (MU [17,18,20] .done) (MU [17] (.take [1] true (MU [18,20] .done)))))))))) (MU [14] (.both 1 (MU [7,15,16,17,18,20] .done) (MU [7] (.both 1 (MU [15,16,17,18,20] .done) (MU [15] (.both 1 (MU [16,17,18,20] .done) (MU [16] (.both 1 (MU [17,18,20] .done) (MU [17] (.take [1] true (MU [18,20] .done)))))))))))))) (MU [14] (.both 1 (MU [5] (.take [6] false (MU [7,15,16,17,18,20] .done))) (MU [5] (.take [6] false (.both 1 (MU [7,15,16,17,18,20] .done) (MU [7] (.both 1 (MU [15,16,17,18,20] .done) (MU [15] (.both 1 (MU [16,17,18,20] .done) (MU [16] (.both 1 (MU [17,18,20] .done) (MU [17] (.take [1] true (MU [18,20] .done))))))))))))))))⟩,⟨20,.take [0,1,3,6,7,8,9,10,13,14] false (.both 2 (.both 4 (.both 5 (MU [11,12] (.take [16] false (MU [15] .done))) (MU [11,5,12] (.take [16] false (MU [15] .done)))) (MU [11,4,5,12] (.take [16] false (MU [15] .done)))) (.both 4 (.both 2 (.both 5 (MU [11,12] (.take [16] false (MU [15] .done))) (MU [11,5,12] (.take [16] false (MU [15] .done)))) (MU [11,2,5,12] (.take [16] false (MU [15] .done)))) (MU [11] (.both 2 (MU [4,5,12] (.take [16] false (MU [15] .done))) (MU [4,2,5,12] (.take [16] false (MU [15] .done)))))))⟩]
def Rd{cnt}(hk:k+600<1000000)(hn:nums.length<1152921504606846976)(c5:1<=cnt/\cnt<=6)(hb:cq c nums k σ)(h:∀  w   own lost  σ',Nt w->vV c nums (k+600) σ σ'->KF (.val (.cx [aT w,Ae own,Ae lost])) σ'):ar prog m 45 [.ref c 0,Xn cnt] σ KF:=by
 obtain⟨n0,s0,_,eA⟩:=id hb;refine S0 afD func45 ?_
 simp[f45];refine bz.intro λG h4=>?_
 have n4:c≠G:=λe=>aq
 have a7:∀x,cq c nums k (σ.set G x):=λx=>⟨n0,s0,ac,by simp_all [af.ah]⟩
 simp;refine O1 func107 (SO.V' ac hn c5 (a7 _) λf ks c6 hS av=>?_)
 refine aa.runN Ax [] 6 ?_;simp;refine bz.intro λc7 h7=>?_
 simp[aI]
 change aa _ _ _ _ _ _ _ _ _
 refine aa.bj 7 (b:=c7) (bR f) (af.aj _ _ _) ap rfl ?_
 rw[cy h7];clear h7;apply rn;simp;refine bz.intro λE h9=>?_
 have u4:c6 G=some (.cells wZ):=by rw[av.2 G (vj n4),af.aj]
 have Y:E≠c:=λe=>by subst e;obtain⟨_,_,_,q⟩:=av.1;simp_all
 have a8:E≠G:=λe=>aq
 simp[aI]
 have J:∀X,cq c nums (k+500) (c6.set E X):=λX=>by obtain⟨n,z,Z,g2⟩:=av.1;exact⟨n,z,Z,by simp_all [af.ah,vj]⟩
 refine O1 func47 (Af ac hn ac (J _) λon F ax=>?_)
 refine aa.runN Ax [] 3 ?_;simp;obtain⟨M,hM⟩:=S1 (if on=true then 6 else f.bc:Int)
 obtain⟨EE,o⟩:=S1 (λε=>ε 0=.ref c 0/\ε 7=.cp (bR f) 0/\ε 8=Ae ks/\ε 4=.ref G 0/\ε 9=.ref E 0:Env->Prop)
 apply HJ
 . intro key
   have v9:F E=some (.cells [.nil,Cu f.roads,Xn f.bs,Xn f.fN,Xn f.dN,Xn f.bc,Xn 0,.nil,.nil]):=by rw[ax.2 E Y,af.aj]
   have v4:F G=some (.cells wZ):=by rw[ax.2 G (vj n4),af.ah _ _ (vj a8)];exact u4
   have vk:∀y,y≠c->y≠G->y≠E->F y=σ y:=λy y1 y2 y3=>by rw[ax.2 y y1,af.ah _ _ y3,av.2 y y1,af.ah _ _ y2]
   cases on with
   | false=>
     simp;refine aa.runN Ax [] 1 ?_;simp;refine aa.lh (λε σ'=>EE ε/\cq c nums (k+501) σ'/\σ' G=some (.cells wZ)/\σ' E=some (.cells [.nil,Cu f.roads,Xn f.bs,Xn f.fN,Xn f.dN,Xn M,Xn 0,.nil,.nil])/\∀y,y≠c->y≠G->y≠E->σ' y=σ y) ?_ ?_
     . exact⟨by rw[o];simp,ax.1,v4,by rw[hM];exact v9,vk⟩
     . exact key
   | true=>
     simp;refine aa.runN Ax [] 5 ?_;simp[v9,aI];obtain⟨n,z,Z,g2⟩:=ax.1;refine aa.lh (λε σ'=>EE ε/\cq c nums (k+501) σ'/\σ' G=some (.cells wZ)/\σ' E=some (.cells [.nil,Cu f.roads,Xn f.bs,Xn f.fN,Xn f.dN,Xn M,Xn 0,.nil,.nil])/\∀y,y≠c->y≠G->y≠E->σ' y=σ y) ?_ ?_
     . exact⟨by rw[o];simp,⟨n,z,Z,by rw[af.ah _ _ (vj Y)];exact g2⟩,by rw[af.ah _ _ (vj a8)];exact v4,by rw[hM];exact af.aj _ _ _,λy y1 y2 y3=>by rw[af.ah _ _ y3];exact vk y y1 y2 y3⟩
     . exact key
 have s9:σ E=none:=by rw[<-h9,av.2 E Y,af.ah _ _ a8]
 rintro ε c8 ⟨N,b2,u4,u9,ec⟩
 obtain⟨r,v,A,B,p⟩:=o ▸ N;apply rn;simp[r];refine O1 func108 (jH ac hn ac ac b2 λT b3 hT R=>?_)
 have eB:1<=T/\T<=4:=ac
 have v9:b3 E=some (.cells [.nil,Cu f.roads,Xn f.bs,Xn f.fN,Xn f.dN,Xn M,Xn 0,.nil,.nil]):=by rw[R.2 E Y];omega
 apply rn;simp[r,p,v9,aI]
 have ed:∀X,cq c nums (k+502) (b3.set E X):=λX=>by obtain⟨n,z,Z,g2⟩:=R.1;exact⟨n,z,ac,by rw[af.ah _ _ (vj Y)];omega⟩
 refine O1 func13 (gT ac hn ac (ed _) λx S hx b4=>?_)
 have eC:0<=x/\x<=5:=ac
 obtain⟨X,hX⟩:∃X:Nat,(X:Int)=x:=⟨x.toNat,ac⟩
 apply rn;simp
 have ca:(σ.del c).Le S:=λy z hy=>by
  have y1:y≠c:=λe=>by subst e;simp[af.del]at hy
  have y0:σ y=some z:=by simpa[af.del,y1]using hy
  have y4:y≠G:=λe=>by subst e;rw[h4]at y0;cases y0
  have y9:y≠E:=λe=>by subst e;rw[s9]at y0;cases y0
  rw[b4.2 y y1,af.ah _ _ y9,R.2 y y1,ec y y1 y4 y9];omega
 have cb:kR (σ.del c) S [(.nil,5,([]:FH).map fG)]:=⟨ca,λt q=>by rw[sN.1 q];exact⟨ca,.inl ⟨rfl,rfl⟩⟩,List.pairwise_singleton _ _⟩
 have cg:cq c nums (k+503+7*0) S:=b4.1.mono ac
 refine HJ (P:=?P2) (λkey=>?f2) ?p2
 case f2=>
  refine aa.loop X (λj s=>∃ε σ' aw ws,s=⟨ε,σ',[],.no⟩/\(EE ε/\ε 10=Xn (X-j))/\cq c nums (k+503+7*j) σ'/\σ' G=some (.cells wZ)/\σ' E=some (.cells (w9 f M T .nil aw .nil))/\kR (σ.del c) σ' [(aw,5,(ws:FH).map fG)]/\ws.length<=j) ?_ ?_
  . exact⟨_,_,.nil,[],rfl,⟨by rw[o];simp[r,v,A,B,p],by simp[hX]⟩,cg,by rw[b4.2 G (vj n4),af.ah _ _ (vj a8),R.2 G (vj n4)];exact u4,by rw[b4.2 E Y,af.aj],cb,ap⟩
  rintro c0 j _ hj ⟨ε,σ',aw,ws,rfl,⟨N,er⟩,b5,q4,q9,u,ee⟩ ih
  obtain⟨r,v,A,B,p⟩:=o ▸ N;have eE:=u.head.cells;apply rn;simp[er];refine xj.intro (λZ=>?_) (λZ=>?_)<;>(try simp[-Int.not_lt,-Int.not_le,-Nat.not_lt,-Nat.not_le]at Z)<;>(try simp[p,q9,Z])
  rotate_left
  . have b9:k+503+7*j<=k+540:=ac
    have bm:ws.length<=5:=ac
    refine aa.lh (λε σ'=>∃aw ws,EE ε/\ε 11=.nil/\ε 12=.nil/\ε 13=Xn 0/\cq c nums (k+540) σ'/\σ' G=some (.cells wZ)/\σ' E=some (.cells (w9 f M T .nil aw .nil))/\kR (σ.del c) σ' [(aw,5,(ws:FH).map fG)]/\ws.length<=5) ?_ ?_
    . exact⟨aw,ws,by rw[o];simp[r,v,A,B,p],ap,ap,ap,b5.mono b9,q4,q9,u,bm⟩
    omega
  refine aM.intro (λg2=>?_) (λg2=>?_)<;>(try simp[-Int.not_lt,-Int.not_le,-Nat.not_lt,-Nat.not_le]at g2)<;>(try simp[r,p,q9,g2])
  rotate_left
  . have b9:k+503+7*j<=k+540:=ac
    have bm:ws.length<=5:=ac
    refine aa.lh (λε σ'=>∃aw ws,EE ε/\ε 11=.nil/\ε 12=.nil/\ε 13=Xn 0/\cq c nums (k+540) σ'/\σ' G=some (.cells wZ)/\σ' E=some (.cells (w9 f M T .nil aw .nil))/\kR (σ.del c) σ' [(aw,5,(ws:FH).map fG)]/\ws.length<=5) ?_ ?_
    . exact⟨aw,ws,by rw[o];simp[r,v,A,B,p],ap,ap,ap,b5.mono b9,q4,q9,u,bm⟩
    omega
  apply sQ (I:=λε d=>∃a' x,EE ε/\ε 10=Xn (X-j)/\cq c nums (k+503+7*j+7) d/\d G=some (.cells wZ)/\d E=some (.cells (w9 f M T .nil a' .nil))/\kR (σ.del c) d [(a',5,(ws.map fG)++[fG x])])
  . intro K
    repeat' (first
              |apply And.intro
              | (refine O1 func109 (WY.VY ac hn ac b5 λx F eK hd=>?_)
                 have bq:∃l,σ' c=some (.cells l):=by obtain⟨_,_,_,q⟩:=b5;exact⟨_,q⟩
                 have C:=u.BV (by simp[af.del]) bq hd.2
                 have cm:=C.head.cells;have r9:F E=some (.cells (w9 f M T .nil aw .nil)):=by rw[hd.2 E Y];exact q9
                 have r4:F G=some (.cells wZ):=by rw[hd.2 G (vj n4)];exact q4
                 apply pg;simp[r,v,A,B,p,er,r9,cm.1,cm.2])
              | (refine aP Ax rfl rfl rfl Cr rfl Cr rfl Ps be F2 (σ0:=F.off aw) (es:=ws.map fG) (xs:=[fG x]) (by simpa using C.head.here.1) (.inr ⟨_,by simp;rfl⟩) λa' c8 a9=>?_
                 obtain⟨ad,k3⟩:=C.app a9;have L:=ad.head.cells;have t9:=k3 _ _ r9;have t4:=k3 _ _ r4;apply pg;simp[r,v,A,B,p,er,t9,L.1,L.2,aI];obtain⟨nb,zb,a7,J⟩:=hd.1;have tc:=k3 _ _ J;refine K _ _ ⟨a',x,by rw[o];simp[r,v,A,B,p],by simp[er],⟨nb,zb,a7,by rw[af.ah _ _ (vj Y)];exact tc⟩,by rw[af.ah _ _ (vj a8)];exact t4,af.aj _ _ _,?_⟩
                 exact(ad.BV (by simp[af.del,Y,s9]) ⟨_,t9⟩ λy hy=>af.ah _ _ hy)))
  clear N r v A B p er ε
  rintro ε F ⟨a',x,N,er,J,r4,r9,C⟩
  obtain⟨r,v,A,B,p⟩:=o ▸ N;apply rn;simp[er];have r1:=M1 ((X:Int)-j-1)
  refine⟨r1,ih _ Z ⟨_,_,a',ws++[x],rfl,⟨by rw[o];simp[r,v,A,B,p],?_⟩,?_,r4,r9,?_,?_⟩⟩
  . simp;omega
  . omega
  . simpa using C
  . simp;omega
 case p2=>
 clear N r v A B p ε
 rintro ε b6 ⟨aw,ws,N,fh,iQ,g,cr,cv,dj,H,ee⟩
 obtain⟨r,v,A,B,p⟩:=o ▸ N;have eN:=hS.len;have h6:f.ao.length<=6:=ac
 have eR:=hS.ks;apply rn;simp;have ay:=H.1
 have aF:kR (σ.del c) b6 [(.nil,6,([]:List vU).map bn),(.nil,8,([]:List Az).map cK),(.nil,1,([]:RQ).map Xn),(.nil,1,([]:RQ).map Xn),(aw,5,ws.map fG)]:=by
  have n0:∀kk,Tok (σ.del c) b6 .nil kk []:=λkk=>⟨ay,.inl ⟨rfl,rfl⟩⟩
  refine⟨ay,λt q=>?_,?_⟩
  . simp at q
    rcases q with rfl|rfl|rfl|rfl
    . exact n0 6
    . exact n0 8
    . exact n0 1
    . exact H.head
  . simp[bG]
 refine aa.loop f.ao.length (λi s=>∃ε σ' aE O U Q es os ls cs,s=⟨ε,σ',[],.no⟩/\(EE ε/\ε 11=U/\ε 12=Q/\ε 13=Xn i)/\cq c nums (k+540+3*i) σ'/\σ' G=some (.cells wZ)/\σ' E=some (.cells (w9 f M T aE aw O))/\kR (σ.del c) σ' [(aE,6,(es:List vU).map bn),(O,8,(cs:List Az).map cK),(U,1,(os:RQ).map Xn),(Q,1,(ls:RQ).map Xn),(aw,5,ws.map fG)]/\(es.length+cs.length=i/\os.length<=i/\ls.length<=i)/\(∀x∈es,x.marks.length<=3)/\∀x∈cs,x.lost.marks.length<=3) ?_ ?_
 . exact⟨_,_,.nil,.nil,.nil,.nil,[],[],[],[],rfl,⟨ac,ac,ac,ac⟩,cr,cv,dj,aF,ap,ap,ap⟩
 clear aF H ay cv dj cr N r v A B p fh iQ g ε
 rintro c0 i _ hi ⟨ε,σ',aE,O,U,Q,es,os,ls,cs,rfl,⟨N,fh,iQ,g⟩,br,q4,q9,u,eW,bw,bx⟩ ih
 obtain⟨r,v,A,B,p⟩:=o ▸ N;have aW:=u.head.cells;have b0:O.cells=[O]/\O.flat=true:=(u.2.1 (O,8,cs.map cK) ap).cells
 have dm:U.cells=[U]/\U.flat=true:=(u.2.1 (U,1,os.map Xn) ap).cells
 have eX:Q.cells=[Q]/\Q.flat=true:=(u.2.1 (Q,1,ls.map Xn) ap).cells
 refine aa.runN Ax [] 20 ?_;simp[v,g];refine aM.intro (λZ=>?_) (λZ=>?_)<;>(try simp[-Int.not_lt,-Int.not_le,-Nat.not_lt,-Nat.not_le]at Z)<;>(try simp[v,B,p,fh,iQ,g,q9,aW.2,b0.2,Z])
 . refine aa.runN Ax [] 2 ?_
   simp;refine bz.intro λeg dr=>?_
   simp[aI]
   change aa _ _ _ _ _ _ _ _ _
   refine aa.bj 14 (b:=eg) (bn f.ao[i]) (af.aj _ _ _) ap rfl ?_
   rw[cy dr];have fc:=hS.pS _ (lb Z);generalize f.ao[i]=e at *;clear dr;apply rn;simp[r];refine O1 func47 (Af ac hn ac br λon F al=>?_)
   have bq:∃l,σ' c=some (.cells l):=by obtain⟨_,_,_,q⟩:=br;exact⟨_,q⟩
   have C:=u.BV (by simp[af.del]) bq al.2
   have r9:F E=some (.cells (w9 f M T aE aw O)):=by rw[al.2 E Y];omega
   have r4:F G=some (.cells wZ):=by rw[al.2 G (vj n4)];omega
   have dx:=(C.2.1 (O,8,cs.map cK) ap).uN
   refine HJ (P:=?P3) (λkey=>?f3) ?p3
   case f3 =>
    have ej:∀b,b=decide ((cs.length:Int)<3)->b=true->cs.length<3:=λb q1 q2=>by rw[q1]at q2;have:=FE q2;clear key;omega
    cases on with
    | false=>
      refine aa.runN Ax [] 7 ?_;simp;refine aa.lh (λε d=>F=d/\EE ε/\ε 11=U/\ε 12=Q/\ε 13=Xn i/\ε 14=.cp (bn e) 0/\∃b,ε 71=T0 b/\(b=true->cs.length<3)) ?_ ?_
      . exact⟨rfl,by rw[o];simp[r,v,A,B,p],by simp[fh],by simp[iQ],by simp[g],ap,false,ap,ap⟩
      . exact key
    | true=>
      rcases dx with ⟨q1,q2⟩|⟨sp,q1⟩
      . change O=_ at q1
        rw[q1]at r9;refine aa.runN Ax [] 7 ?_;simp[p,r9];refine aa.lh (λε d=>F=d/\EE ε/\ε 11=U/\ε 12=Q/\ε 13=Xn i/\ε 14=.cp (bn e) 0/\∃b,ε 71=T0 b/\(b=true->cs.length<3)) ?_ ?_
        . have hz:cs.length<3:=by
           cases cs with
           |nil=>exact be
           |cons a l=>cases q2
          exact⟨rfl,by rw[o];simp[r,v,A,B,p],by simp[fh],by simp[iQ],by simp[g],ap,true,ap,λ_=>hz⟩
        omega
      . change O=_ at q1
        rw[q1]at r9;refine aa.runN Ax [] 7 ?_;simp[p,r9];refine aa.lh (λε d=>F=d/\EE ε/\ε 11=U/\ε 12=Q/\ε 13=Xn i/\ε 14=.cp (bn e) 0/\∃b,ε 71=T0 b/\(b=true->cs.length<3)) ?_ ?_
        . exact⟨rfl,by rw[o];simp[r,v,A,B,p],by simp[fh],by simp[iQ],by simp[g],ap,decide ((cs.length:Int)<3),ap,ej _ rfl⟩
        omega
   case p3=>
   clear N r v A B p fh iQ g ε dx
   rintro ε _ ⟨rfl,N,fh,iQ,g,qC,b,Wi,b2⟩
   obtain⟨r,v,A,B,p⟩:=o ▸ N;have rT:=M1 (T-1)
   have rh:=M1 (e.hour+6)
   cases b with
   | true=>
     have b2:=b2 rfl;apply sQ (I:=λε d=>∃a' nc,EE ε/\ε 11=U/\ε 12=Q/\ε 13=Xn i/\cq c nums (k+540+3*i+3) d/\d G=some (.cells wZ)/\d E=some (.cells (w9 f M T aE aw a'))/\kR (σ.del c) d [(a',8,cs.map cK++[cK nc]),(aE,6,es.map bn),(U,1,os.map Xn),(Q,1,ls.map Xn),(aw,5,ws.map fG)]/\nc.lost=e)
     . intro K
       apply rn;simp[r,p,qC,Wi,r9,rT.1,rT.2,rh.1,rh.2]
       repeat' (first
                 |apply And.intro
                 | (refine O1 func13 (gT ac hn ac al.1 λy1 c8 fg b1=>?_)
                    have ad:=C.BV (by simp[af.del]) (by obtain⟨_,_,_,q⟩:=al.1;exact⟨_,q⟩) b1.2
                    have v9:=(b1.2 E Y).trans r9;have v4:=(b1.2 G (vj n4)).trans r4;apply pg;simp[r,v,A,B,p,fh,iQ,g,qC,r9,v9,aW.1,aW.2,b0.1,b0.2,rT.1,rT.2,rh.1,rh.2])
                 | (refine O1 func108 (jH ac hn ac ⟨by split<;>omega,by split<;>omega⟩ b1.1 λy2 b3 fi R=>?_)
                    have dy:=ad.BV (by simp[af.del]) (by obtain⟨_,_,_,q⟩:=b1.1;exact⟨_,q⟩) R.2
                    have x9:=(R.2 E Y).trans v9;have x4:=(R.2 G (vj n4)).trans v4;apply pg;simp[r,v,A,B,p,fh,iQ,g,qC,x9,aW.1,aW.2,b0.1,b0.2,aI])
                 | (have hp:=dy.perm (List.Perm.swap (O,8,cs.map cK) _ _)
                    refine aP Ax rfl rfl rfl wI rfl wI rfl HP be F2 (σ0:=b3.off O) (es:=cs.map cK) (xs:=[cK ⟨e,y1,y2⟩]) (by simpa using hp.head.here.1) (.inr ⟨.exact,by simp[aI]⟩) λa' S a9=>?_
                    obtain⟨D,k5⟩:=hp.app a9;have L:=D.head.cells;have t9:=k5 _ _ x9;have t4:=k5 _ _ x4;apply pg;simp[r,v,A,B,p,fh,iQ,g,qC,t9,L.1,L.2,aI];obtain⟨nb,zb,a7,J⟩:=R.1;have tc:=k5 _ _ J;refine K _ _ ⟨a',⟨e,y1,y2⟩,by rw[o];simp[r,v,A,B,p],by simp[fh],by simp[iQ],by simp[g],⟨nb,zb,ac,by rw[af.ah _ _ (vj Y)];exact tc⟩,by rw[af.ah _ _ (vj a8)];exact t4,af.aj _ _ _,D.BV (by simp[af.del,Y,s9]) ⟨_,t9⟩ λy hy=>af.ah _ _ hy,rfl⟩))
     clear N r v A B p fh iQ g qC Wi ε
     rintro ε S ⟨a',nc,N,fh,iQ,g,ea,bA,bB,D,ep⟩
     obtain⟨r,v,A,B,p⟩:=o ▸ N;have b7:i<ks.length:=ac
     have L:=D.head.cells;apply rn;simp[A,iQ,g,b7];have hp:=D.perm (Me (a:=(Q,1,ls.map Xn)) (l₁:=[(a',8,cs.map cK++[cK nc]),(aE,6,es.map bn),(U,1,os.map Xn)]) (l₂:=[(aw,5,ws.map fG)]));refine aP Ax rfl rfl rfl bX rfl bX rfl nM be F2 (σ0:=S.off Q) (es:=ls.map Xn) (xs:=[Xn ks[i]]) (by simpa using hp.head.here.1) (.inr ⟨_,rfl⟩) λeb b6 a9=>?_
     obtain⟨H,k6⟩:=hp.app a9;have ez:=H.head.cells;have t9:=k6 _ _ bB;have t4:=k6 _ _ bA;apply rn;simp[g];obtain⟨nb,zb,a7,J⟩:=ea;have tc:=k6 _ _ J;have bC:=H.perm ((Me (a:=(eb,1,ls.map Xn++[Xn ks[i]])) (l₁:=[(a',8,cs.map cK++[cK nc]),(aE,6,es.map bn),(U,1,os.map Xn)]) (l₂:=[(aw,5,ws.map fG)])).symm.trans (List.Perm.swap _ _ _));refine⟨ac,ih _ Z ⟨_,_,aE,a',U,eb,es,os,ls++[ks[i]],cs++[nc],rfl,⟨by rw[o];simp[r,v,A,B,p],by simp[fh],ap,ap⟩,⟨nb,zb,ac,tc⟩,t4,t9,?_,?_,bw,?_⟩⟩
     . simpa using bC
     . simp;omega
     . intro x hx
       rcases E4.1 hx with q|q
       . exact bx x q
       . rw[sN.1 q,ep];omega
   | false=>
     have b7:i<ks.length:=ac
     apply sQ (I:=λε d=>∃V ab,EE ε/\ε 11=ab/\ε 12=Q/\ε 13=Xn i/\cq c nums (k+540+3*i+3) d/\d G=some (.cells wZ)/\d E=some (.cells (w9 f M T V aw O))/\kR (σ.del c) d [(ab,1,os.map Xn++[Xn ks[i]]),(V,6,es.map bn++[bn e]),(O,8,cs.map cK),(Q,1,ls.map Xn),(aw,5,ws.map fG)])
     . intro K
       apply rn;simp[A,p,fh,g,qC,Wi,r9,b7]
       repeat' (first
                 |apply And.intro
                 | (refine aP Ax rfl rfl rfl kG rfl kG rfl vb be F2 (σ0:=F.off aE) (es:=es.map bn) (xs:=[bn e]) (by simpa using C.head.here.1) (.inr ⟨.exact,ap⟩) λV S a9=>?_
                    obtain⟨D,k5⟩:=C.app a9;have L:=D.head.cells;have t9:=k5 _ _ r9;have t4:=k5 _ _ r4;apply pg;simp[r,v,A,B,p,fh,iQ,g,qC,t9,L.1,L.2,dm.1,dm.2,b7])
                 | (have hp:=D.perm (Me (a:=(U,1,os.map Xn)) (l₁:=[(V,6,es.map bn++[bn e]),(O,8,cs.map cK)]) (l₂:=[(Q,1,ls.map Xn),(aw,5,ws.map fG)]))
                    refine aP Ax rfl rfl rfl bX rfl bX rfl nM be F2 (σ0:=S.off U) (es:=os.map Xn) (xs:=[Xn ks[i]]) (by simpa using hp.head.here.1) (.inr ⟨.exact,ap⟩) λab b6 et=>?_
                    obtain⟨H,k6⟩:=hp.app et;have b8:=H.head.cells;have x9:=k6 _ _ t9;have x4:=k6 _ _ t4;apply pg;simp[r,v,A,B,p,fh,iQ,g,qC,x9,L.1,L.2,b8.1,b8.2,aI];obtain⟨nb,zb,a7,J⟩:=al.1;have tc:=k6 _ _ (k5 _ _ J);exact K _ _ ⟨V,ab,by rw[o];simp[r,v,A,B,p],ap,by simp[iQ],by simp[g],⟨nb,zb,ac,by rw[af.ah _ _ (vj Y)];exact tc⟩,by rw[af.ah _ _ (vj a8)];exact x4,af.aj _ _ _,H.BV (by simp[af.del,Y,s9]) ⟨_,x9⟩ λy hy=>af.ah _ _ hy⟩))
     clear N r v A B p fh iQ g qC Wi ε
     rintro ε S ⟨V,ab,N,fh,iQ,g,ea,bA,bB,D⟩
     obtain⟨r,v,A,B,p⟩:=o ▸ N;apply rn;simp[g];have bC:=D.perm ((Me (a:=(ab,1,os.map Xn++[Xn ks[i]])) (l₁:=[(V,6,es.map bn++[bn e]),(O,8,cs.map cK)]) (l₂:=[(Q,1,ls.map Xn),(aw,5,ws.map fG)])).symm);refine⟨ac,ih _ Z ⟨_,_,V,O,ab,Q,es++[e],os++[ks[i]],ls,cs,rfl,⟨by rw[o];simp[r,v,A,B,p],by simp[fh],by simp[iQ],ap⟩,ac,bA,bB,?_,?_,?_,bx⟩⟩
     . simpa using bC
     . simp;omega
     . intro x hx
       rcases E4.1 hx with q|q
       . exact bw x q
       . rw[sN.1 q];omega
 . have ei:i=f.ao.length:=ac
   have ev:aw.cells=[aw]/\aw.flat=true:=(u.2.1 (aw,5,ws.map fG) ap).cells
   simp[ev.2,q4,aI];apply rn;simp[B];obtain⟨w,hw⟩:=S1 (⟨⟨es,f.roads,f.bs,f.fN,f.dN,M⟩,T,ws,cs⟩:bF)
   have bE:Nt w:=by subst hw;exact⟨by show es.length+cs.length<=6;omega,ac,bw,bx,hS.roads⟩
   obtain⟨nb,zb,a7,J⟩:=br
   have fl:(AV.agg (w9 f M T aE aw O)).W (aT w):=by
    subst hw;refine ig rfl λi x y h1 h2=>?_
    match i with
    |0=>cases h1;cases h2;exact u.head.W
    |1=>cases h1;cases h2;exact .refl _
    |2=>cases h1;cases h2;exact .refl _
    |3=>cases h1;cases h2;exact .refl _
    |4=>cases h1;cases h2;exact .refl _
    |5=>cases h1;cases h2;exact .refl _
    |6=>cases h1;cases h2;exact .refl _
    |7=>cases h1;cases h2;exact (u.2.1 (aw,5,ws.map fG) ap).W
    |8=>cases h1;cases h2;exact (u.2.1 (O,8,cs.map cK) ap).W
    |i+9=>cases h1
   have ey:(AV.cx [.agg (w9 f M T aE aw O),U,Q]).W (.cx [aT w,Ae os,Ae ls]):=by
    refine vf rfl λi x y h1 h2=>?_
    match i with
    |0=>cases h1;cases h2;omega
    |1=>cases h1;cases h2;exact (u.2.1 (U,1,os.map Xn) ap).W
    |2=>cases h1;cases h2;exact(u.2.1 (Q,1,ls.map Xn) ap).W
    |i+3=>cases h1
   refine .dp ey (.less (σ':=σ.set c (.cells [Ae nums,Xn nb,.lit (.int .u64 zb)])) (λy x hy=>?_) (.done (h w _ _ _ bE ⟨⟨nb,zb,ac,af.aj _ _ _⟩,λy hy=>af.ah _ _ hy⟩)))
   by_cases y1:y=c
   . subst y1
     rw[af.aj]at hy;rw[af.ah _ _ n4,J];omega
   . rw[af.ah _ _ y1]at hy
     have y4:y≠G:=λe=>by subst e;rw[h4]at hy;cases hy
     rw[af.ah _ _ y4];exact u.1 y x (by simpa[af.del,y1]using hy)
end WX
end
def ad2{k es d sp}(i:es.length=d.length)(l:∀e∈d,e.cells.length=k)(g:Wl (RP es) (RP d)):(AV.sl k es sp).W (.sl k d .any):=λK x m=>by
 cases m with
 | sl b off cap u N E _ _ c h n o v p q w=>
   rw[i]at h ⊢;refine .sl b off cap k N E d .any c h n o l (λj y=>p j (by rw[g.len];omega)) (λj a r=>?_) trivial;obtain⟨f,s,t⟩:=g.at r;exact t K _ (q j f s)
 | slnil f=>
   have:d=[]:=am
   subst this;exact .slnil f k .any (.inl rfl)
def Wa{l1 a l2 b}(c:Wl l1 a)(e:Wl l2 b):Wl (l1++l2) (a++b):=by
 induction c with
 |nil=>grind
 |cons h _ d=>exact .cons h d
abbrev QX(w:bF)(a:AV):We:=[kg w.fair.ao,Cu w.fair.roads,Xn w.fair.bs,Xn w.fair.fN,Xn w.fair.dN,Xn w.fair.bc,Xn w.aX,a,kr w.ak]
def pT{w c x b k nums}(hk:k+700<1000000)(N:nums.length<1152921504606846976)(hb:cq b nums k σ)
 (h:∀  made other  (own lost:RQ) σ',Nt made->(other={made with ak:=made.ak++[c]}\/other={made with ways:=made.ways++[x]})->cq b nums (k+601) σ'->(∀y z,y≠b->σ y=some z->σ' y=some z)->KF (.val (.sl 9 ([w,made,other].map aT) .any)) σ'):ar prog m 11 [aT w,cK c,fG x,.ref b 0] σ KF:=by
 refine S0 afg func11 ?_
 simp[f11];refine O1 func45 (WX.Rd ac N ac hb λmade own lost l E hd=>?_)
 refine aa.runN Ax [] 7 ?_;simp;refine bz.intro λd H=>?_
 simp[aI]
 change aa _ _ _ _ _ _ _ _ _
 refine aa.bj 9 (b:=d) (aT made) (af.aj _ _ _) ap rfl ?_
 rw[cy H];apply rn;simp;have c3:=E.jo;refine O1 func46 (WI7.JR ac ?_)
 apply rn;simp;refine bz.intro λe he=>?_
 simp[aI];obtain⟨A,hA⟩:=S1 ({made with ak:=made.ak++[c]})
 obtain⟨P,Q,J,R⟩:=hd.1;have n:b≠e:=am
 have u:cq b nums (k+600) (l.set e (.cells (xP {made with ak:=made.ak++[c]}))):=⟨P,Q,J,by grind [af.ah]⟩
 refine O1 func47 (Af ac N ac u λyes g i=>?_)
 have v:g e=some (.cells (xP {made with ak:=made.ak++[c]})):=(i.2 e (vj n)).trans (af.aj _ _ _)
 have o:∀y z,y≠b->σ y=some z->g y=some z:=λy z F K=>by
  have S:l y=some z:=(hd.2 y F).trans K;have j:y≠e:=am
  rw[i.2 y F,af.ah _ _ j];omega
 cases yes with
 |false=>apply rn;simp[v];exact .dp (by grind [eo]) (.done (h made _ own lost g E (.inl rfl) i.1 o))
 | true=>
   apply rn;simp[v,aI];have T:made.ways.length<=5:=E.aaI;generalize p:g.set e (.cells (xP made))=G;have L:G e=some (.cells (xP made)):=by subst p;simp_all
   apply sQ (I:=λε σ'=>∃q f,ε 4=.cp (aT w) 0/\ε 9=.cp (aT made) 0/\ε 12=.ref e 0/\σ'=f.set e (.cells (QX made q))/\Tok G f q 5 (made.ways.map fG++[fG x]))
   . intro r
     repeat' (first
               |apply And.intro
               | (refine aP Ax rfl rfl rfl Cr rfl Cr rfl Ps be F2 (σ0:=G) (es:=[]) (xs:=made.ways.map fG) ⟨af.le_refl _,.inr (.inl rfl)⟩ (.inr ⟨_,by simp;rfl⟩) λa1 U s=>?_
                  have B:=s.cells;have V:=s.1 _ _ L;apply pg;simp[B.1,B.2,V];refine aP Ax rfl rfl rfl Cr rfl Cr rfl Ps be F2 (σ0:=G) (es:=made.ways.map fG) (xs:=[fG x]) (by simpa using s) (.inr ⟨_,by simp;rfl⟩) λq f t=>?_
                  have C:=t.cells;have X:=t.1 _ _ L;apply pg;simp[C.1,C.2,X,aI];exact r _ _ ⟨q,f,ap,ap,ap,rfl,by simpa using t⟩))
   rintro ε Y ⟨q,f,Z,e9,iQ,rfl,D⟩
   have hc:=D.cells;apply rn;simp[Z,e9,iQ,hc.2];have p5:=D.1 _ _ L;obtain⟨n3,z3,d1,d2⟩:=i.1
   have M:(AV.sl 9 [aT w,aT made,.agg (QX made q)] .exact).W (.sl 9 ([w,made,{made with ways:=made.ways++[x]}].map aT) .any):=by
    have w2:q.W (rW (made.ways++[x])):=by
     have:=D.W
     grind
    refine ad2 rfl (λa O=>?_) ?_
    . simp at O
      rcases O with rfl|rfl|rfl<;>rfl
    . refine Wa (Wl.refl _) (Wa (Wl.refl _) ?_)
      exact .cons (.refl _) (.cons (.refl _) (.cons (.refl _) (.cons (.refl _) (.cons (.refl _) (.cons (.refl _) (.cons (.refl _) (.cons w2 (.cons (.refl _) .nil))))))))
   refine .dp M (.done (h made _ own lost _ E (.inr rfl) ⟨n3,z3,d1,?_⟩ λy z F K=>?_))
   . rw[af.ah _ _ n]
     exact D.1 _ _ (by rw[<-p,af.ah _ _ n];omega)
   . have S:l y=some z:=(hd.2 y F).trans K
     have j:y≠e:=am
     rw[af.ah _ _ j];exact D.1 _ _ (by rw[<-p,af.ah _ _ j];grind)
namespace OW
abbrev Re:We:=[.lit (.slice none 0 0),.lit (.slice none 0 0),Xn 0,Xn 0,Xn 0,Xn 0,Xn 0,.lit (.slice none 0 0),.lit (.slice none 0 0)]
abbrev Yw(w:bF)(a b:AV):We:=[kg w.fair.ao,Cu w.fair.roads,Xn w.fair.bs,Xn w.fair.fN,Xn w.fair.dN,Xn w.fair.bc,Xn w.aX,a,b]
def IH{w}(h6:w.fair.ao.length<=1000)(hm:∀e∈w.fair.ao,e.marks.length<=1000000000)(U:w.fair.roads.length<=1000000)(V:∀r∈w.fair.roads,r.length<=1000000000)(a9:w.ways.length<=1000)(hc:∀c∈w.ak,c.lost.marks.length<=1000000000)(ab:w.ak.length<=1000)(h:KF (.val (aT w)) σ):ar prog m 12 [aT w] σ KF:=by
 refine S0 afh func12 ?_
 simp[f12];refine bz.intro λj S=>?_
 simp;obtain⟨J,X⟩:=S1 (λε f=>∃g a,σ g=none/\g≠j/\ε 1=.cp (aT w) 0/\ε 2=.ref j 0/\ε 3=.ref g 0/\f j=some (.cells Re)/\f g=some (.cells (Yw w a (.lit (.slice none 0 0))))/\Tok σ f a 5 (w.ways.map fG):FI)
 refine HJ (P:=?P2) (λkey=>?f2) ?p2
 case f2=>
  repeat' (first
            |apply And.intro
            | (refine O1 func48 (afT h6 hm U V ?_)
               apply pg
               first|simp[d.1,d.2,u3,aI]|simp[d.1,d.2,aI]|simp[aI])
            | (refine aP Ax rfl rfl rfl Cr rfl Cr rfl Ps be (by clear key;simp;omega) (es:=[]) (xs:=w.ways.map fG) ⟨af.le_refl _,.inr (.inl rfl)⟩ (.inr ⟨_,by simp;rfl⟩) λa o n=>?_
               have d:=n.cells;apply pg
               first|(have u3:=n.1 g _ (af.aj _ _ _);simp[d.1,d.2,u3,aI])|simp[d.1,d.2,aI])
            | (refine qB.intro λg H=>?_
               first|simp[d.1,d.2,aI]|simp[aI]))
  all_goals first
   | (obtain⟨I,N,K⟩:=af.bd H
      have hx:σ.Le ((σ.set j (.cells Re)).set g (.cells Re)):=af.oi (af.oi (af.le_refl _) S) H;have T:bG a≠some g:=λe=>by have:=(n.bH e).1;rw[af.aj]at this;cases this
      have n2:bG a≠some j:=λe=>by have:=(n.bH e).1;rw[af.ah _ _ N,af.aj]at this;cases this
      have Y:o j=some (.cells Re):=n.1 _ _ (by rw[af.ah _ _ N];exact af.aj _ _ _)
      refine aa.lh J (by rw[X];exact⟨g,a,K,I,ap,ap,ap,by rw[af.ah _ _ N];exact Y,af.aj _ _ _,(n.base hx).beside K T⟩) ?_
      exact key)
   | (have Z:σ.Le o:=af.le_trans (af.oi (af.le_refl _) S) n.1
      have K:=Z.none H;have T:bG a≠some g:=λe=>by obtain⟨l,q⟩:=(n.bH e).2;rw[H]at q;cases q
      have n2:bG a≠some j:=λe=>by have:=(n.bH e).1;rw[af.aj]at this;cases this
      have Y:o j=some (.cells Re):=n.1 _ _ (af.aj _ _ _);have I:g≠j:=am
      refine aa.lh J (by rw[X];exact⟨g,a,K,I,ap,ap,ap,by rw[af.ah _ _ (vj I)];exact Y,by first|exact af.aj _ _ _|(rw[af.set_set];exact af.aj _ _ _),by first|exact(n.base (af.oi (af.le_refl _) S)).beside K T|(rw[af.set_set];exact(n.base (af.oi (af.le_refl _) S)).beside K T)⟩) ?_
      exact key)
 case p2=>
  rw[X]
  rintro ε f ⟨g,a,H,I,D,L,E,M,F,k⟩
  have N:j≠g:=vj I;apply rn;simp;refine aa.loop w.ak.length (λi s=>∃ε f b,s=⟨ε,f,[],.no⟩/\ε 1=.cp (aT w) 0/\ε 2=.ref j 0/\ε 3=.ref g 0/\ε 4=Xn i/\f j=some (.cells Re)/\f g=some (.cells (Yw w a b))/\kR σ f [(b,8,(w.ak.take i).map cK),(a,5,w.ways.map fG)]) ?_ ?_
  . refine⟨_,_,.lit (.slice none 0 0),rfl,aq,aq,aq,ap,M,F,k.1,λt q=>?_,?_⟩
    . simp at q
      rcases q with rfl|rfl
      . exact⟨k.1,am⟩
      omega
    . simp[bG]
  clear D L E M F k ε f
  rintro c0 i _ hi ⟨ε,f,b,rfl,D,L,E,O,M,F,u⟩ ih
  have A:=u.head;have k:Tok σ f a 5 (w.ways.map fG):=u.2.1 (a,5,w.ways.map fG) ap
  have G:=A.cells;have d:=k.cells
  rcases za i w.ak.length with g1|g1
  . have ad:(i:Int)<w.ak.length:=ac
    have f1:=M1 ((i:Int)+1)
    apply rn;simp[D,E,O,F,g1]
    repeat' (first
              |apply And.intro
              | (refine O1 func49 (Cd (hc _ (lb g1)) ?_)
                 apply pg;simp[D,L,E,O,M,F,d.1,d.2,G.1,G.2,g1,aI])
              | (refine aP Ax rfl rfl rfl wI rfl wI rfl HP be F2 (σ0:=f.off b) (es:=(w.ak.take i).map cK) (xs:=[cK w.ak[i]]) (by simpa using A.here.1) (.inr ⟨_,by simp[aI];rfl⟩) λb2 o Q=>?_
                 have C:=Q.cells;obtain⟨R,k3⟩:=u.app Q;have t3:=k3 _ _ F;have t2:=k3 _ _ M;apply pg;simp[D,L,E,O,t2,t3,d.1,d.2,C.1,C.2,aI]))
    all_goals (
     apply rn;simp[O,f1.1,f1.2];refine ih _ g1 ⟨_,_,b2,rfl,by simp[D],by simp[L],by simp[E],ap,by rw[af.ah _ _ N];exact t2,af.aj _ _ _,?_⟩
     have:=R.BV (σ2:=o.set g (.cells (Yw w a b2))) H ⟨_,t3⟩ (by grind [af.ah])
     rw[so g1,DL];simpa using this)
  . have a7:i=w.ak.length:=ac
    subst a7;rw[zH]at A
    have a8:(AV.agg (Yw w a b)).W (aT w):=ig rfl λi x y p B=>by
     match i with
     |0=>cases p;cases B;exact .refl _
     |1=>cases p;cases B;exact .refl _
     |2=>cases p;cases B;exact .refl _
     |3=>cases p;cases B;exact .refl _
     |4=>cases p;cases B;exact .refl _
     |5=>cases p;cases B;exact .refl _
     |6=>cases p;cases B;exact .refl _
     |7=>cases p;cases B;exact k.W
     |8=>cases p;cases B;exact A.W
     |i+9=>cases p
    apply rn;simp[D,L,E,O,M,F,d.2,G.2,aI];refine .dp a8 (.less (λv z hv=>?_) (.done h))
    have v2:v≠j:=am
    rw[af.ah _ _ v2];exact u.1 _ _ hv
end OW
end
section
open Go Go.bu
set_option maxRecDepth 100000
structure bF.Raw(w:bF):Prop where
 fits:w.fair.Fits
 ways:w.ways.length<1152921504606846976
 ak:w.ak.length<1152921504606846976
 lost:∀c∈w.ak,c.lost.marks.length<1152921504606846976
def bF.Small.short{w:bF}(h:w.Small):w.cA:=by
 have f:=h.ao;have g:=h.roads;have i:=h.ways;have j:=h.ak;have a:∀r∈w.fair.roads,r.length<1152921504606846976:=λr a=>by have:=h.row r a;omega
 refine⟨⟨ac,ac,a,λe b=>by have:=h.marks e b;omega⟩,λc d=>⟨am,am,a,λe b=>?_⟩,ac,ac⟩
 have:=h.lost c d
 grind
def Nt.small{w}(h:Nt w):w.Small:=by have d:=h.jo;have f:=h.rows;have g:=h.aaI;exact⟨ac,ac,ac,ac,λe a=>by have:=h.ad0 e a;omega,am,λc b=>by have:=h.ad1 c b;omega⟩
def Nt.other{w o c x}(h:Nt w)(e:c.lost.marks.length<=20)(b:o={w with ak:=w.ak++[c]}\/o={w with ways:=w.ways++[x]}):o.Small:=by
 have f:=h.jo;have g:=h.aaI;have a:=h.small;rcases b with rfl|rfl
 . exact⟨a.ao,a.roads,a.ways,am,a.marks,a.row,λd hd=>by
    rcases E4.1 hd with q|q
    . exact a.lost d q
    grind⟩
 . exact⟨a.ao,a.roads,am,a.ak,a.marks,a.row,a.lost⟩
def bF.Small.own{m σ KF w}(h:w.Small)(a:KF (.val (aT w)) σ):ar prog m 12 [aT w] σ KF:=by have g:=h.ao;have i:=h.roads;have j:=h.ways;have k:=h.ak;exact OW.IH ac (λe b=>by have:=h.marks e b;omega) ac (λr d=>by have:=h.row r d;omega) ac (λc f=>by have:=h.lost c f;omega) ac a
end
open Go Go.bu Go.Conc
variable{m:Mo}{σ:af}{KF:YC}
namespace SW
def Wb  a b :bQ prog (Op.equalIn 9999 25 (.agg #[.int .i64 a,.int .i64 b]) (.agg #[.int .i64 a,.int .i64 b]))=some true:=by
 refine GG Tryz.underlying25 s8 λf c=>?_
 simp at c;rcases c with rfl|rfl
 . exact⟨.int .i64 a,rfl,eq_int Tryz.underlying3⟩
 . exact⟨.int .i64 b,rfl,eq_int Tryz.underlying3⟩
def Wc(x:Way):bQ prog (Op.equal 38 (.agg #[.int .i64 x.a,.int .i64 x.b,.int .i64 x.bJ,.int .i64 x.bs,.int .i64 x.fN]) (.agg #[.int .i64 x.a,.int .i64 x.b,.int .i64 x.bJ,.int .i64 x.bs,.int .i64 x.fN]))=some true:=by
 refine GG Tryz.underlying38 s8 λf c=>?_
 simp at c;rcases c with rfl|rfl|rfl|rfl
 . exact⟨.int .i64 x.a,rfl,eq_int Tryz.underlying3⟩
 . exact⟨.int .i64 x.b,rfl,eq_int Tryz.underlying3⟩
 . exact⟨.int .i64 x.bJ,rfl,eq_int Tryz.underlying3⟩
 . exact⟨.agg #[.int .i64 x.bs,.int .i64 x.fN],rfl,Wb _ _⟩
def jw{w}(t:w.fair.Fits)(A:∀c∈w.ak,c.lost.marks.length<1152921504606846976)(B:w.ak.length<1000)(u:w.ways.length<1000)(h:KF (.val (T0 true)) σ):ar prog m 21 [aT w,aT w] σ KF:=by
 refine S0 afz func21 ?_;simp[f21];refine O1 func60 (abq t ?_);apply rn;simp;refine aa.loop w.ways.length (λi=>MY σ λε=>ε 2=.cp (aT w) 0/\ε 3=.cp (aT w) 0/\ε 5=Xn i) aq ?_;rintro y i _ z ⟨ε,rfl,d,f,j⟩ n;apply rn;simp[d,j];refine aM.intro (λe=>?_) (λe=>?_)<;>(try simp[-Int.not_lt,-Int.not_le,-Nat.not_lt,-Nat.not_le]at e)<;>(try simp[d,f,j,e])
 . obtain⟨x,o⟩:=S1 (w.ways[i])
   simp only[<-o];have g:∀(k:az) (v:Value),V k v (fG x)->v=.agg #[.int .i64 x.a,.int .i64 x.b,.int .i64 x.bJ,.int .i64 x.bs,.int .i64 x.fN]:=λk v g=>VW (l:=[.int .i64 x.a,.int .i64 x.b,.int .i64 x.bJ,.int .i64 x.bs,.int .i64 x.fN]) g
   refine sf (r:=.bool false) rfl (λk v p=>g k v (by simpa using p)) (λk v p=>g k v (by simpa using p)) (gK (a:=()) _ s8 (gK (s:=Op.equal _ _ _) (Wc x) rfl)) ?_;apply pg;simp;apply rn;simp[j];refine⟨ac,n _ ac ⟨_,rfl,by simp[d],by simp[f],ap⟩⟩
 . refine aa.loop w.ak.length (λi=>MY σ λε=>ε 2=.cp (aT w) 0/\ε 3=.cp (aT w) 0/\ε 6=Xn i) aq ?_
   rintro y i _ z ⟨ε,rfl,d,f,q⟩ n;apply rn;simp[d,q];refine aM.intro (λe=>?_) (λe=>?_)<;>(try simp[-Int.not_lt,-Int.not_le,-Nat.not_lt,-Nat.not_le]at e)<;>(try simp[d,f,q,e])
   . refine O1 func61 (abm (c:=w.ak[i]) am ?_)
     apply pg;simp;apply rn;simp[q];refine⟨ac,n _ ac ⟨_,rfl,by simp[d],by simp[f],ap⟩⟩
   . exact .done h
end SW

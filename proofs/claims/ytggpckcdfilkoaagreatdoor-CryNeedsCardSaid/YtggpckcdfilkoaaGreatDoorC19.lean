import Derived.Test.YtggpckcdfilkoaaGreatDoorC18
set_option linter.all false
set_option maxHeartbeats 2000000
set_option maxRecDepth 4000
namespace Go.Proofs.YtggpckcdfilkoaaGreatDoor
open Go.Proofs.Tryz hiding f0 f1 f10
abbrev FH:=List Way
section
open Go Go.bu Go.Conc
variable{m:Mo}{σ:af}{KF:YC}
def QY.BW{σ σ' fb mb w}(h:QY σ fb mb w σ'):je w mb σ':=⟨[],by rw[h.eq,af.ah _ _ (vj h.ne),af.aj],λp a b=>by simp[gg]at b⟩
def QY.less{σ σ' σ2 fb mb w}(h:QY σ fb mb w σ')(hb:jR mb σ' σ2):σ.Le σ2:=λc x a=>by
 have d:c≠fb:=λe=>by rw[e,h.f0]at a;cases a
 have b:c≠mb:=λe=>by rw[e,h.m0]at a;cases a
 exact hb c x (by rw[h.eq,af.ah _ _ d,af.ah _ _ b];exact a) b
abbrev fa:AV:=.lit (.slice none 0 0)
def E9{a b c d a' b' c' d'}(e:a.W a')(f:b.W b')(g:c.W c')(h:d.W d'):Wl [a,b,c,d] [a',b',c',d']:=.cons e (.cons f (.cons g (.cons h .nil)))
def BX(e:m.solo=true){w}(f:w.pq){c:Nat}(h:c<3)(i:dR w [] [] [(c:Int)]=0)(b:if 72<bP w c then KF (.val (.cx [Xn 0,Xn 11])) σ else KF (.val (.cx [Xn (bP w c),Xn 0])) σ):ar prog m 29 [aT w,Xn c] σ KF:=by
 have j:Wl [aT w,fa,fa,.sl 1 [Xn c] .exact] [aT w,Ae [],Ae [],Ae [(c:Int)]]:=E9 (.refl _) (bK 1) (bK 1) (eo 1 _ _);refine S0 [] func29 ?_;simp[f29];refine bp func51 rfl rfl j (kM e f ap (λq=>absurd i q) λ_ d fb mb k=>?_);have a:=k.less (.refl mb d);apply rn;simp;refine O1 func69 (sK h ?_);split at b
 . next g=>rw[wS g];apply rn;simp;refine O1 func70 (Ox ?_);apply rn;simp;exact .less a (.done b)
 . next g=>rw[wN g];apply rn;simp;refine O1 func70 (VH ?_);apply rn;simp;exact .less a (.done b)
def JL(a:m.solo=true){w}(f:w.pq)(g:w.Open){h}(b:dR w [h] [] []≠0->KF (.val (.cx [fa,Xn (dR w [h] [] [])])) σ)(i:dR w [h] [] []=0->KF (.val (.cx [Ae (dc w h),Xn 0])) σ):ar prog m 24 [aT w,Xn h] σ KF:=by
 have j:Wl [aT w,.sl 1 [Xn h] .exact,fa,fa] [aT w,Ae [h],Ae [],Ae []]:=E9 (.refl _) (eo 1 _ _) (bK 1) (bK 1);obtain⟨e,k⟩:=S1 (dR w [h] [] []);refine S0 [] func24 ?_;simp[f24];refine bp func51 rfl rfl j (kM a f ap (λq=>?_) λq l fb mb c=>?_)
 . rw[<-k]at q b ⊢
   have d:(e !=0)=true:=am
   apply rn;simp[d];exact .done (b q)
 . apply rn
   simp;refine O1 func57 (zx a g c.BW λn d o=>?_);apply rn;simp;exact .less (c.less o) (.done (i q))
def ik(w:bF)(h i:Int):Bool:=decide (0<(rV w h i).length)
def cN(w:bF)(i:Int):Nat->Int × List (Int × Int)
 |0=>(1048576,[])
 |h+1=>if(h:Int)<=72/\ik w h i=true then(if(h:Int)<(cN w i h).1 then(h:Int)else(cN w i h).1,(cN w i h).2)else if(cN w i h).1<1048576 then(1048576,(cN w i h).2++[((cN w i h).1,(h:Int)-1)])else(1048576,(cN w i h).2)
def dF(w:bF)(i:Int):Iu:=(cN w i 74).2
abbrev fe(r:Int × Int):AV:=.agg [Xn r.1,Xn r.2]
def Iv  w   i :∀h ,0<=(cN w i h).1/\(cN w i h).1<=1048576
 |0=>by simp[cN]
 | h+1=>by
   have:=Iv w i h;unfold cN
   grind
def K4  w   i :∀d h ,(cN w i h).2 <+: (cN w i (h+d)).2
 |0,h=>List.prefix_refl _
 | d+1,h=>by
   refine(K4 w i d h).trans ?_
   conv=>rhs;unfold cN
   grind
def Oy{w i h}(d:h<74){r}(b:(cN w i (h+1)).2=(cN w i h).2++[r]):∃f ,(dF w i)[(cN w i h).2.length]=r:=by
 have a:=K4 w i (73-h) (h+1);rw[show h+1+(73-h)=74 by omega,b]at a;obtain⟨t,c⟩:=a;have e:dF w i=(cN w i h).2++[r]++t:=c.symm
 grind
def GW(C:m.solo=true){w fb mb i}(D:w.Open)(hi:0<=i/\i<6){y}{I:Nat->FC}(E:y.cells=[y]/\y.flat=true)
 (t:∀k σ σ',I k σ->jR mb σ σ'->je w mb σ'->I k σ') (hb:∀k σ,I k σ->je w mb σ)
 (B:∀k  F   σ   K ,I k σ->(∀σ',I (k+1) σ'->K (.val (T0 true)) σ')->cQ prog m y [fe (dF w i)[k]] σ K)
 (G:I 0 σ) (h:∀σ',I (dF w i).length σ'->KF (.val (.cx [])) σ'):ar prog m 113 [y,.cp (xN fb mb w 0) 0,.cp (Xn i) 0] σ KF:=by
 refine S0 [] func113 ?_;simp[f113];refine aa.loop 74 (λk s=>∃ε σ',s=⟨ε,σ',[],.no⟩/\ε 0=y/\ε 1=.cp (xN fb mb w 0) 0/\ε 2=.cp (Xn i) 0/\ε 4=Xn (cN w i k).1/\ε 7=Xn k/\I (cN w i k).2.length σ') ⟨_,_,rfl,ap,ap,ap,by simp[cN],ap,G⟩ ?_;rintro N k _ F ⟨ε,σ',rfl,c,j,l,r,d,n⟩ o;have H:=Iv w i k;apply rn;simp[d];apply aM.intro<;>intro p<;>simp at p<;>simp[d,p]
 . have p : k<74:=ac
   refine xj.intro (λu=>?_) (λu=>?_)<;>(try simp[-Int.not_lt,-Int.not_le]at u)<;>(try simp[j,l,r,u])
   . refine O1 func66 (HM C D hi (hb _ _ n) λJ L M=>?_)
     have n:=t _ _ _ n M L;apply rn;simp;apply aM.intro<;>intro v<;>simp at v<;>simp[r,d,v]
     . have b:cN w i (k+1)=(if (k:Int)<(cN w i k).1 then (k:Int)else (cN w i k).1,(cN w i k).2):=by
        conv=>lhs;unfold cN
        rw[wS ⟨ac,by unfold ik;grind⟩]
       refine⟨ac,o _ ac ⟨_,_,rfl,by simp[c],by simp[j],by simp[l],by rw[b];simp,ap,am⟩⟩
     . have x:¬((k:Int)<=72/\ik w k i=true):=λq=>by have:=q.2;simp[ik,v]at this
       refine xj.intro (λe=>?_) (λe=>?_)<;>(try simp[-Int.not_lt,-Int.not_le]at e)<;>(try simp[c,r,d,e])
       . have b:cN w i (k+1)=(1048576,(cN w i k).2++[((cN w i k).1,(k:Int)-1)]):=by
          conv=>lhs;unfold cN
          grind
         obtain⟨z,f⟩:=Oy (w:=w) (i:=i) p (by rw[b]);have a:=B _ z;rw[f]at a;refine⟨ac,?_⟩;refine a _ _ n λg A=>?_
         apply rn;simp[d];refine⟨ac,o _ ac ⟨_,g,rfl,by simp[c],by simp[j],by simp[l],by rw[b];simp,ap,am⟩⟩
       . have b:cN w i (k+1)=(1048576,(cN w i k).2):=by
          conv=>lhs;unfold cN
          grind
         refine⟨ac,o _ ac ⟨_,_,rfl,?_,?_,?_,aq,?_,am⟩⟩<;>simp[c,j,l]
   . have x:¬((k:Int)<=72/\ik w k i=true):=ac
     refine xj.intro (λe=>?_) (λe=>?_)<;>(try simp[-Int.not_lt,-Int.not_le]at e)<;>(try simp[c,r,d,e])
     . have b:cN w i (k+1)=(1048576,(cN w i k).2++[((cN w i k).1,(k:Int)-1)]):=by
        conv=>lhs;unfold cN
        grind
       obtain⟨z,f⟩:=Oy (w:=w) (i:=i) p (by rw[b]);have a:=B _ z;rw[f]at a;refine⟨ac,?_⟩;refine a _ _ n λg A=>?_
       apply rn;simp[d];refine⟨ac,o _ ac ⟨_,g,rfl,?_,?_,?_,aq,?_,am⟩⟩<;>simp[c,j,l]
     . have b:cN w i (k+1)=(1048576,(cN w i k).2):=by
        conv=>lhs;unfold cN
        grind
       refine⟨ac,o _ ac ⟨_,_,rfl,?_,?_,?_,aq,?_,am⟩⟩<;>simp[c,j,l]
 . have ek:k=74:=ac
   subst ek;exact .done (h _ n)
abbrev Iw(fb mb:Nat)(w:bF)(i:Int):AV:=.fn (.func 113) [] [.cp (xN fb mb w 0) 0,.cp (Xn i) 0]
def GX{w fb mb i}(h:KF (.val (Iw fb mb w i)) σ):ar prog m 53 [xN fb mb w 0,Xn i] σ KF:=by
 refine S0 [] func53 ?_;simp;exact .done h
def xJ  w   i :∀h ,(cN w i h).2.length<=h
 |0=>by simp[cN]
 | h+1=>by
   have:=xJ w i h;unfold cN
   grind
def je.mono{w mb σ σ'}(h:je w mb σ)(b:∀d x,σ d=some x->(∀e,x≠.tail e)->(∀a,x≠.cells [a])->(∀y,x≠.loop y)->(∀o,x≠.raw o)->σ' d=some x):je w mb σ':=by
 obtain⟨l,c,f⟩:=h;refine⟨l,b _ _ c (by simp[tw]) (by simp[tw]) (by simp[tw]) (by simp[tw]),λp a g=>?_⟩
 grind
abbrev oH(l:Iu):AV:=.sl 2 (l.map fe) .any
def aiJ(M:m.solo=true){w fb mb i}(hO:w.Open)(hi:0<=i/\i<6)(hB:je w mb σ)(h:∀σ',je w mb σ'->jR mb σ σ'->KF (.val (oH (dF w i))) σ'):ar prog m 112 [fa,Iw fb mb w i] σ KF:=by
 have hlen:=xJ w i 74;refine ar.start Ax [2] [] 2 func112 rfl rfl (by rfl) s8 ?_
 simp[f112];refine bz.intro λc hc=>?_
 simp;refine aa.rangeFunc rfl λN r l O P u=>?_
 obtain⟨r1,r2,O⟩:=af.bd O;obtain⟨H,l2,P⟩:=af.bd P;generalize v:BC.mk _ _ _ _ _ _ _ _ _=al;have nm:∀d,σ d=none->d≠mb:=λd hd e=>by obtain⟨x,q,_⟩:=hB;grind
 have cm:=nm c hc;have lm:=nm l P;have rm:=nm r O;refine fS func113 rfl rfl rfl (GW M hO hi (y:=.fn (.yield l) [] []) (I:=λk σ'=>je w mb σ'/\σ' l=some (.loop al)/\σ' r=some (.raw (.deferred (some [])))/\∃a,σ' c=some (.cells [a])/\Tok (σ'.off a) σ' a 2 (((dF w i).take k).map fe)/\jR mb σ (σ'.off a)) ⟨rfl,rfl⟩ ?_ ?_ ?_ ?_ ?_)
 . rintro k f a8 ⟨z,s,J,a,L,j,A⟩ t Q
   refine⟨Q,t _ _ s lm,t _ _ J rm,a,t _ _ L cm,Ao j λb e o=>t b _ o λq=>(yH w mb).mb z e (q ▸ o),λd x B hd=>?_⟩
   have C:=A d x B hd;have R:bG a≠some d:=λe=>by obtain⟨n,_⟩:=j.bH e;grind
   rw[af.hQ R]at C ⊢;exact t _ _ C hd
 . grind
 . rintro k t f K ⟨z,s,J,a,L,j,A⟩ hK
   have S:=j.cells;subst v;refine cQ.AM (η:=[]) N func112 s rfl ?_;apply rn;simp[rf];refine bz.intro λq hq=>?_
   simp
   change aa _ _ _ _ _ _ _ _ _
   refine aa.runN Ax [] 1 ?_;simp
   change aa _ _ _ _ _ _ _ _ _
   refine aa.bj 5 (b:=q) (fe (dF w i)[k]) (af.aj _ _ _) ap rfl ?_
   rw[cy hq];refine aa.beginRound s rfl ?_;have cl:∀x,(f.set l x) c=some (.cells [a]):=λx=>(af.ah _ _ (vj H)).trans L
   apply rn;simp[cl];have B:∀X,Tok ((f.set l X).off a) (f.set l X) a 2 (((dF w i).take k).map fe):=(by grind [Ao,af.ah])
   have M:((dF w i).take (k+1)).map fe=((dF w i).take k).map fe++[fe (dF w i)[k]]:=by grind [List.take_succ_eq_append_getElem]
   refine aP Ax rfl rfl rfl Pp rfl Pp rfl ZX be (by simp only[zD,HX,Ds,Dv];unfold dF;omega) (es:=((dF w i).take k).map fe) (xs:=[fe (dF w i)[k]]) (B _) (.inr ⟨_,by simp;rfl⟩) λT p g=>?_
   rw[<-M]at g;have D:=g.cells;have a9:bG a≠some c:=λe=>by obtain⟨_,_,q⟩:=j.bH e;grind
   have t3:p c=some (.cells [a]):=g.1 _ _ (by grind [af.hQ])
   have U:bG a≠some l:=λe=>by obtain⟨_,_,q⟩:=j.bH e;grind
   have V:=λ(X:uK) (hX:((f.set l X).off a).Le p)=>hX l X (by rw[af.hQ U];simp_all)
   have V:=V _ g.1;refine aa.run Ax [2] ?_;simp[t3,D.1,D.2,aI];refine⟨rfl,rfl,_,(af.ah _ _ H).trans V,?_⟩
   have E:∀X d x,d≠l->d≠c->bG a≠some d->f d=some x->((p.set c (.cells [T])).set l X) d=some x:=λX d x d1 d2 d3 hd=>by rw[af.ah _ _ d1,af.ah _ _ d2];exact g.1 _ _ (by rw[af.hQ d3,af.ah _ _ d1];omega)
   refine hK _ ⟨z.mono λd x hd h1 h2 h3 _=>E _ d x am am (λe=>by obtain⟨_,_,q⟩:=j.bH e;grind) hd,af.aj _ _ _,E _ r _ u r1 (λe=>by obtain⟨_,_,q⟩:=j.bH e;grind) J,T,(af.ah _ _ (vj H)).trans (af.aj _ _ _),Ao g λb e o=>?_,λd x B hd=>?_⟩
   . have F:b≠l:=am
     have Y:b≠c:=am
     rw[af.ah _ _ F]
     grind [af.ah]
   . have F:d≠l:=am
     have Y:d≠c:=am
     have C:=A d x B hd;have n3:bG a≠some d:=λe=>by obtain⟨n,_⟩:=j.bH e;grind
     rw[af.hQ n3]at C
     have n4:bG T≠some d:=λe=>by obtain⟨n,_⟩:=g.bH e;rw[af.hQ n3,af.ah _ _ F,C]at n;cases n
     rw[af.hQ n4]
     grind
 . have Z:∀d x,σ d=some x->(((σ.set c (.cells [fa])).set r (.raw (.deferred (some [])))).set l (.loop al)) d=some x:=(by grind [af.ah])
   exact⟨hB.mono am,af.aj _ _ _,(by grind [af.ah,af.aj]),AV.nil,(by simp_all [af.ah,vj,af.aj]),Tok.nil _ 2,λd x hd _=>Z d x hd⟩
 . rintro f ⟨z,s,J,a,L,j,A⟩
   have S:=j.cells;rw[zH]at j;subst v;refine⟨_,s,ap,rfl,?_⟩
   have a7:(f.del l) c=some (.cells [a]):=by simp only[af.del,vj H,LK];omega
   refine aa.run Ax [2] ?_;simp[a7];refine⟨by simp only[af.del,u,LK];omega,?_⟩
   have G:∀{d x},d≠l->d≠r->(f.off a) d=some x->(((f.off a).del l).del r) d=some x:=λh1 h2 h3=>by simp only[af.del,h1,h2,LK];omega
   refine .dp j.W (.less (λd x hd=>?_) (.done (h (((f.off a).del l).del r) (z.mono (by grind [Ng])) λd x hd hm=>G am am (A d x hd hm))))
   simp only[af.del]at hd;split at hd
   . grind
   next F=>
   split at hd
   . grind
   next Y=>
   rw[af.ah _ _ F];simp only[af.del,Y,LK];exact af.ZG hd
def aef(a:m.solo=true){w fb mb i}(b:w.Open)(hi:0<=i/\i<6)(c:je w mb σ)(h:∀σ',je w mb σ'->jR mb σ σ'->KF (.val (oH (dF w i))) σ'):ar prog m 52 [Iw fb mb w i] σ KF:=by
 refine S0 [] func52 ?_;simp;refine O1 func112 (aiJ a b hi c λσ' d e=>?_);apply rn;simp;exact .done (h σ' d e)
def Gl(a:m.solo=true){w}(f:w.pq)(g:w.Open){i}(hi:0<=i/\i<6)(b:dR w [] [i] []≠0->KF (.val (.cx [fa,Xn (dR w [] [i] [])])) σ)(h:dR w [] [i] []=0->KF (.val (.cx [oH (dF w i),Xn 0])) σ):ar prog m 14 [aT w,Xn i] σ KF:=by
 have j:Wl [aT w,fa,.sl 1 [Xn i] .exact,fa] [aT w,Ae [],Ae [i],Ae []]:=E9 (.refl _) (bK 1) (eo 1 _ _) (bK 1);obtain⟨e,k⟩:=S1 (dR w [] [i] []);refine S0 [] func14 ?_;simp[f14];refine bp func51 rfl rfl j (kM a f ap (λq=>?_) λq l fb mb c=>?_)
 . rw[<-k]at q b ⊢
   have d:(e !=0)=true:=am
   apply rn;simp[d];exact .done (b q)
 . apply rn
   simp;refine O1 func53 (GX ?_);apply rn;simp;refine O1 func52 (aef a g hi c.BW λn d o=>?_);apply rn;simp;exact .less (c.less o) (.done (h q))
def yv(l:Iu):Int:=l.foldl (λn r=>n+(r.2-r.1+1)) 0
def lQ(w:bF)(k:Nat):Int:=(List.range k).foldl (λ(n:Int) (i:Nat)=>n+yv (dF w (i:Int))) 0
def xa  w   i :∀h ,h<=74->∀r∈(cN w i h).2,(0<=r.1/\r.1<=1048576)/\-1<=r.2/\r.2<=73
 |0,_,r,a=>by simp[cN]at a
 | h + 1,b,r,a=>by
   have:=Iv w i h;unfold cN at a;split at a
   . exact xa w i h ac r a
   split at a
   . rcases E4.1 a with a|a
     . exact xa w i h ac r a
     grind
   . exact xa w i h ac r a
def xv  l   r :yv (l++[r])=yv l+(r.2-r.1+1):=by unfold yv;grind
def Oz{l}(a:∀r∈l,(0<=r.1/\r.1<=1048576)/\-1<=r.2/\r.2<=73):-(2000000*(l.length:Int))<=yv l/\yv l<=2000000*l.length:=by
 have key:∀(l:Iu) (n:Int),(∀r∈l,(0<=r.1/\r.1<=1048576)/\-1<=r.2/\r.2<=73)->n-2000000*l.length<=l.foldl (λn r=>n+(r.2-r.1+1)) n/\l.foldl (λn r=>n+(r.2-r.1+1)) n<=n+2000000*l.length:=λl=>by
  induction l with
  |nil=>grind
  | cons r l b=>
    intro n h;have d:=b (n+(r.2-r.1+1)) λx c=>h x (by simp[c])
    grind
 have:=key l 0 a;unfold yv;omega
def K6  w :∀k:Nat,-(200000000*(k:Int))<=lQ w k/\lQ w k<=200000000*k
 |0=>by simp[lQ]
 | k+1=>by
   have a:=K6 w k;have b:=Oz (xa w k 74 ac)
   have c:=xJ w k 74;have e:lQ w (k+1)=lQ w k+yv (dF w k):=by unfold lQ;rw[zU,ET];rfl
   rw[e];unfold dF;omega
def GY{P}(L:lz P){rs ε a}:∀(ds:ZB)  σ ,ds.Nodup->(∀r∈ds,σ r=some (.raw (.deferred (some []))))->(∀σ',(∀d,d∉ds->σ' d=σ d)->Rf L m rs ε KF [] a σ')->Rf L m rs ε KF (ds.map .mark) a σ
 |[],σ,_,_,h=>h σ am
 |r::ds,σ,b,c,h=>⟨am,GY L ds _ am (by grind [af.ah]) (by grind [af.ah])⟩
def Gj(hs:m.solo=true){w}(hw:w.pq)(hO:w.Open)(he:dR w [] [] []=0)(hK:KF (.val (.cx [Xn (lQ w w.fair.ao.length),Xn 0])) σ):ar prog m 17 [aT w] σ KF:=by
 have hW:Wl [aT w,fa,fa,fa] [aT w,Ae [],Ae [],Ae []]:=E9 (.refl _) (bK 1) (bK 1) (bK 1);have h6:=hO.jo.1;refine S0 [] func17 ?_
 simp[f17];refine bp func51 rfl rfl hW (kM hs hw ap ac λq n fb mb v=>?_)
 have D:=v.BW;have E:∀d,n d=none->d≠mb:=λd hd e=>by obtain⟨x,q,_⟩:=D;grind
 apply rn;simp;refine bz.intro λc hc=>?_
 simp;have cm:=E c hc;refine aa.loop w.fair.ao.length (λk s=>∃ε a ds,s=⟨ε,a,List.map Fg.mark ds,.no⟩/\(ε 1=.cp (aT w) 0/\ε 4=xN fb mb w 0/\ε 6=.ref c 0/\ε 20=Xn w.fair.ao.length/\ε 21=Xn k)/\je w mb a/\a c=some (.cells [Xn (lQ w k)])/\ds.Nodup/\(∀r∈ds,a r=some (.raw (.deferred (some [])))/\n r=none)/\jR mb n a) ⟨_,_,[],rfl,ap,D.mono (by grind [af.ah]),af.aj _ _ _,ap,ap,λd x hd _=>(af.ah _ _ λe=>aq).trans hd⟩ ?_
 rintro c0 k _ P ⟨ε,a,ds,rfl,⟨e1,e4,T,Ay,yo⟩,hB,F,G,H,z⟩ ih
 apply rn;simp[Ay,yo];apply aM.intro<;>intro g1<;>simp at g1<;>simp[e4,T,yo,g1,F]
 . refine O1 func53 (GX ?_)
   apply rn;simp;refine aa.rangeFunc rfl λU r l hr Q A=>?_
   change a r=none at hr
   change a l=none at Q
   have nm:∀d,a d=none->d≠mb:=λd hd e=>by obtain⟨x,q,_⟩:=hB;grind
   have lm:=nm l Q;have rm:=nm r hr;have lc:l≠c:=am
   have rc:r≠c:=am
   have J:=xa w k 74 ac
   have hlen:=xJ w k 74;have ad:=K6 w k
   have V:n r=none:=by
    cases e:n r with
    |none=>rfl
    |some x=>have:=z r x e rm;grind
   have W:lQ w (k+1)=lQ w k+yv (dF w k):=by unfold lQ;rw[zU,ET];rfl
   generalize L:BC.mk _ _ _ _ _ _ _ _ _=al;refine fS func113 rfl rfl rfl (GW hs hO (i:=(k:Int)) ac (y:=.fn (.yield l) [] []) (I:=λj f=>je w mb f/\f l=some (.loop al)/\f c=some (.cells [Xn (lQ w k+yv ((dF w k).take j))])/\∀d x,(a.set r (.raw (.deferred (some [])))) d=some x->d≠mb->d≠c->f d=some x) ⟨rfl,rfl⟩ ?_ ?_ ?_ ?_ ?_)
   . rintro j f a7 ⟨R,t,u,C⟩ P a8
     exact⟨a8,P _ _ t lm,P _ _ u cm,λd x g p o=>P _ _ (C d x g p o) p⟩
   . grind
   . rintro j hj f K ⟨R,t,u,C⟩ a9
     have M:=J _ (lb hj);have ab:=Oz (l:=(dF w k).take j) λx hx=>J x (P1 hx)
     have av:((dF w k).take j).length<=74:=FL (List.length_take_le _ _) (by unfold dF at hj;omega)
     have B:yv ((dF w k).take (j+1))=yv ((dF w k).take j)+((dF w k)[j].2-(dF w k)[j].1+1):=by rw[so hj,xv]
     generalize yv ((dF w k).take j)=S at u ab B;obtain⟨x1,x2⟩:=S1 ((dF w k)[j]:Int × Int);rw[<-x2]at M B ⊢;obtain⟨ra,rb⟩:=x1;simp only at M B;subst L;refine cQ.AM (η:=[]) U func17 t rfl ?_;apply rn;simp[rf];refine bz.intro λq hq=>?_
     simp
     change aa _ _ _ _ _ _ _ _ _
     refine aa.runN Ax [] 1 ?_;simp
     change aa _ _ _ _ _ _ _ _ _
     refine aa.bj 8 (b:=q) (fe (ra,rb)) (af.aj _ _ _) ap rfl ?_
     rw[cy hq];refine aa.beginRound t rfl ?_;have cl:∀x,(f.set l x) c=some (.cells [Xn (lQ w k+S)]):=λx=>(af.ah _ _ (vj lc)).trans u
     apply rn;simp[cl,T];refine⟨ac,ac,ac,?_⟩
     refine⟨rfl,rfl,_,(af.ah _ _ lc).trans (af.aj _ _ _),?_⟩
     have N:∀X Y Z d x,d≠l->d≠c->f d=some x->(((f.set l X).set c Y).set l Z) d=some x:=λX Y Z d x g p o=>by rw[af.ah _ _ g,af.ah _ _ p,af.ah _ _ g];omega
     refine a9 _ ⟨R.mono λd x hd _ p o _=>N _ _ _ d x (λe=>by rw[e,t]at hd;exact o _ (KE hd).symm) (λe=>by rw[e,u]at hd;exact p _ (KE hd).symm) hd,af.aj _ _ _,(af.ah _ _ (vj lc)).trans ((af.aj _ _ _).trans am),λd x g p o=>?_⟩
     have dl:d≠l:=λe=>by rw[e,af.ah _ _ (vj A),Q]at g;cases g
     exact N _ _ _ d x dl o (C d x g p o)
   . have O:∀d x,a d=some x->((a.set r (.raw (.deferred (some [])))).set l (.loop al)) d=some x:=λd x hd=>by
      have n1:d≠l:=λe=>am
      have n2:d≠r:=λe=>am
      rw[af.ah _ _ n1,af.ah _ _ n2];omega
     refine⟨hB.mono λd x hd _ _ _ _=>O d x hd,af.aj _ _ _,(O _ _ F).trans (by simp[yv]),λd x g _ _=>?_⟩
     exact(af.ah _ _ λe=>by rw[e,af.ah _ _ (vj A),Q]at g;cases g).trans g
   . rintro f ⟨R,t,u,C⟩
     rw[zH,<-W]at u;subst L;refine⟨_,t,ap,rfl,?_⟩
     apply rn;simp[yo];have h:∀d x,d≠l->f d=some x->(f.del l) d=some x:=λd x g p=>by simp only[af.del,g,LK];omega
     have η:∀d x,a d=some x->d≠mb->d≠c->(f.del l) d=some x:=λd x g p o=>h d x (λe=>am) (C d x ((af.ah _ _ λe=>am).trans g) p o)
     refine⟨ac,ih _ ac ⟨_,_,r::ds,rfl,by simp[e1,e4,T,Ay],R.mono λd x hd _ _ o _=>h d x (λe=>by rw[e,t]at hd;exact o _ (KE hd).symm) hd,h _ _ (vj lc) u,List.nodup_cons.2 ⟨λq=>?_,G⟩,λd hd=>?_,λd x hd hm=>?_⟩⟩
     . grind
     . rcases Cv.1 hd with rfl|hd
       . exact⟨h _ _ A (C _ _ (af.aj _ _ _) rm rc),V⟩
       . obtain⟨q1,q2⟩:=H d hd
         exact⟨η d _ q1 (E d q2) (λe=>am),q2⟩
     . exact η d x (z d x hd hm) hm (λe=>am)
 . have ek:k=w.fair.ao.length:=ac
   subst ek;refine GY Ax ds _ G am λa7 o=>⟨[Xn (lQ w w.fair.ao.length),Xn 0],by simp[jy],?_⟩
   refine .less (λd x hd=>?_) (.done hK)
   have q1:=v.less z d x hd;rw[o d λq=>?_]
   . omega
   . have:=(H d q).2
     have h0:=v.less (.refl mb n) d x hd
     grind
def zw{a b}(p:a.length<1152921504606846976)(hb:b.length<1152921504606846976)(h:KF (.val (T0 (decide (a=b)))) σ):ar prog m 58 [Ae a,Ae b] σ KF:=by
 refine S0 afm func58 ?_;simp[f58];apply aM.intro<;>intro e<;>simp at e<;>simp[e]
 . have:a≠b:=am
   simp[this]at h;exact .done h
 refine aa.loop a.length (λk=>MY σ λε=>ε 0=Ae a/\ε 1=Ae b/\ε 12=Xn a.length/\ε 13=Xn k/\a.take k=b.take k) aq ?_;rintro r k _ t ⟨ε,rfl,f,g,iQ,c,i⟩ l;have n:a.length=b.length:=ac
 apply rn;simp[iQ,c];apply aM.intro<;>intro j<;>simp at j<;>simp[f,g,c,j]
 . have o:k<b.length:=ac
   simp[o];apply rn;simp;by_cases u:a[k]=b[k]
   . have q:(a[k]!=b[k])=false:=am
     simp[c,q];refine⟨ac,l _ ac ⟨_,rfl,by simp[f],by simp[g],by simp[iQ],ap,?_⟩⟩
     grind [List.take_succ_eq_append_getElem]
   . have q:(a[k]!=b[k])=true:=am
     have d:a≠b:=am;simp[d]at h;simp[q];exact .done h
 . have ek:k=a.length:=ac
   subst ek;rw[zH,n,zH]at i;simp[i]at h;exact .done h
def foundAt(w:bF)(c:Int)(h i:Nat):Prop:=fV w h i c=1/\∀a b:Nat,(a<h\/a=h/\b<i)->b<w.fair.ao.length->fV w a b c≠1
def Gh(z:m.solo=true){w}(F:w.pq)(A:w.Open){c}(G:0<=c/\c<3)(R:dR w [] [] [c]=0)(H:∀h i ,h<73->i<w.fair.ao.length->foundAt w c h i->KF (.val (.cx [Xn h,Xn i,Xn 0])) σ)
 (I:(∀f b:Nat,f<73->b<w.fair.ao.length->fV w f b c≠1)->KF (.val (.cx [Xn 0,Xn 0,Xn 11])) σ):ar prog m 40 [aT w,Xn c] σ KF:=by
 have J:Wl [aT w,fa,fa,.sl 1 [Xn c] .exact] [aT w,Ae [],Ae [],Ae [c]]:=E9 (.refl _) (bK 1) (bK 1) (eo 1 _ _);have S:=A.jo.1;refine S0 [] func40 ?_;simp[f40];refine bp func51 rfl rfl J (kM z F ap ac λq g fb mb u=>?_);apply rn;simp;refine aa.loop 73 (λk s=>∃ε a,s=⟨ε,a,[],.no⟩/\(ε 1=Xn c/\ε 2=.cp (aT w) 0/\ε 9=.fn (.func 100) [xN fb mb w 0] []/\ε 24=Xn k)/\je w mb a/\jR mb g a/\∀f b:Nat,f<k->b<w.fair.ao.length->fV w f b c≠1) ⟨_,_,rfl,ap,u.BW,.refl mb g,ac⟩ ?_;rintro T k _ K ⟨ε,a,rfl,⟨n,o,p,O0⟩,t,d,v⟩ L;apply rn;simp[O0];apply aM.intro<;>intro B<;>simp at B<;>simp[o,O0,B]
 . refine aa.loop w.fair.ao.length (λj s=>∃ε a,s=⟨ε,a,[],.no⟩/\(ε 1=Xn c/\ε 2=.cp (aT w) 0/\ε 9=.fn (.func 100) [xN fb mb w 0] []/\ε 24=Xn k/\ε 10=Xn k/\ε 30=Xn w.fair.ao.length/\ε 31=Xn j)/\je w mb a/\jR mb g a/\∀b:Nat,b<j->fV w k b c≠1) ⟨_,_,rfl,by simp[n,o,p,O0],t,d,ac⟩ ?_
   rintro U j _ V ⟨ε,a,rfl,⟨n,o,p,O0,er,r,l⟩,t,d,C⟩ x;apply rn;simp[r,l];apply aM.intro<;>intro D<;>simp at D<;>simp[n,p,O0,er,l,D]
   . refine fS func100 rfl rfl rfl (K0 z A ac G t λy M N=>?_)
     have e:=d.trans N;by_cases E:fV w k j c=1
     . rw[show EL (fV w k j c)=.pH 150 (.agg [])by rw[E];rfl]
       apply rn;simp[er];refine .less (u.less e) (.done (H k j ac ac ⟨E,λf b q O=>?_⟩))
       grind
     . have P:GV (fV w k j c)≠150:=by unfold GV;grind
       apply rn;simp[l,P];refine⟨ac,x _ ac ⟨_,y,rfl,(by simp[n,o,p,O0,er,r]),M,e,λb q=>?_⟩⟩
       grind
   . have Q:j=w.fair.ao.length:=ac
     subst Q;refine⟨ac,L _ ac ⟨_,a,rfl,(by simp[n,o,p]),t,d,λf b q O=>?_⟩⟩
     grind
 . have ek:k=73:=ac
   subst ek;exact .less (u.less d) (.done (I v))
def qU  w   h :(dc w h).length<=w.fair.ao.length:=by
 unfold dc
 grind
def bF.only(w:bF)(l:RQ):bF:={w with ak:=l.filterMap λc=>w.ak[c.toNat]?}
abbrev rX(w:bF)(a:AV):We:=[kg w.fair.ao,Cu w.fair.roads,Xn w.fair.bs,Xn w.fair.fN,Xn w.fair.dN,Xn w.fair.bc,Xn w.aX,rW w.ways,a]
def zE  w   a b :(rX w a).set 8 b=rX w b:=rfl
def ajE{w wb a}(b:σ wb=some (.cells (rX w a)))(h:KF (.val (.cx [])) (σ.set wb (.cells (xP w)))):ar prog m 132 [.cp (kr w.ak) 0,.cp (.ref wb 0) 0] σ KF:=by
 refine S0 [] func132 ?_;simp[b];exact .done h
namespace CW
abbrev afs:YA:=[⟨7,.take [0,1,2,3,5,6,7,8,11,12] false (.both 4 (MU [9,10,13] .done) (MU [9] (.take [4] true (MU [10,13] .done))))⟩]
abbrev afu:YA:=[⟨0,.take [3] false (MU [0,1,2,4,5] .done)⟩]
def VP{w wb l}(L:∀c∈l,0<=c/\c<w.ak.length)(S:l.length<=1000){F t}(I:FC)(B:σ wb=some (.cells (xP w)))
 (M:∀a g K,Tok (σ.del wb) g a 8 ((w.only l).ak.map cK)->g wb=some (.cells (rX w a))->(∀σ2,σ2 wb=some (.cells (rX w a))->I σ2->K (.val (.cx [])) σ2)->cQ prog m (.fn F [] t) [] g K)
 (h:∀σ2,I σ2->KF (.val (.cx [])) (σ2.set wb (.cells (xP w)))):ar prog m 89 [.ref wb 0,Ae l,.fn F [] t] σ KF:=by
 refine ar.ME Ax [] afs 12 3 func89 rfl rfl (by rfl) s8 ?_
 simp[f89,B];refine bz.intro λC u=>?_
 have T:wb≠C:=am
 simp
 change aa _ _ _ _ _ _ _ _ _
 refine aa.bj 6 (b:=C) (kr w.ak) (af.aj _ _ _) ap rfl ?_
 rw[cy u];apply rn;simp;refine aa.defer rfl rfl rfl rfl ap rfl ?_
 apply rn;simp[B];refine aa.loop l.length (λk s=>∃ε d a,s=⟨ε,d,[.call (.func 132) [.cp (kr w.ak) 0,.cp (.ref wb 0) 0] []],.no⟩/\(ε 2=.fn F [] t/\ε 3=.cp (.ref wb 0) 0/\ε 6=.cp (kr w.ak) 0/\ε 17=Ae l/\ε 18=Xn l.length/\ε 19=Xn k)/\Tok (σ.del wb) d a 8 ((w.only (l.take k)).ak.map cK)/\d wb=some (.cells (rX w a))) ⟨_,_,.lit (.slice none 0 0),rfl,ap,⟨?_,.inl ⟨rfl,by simp[bF.only]⟩⟩,af.aj _ _ _⟩ ?_
 . intro c x D
   have N:c≠wb:=λe=>by subst e;simp[af.del]at D
   simp only[af.del,N,LK]at D
   grind [af.ah]
 rintro U k _ V ⟨ε,d,a,rfl,⟨E,G,H,j,qP,xn⟩,n,i⟩ O
 apply rn;simp[qP,xn];apply aM.intro<;>intro r<;>simp at r<;>simp[E,G,H,j,xn,r]
 . have P:=L l[k] (lb r)
   have v:((w.only (l.take k)).ak.map cK).length<=k:=by
    rw[zD];refine FL (List.length_filterMap_le _ _) ?_
    grind
   have y:(w.only (l.take (k+1))).ak.map cK=(w.only (l.take k)).ak.map cK++[cK w.ak[l[k].toNat]]:=by simp only[bF.only];rw[so r,List.filterMap_append,DL];simp[kn (show l[k].toNat<w.ak.length by omega)]
   have z:bG a≠some wb:=λe=>by obtain⟨_,x,q⟩:=n.bH e;simp_all
   simp[i,P];refine⟨?_,?_⟩
   all_goals
    refine aP Ax rfl rfl rfl wI rfl wI rfl HP be (by simp only[zD,Ds,Dv]at v ⊢;omega) (σ0:=d.off a) (es:=(w.only (l.take k)).ak.map cK) (xs:=[cK w.ak[l[k].toNat]]) (by simpa using n.here.1) (.inr ⟨_,rfl⟩) λJ σ2 f=>?_
    rw[<-y]at f;have o:σ2 wb=some (.cells (rX w a)):=f.1 _ _ ((af.hQ z).trans i);have A:=f.cells;have p:bG J≠some wb:=λe=>by obtain⟨_,x,q⟩:=f.bH e;rw[o]at q;cases q
    apply pg;simp[o,A];apply rn;simp[xn];refine⟨ac,O _ ac ⟨_,_,J,rfl,by simp[E,G,H,j,qP],(f.base n.here.2).beside (by simp[af.del]) p,af.aj _ _ _⟩⟩
 . have ek:k=l.length:=ac
   subst ek;rw[zH]at n;refine M a d _ n i λσ2 Q R=>?_
   apply rn;simp;refine xT.func func132 rfl rfl (ajE Q ?_);exact⟨[],rfl,.done (h σ2 R)⟩
def adS{w l a}(d:a.W (kr (w.only l).ak)):(AV.agg (rX w a)).W (aT (w.only l)):=ig rfl λi x y c b=>by
 change (rX w _)[i]?=some y at b;rw[<-zE w a]at b;by_cases e:i=8
 . simp_all
 . rw[Fp (vj e),c]at b
   cases b;exact .refl _
def Ix(f:m.solo=true){w wb c a l e x}(g:(w.only l).Open)(d:w.ways.length<1152921504606846976/\(∀x∈w.ways,uv w.aX x)/\1<=w.aX/\w.aX<=4)(k:EJ (w.only l))(t:e.length<1000000)(n:σ wb=some (.cells (rX w a)))(o:a.W (kr (w.only l).ak))(p:σ c=some (.cells [x]))
 (h:∀σ2,σ.Le σ2->KF (.val (.cx [])) (σ2.set c (.cells [T0 (decide (dc (w.only l) 72=e))]))):ar prog m 90 [.ref wb 0,.cp (Ae e) 0,.ref c 0] σ KF:=by
 have u:=g.jo.1;have i:=qU (w.only l) 72;have q:Wl [.agg _] [aT _]:=.cons (adS o) .nil;refine S0 afu func90 ?_;simp[n];refine bp func91 rfl rfl q (Am f d.1 d.2.1 d.2.2 k λr fb mb j=>?_);apply pg;simp;refine O1 func57 (zx f g j.BW λσ2 v s=>?_);apply pg;simp;have b:=j.less s;refine O1 func58 (zw ac ac ?_);apply pg;simp[b _ _ p];apply rn;simp;exact .done (h σ2 b)
end CW
def aeH(t:m.solo=true){w wb l e}(u:(w.only l).Open)(v:w.ways.length<1152921504606846976/\(∀x∈w.ways,uv w.aX x)/\1<=w.aX/\w.aX<=4)(y:EJ (w.only l))(z:e.length<1000000)(j:∀c∈l,0<=c/\c<w.ak.length)(A:l.length<=1000)(B:σ wb=some (.cells (xP w)))
 (h:KF (.val (T0 (decide (dc (w.only l) 72=e)))) σ):ar prog m 88 [Ae l,.ref wb 0,.cp (Ae e) 0] σ KF:=by
 refine ar.start Ax [5] [] 3 func88 rfl rfl (by rfl) s8 ?_;simp[f88];refine bz.intro λf C=>?_
 have k:wb≠f:=am;simp;have o:(σ.set f (.cells [T0 false])) wb=some (.cells (xP w)):=(af.ah _ _ k).trans B;refine O1 func89 (CW.VP j A (λb=>∃d:af,(∀c x,σ c=some x->c≠wb->d c=some x)/\b=d.set f (.cells [T0 (decide (dc (w.only l) 72=e))])) o (λa p K r g D=>?_) ?_)
 . have s:p f=some (.cells [T0 false]):=r.1 _ _ (by simp[af.del,vj k])
   refine fS func90 rfl rfl rfl (CW.Ix t u v y z g r.W s λb i=>?_);refine D _ ((af.ah _ _ k).trans (i _ _ g)) ⟨b,λc x E n=>i _ _ (r.1 _ _ ?_),rfl⟩;simp  [af.del,n]
   grind [af.ah]
 . rintro b ⟨d,q,rfl⟩
   have F:((d.set f (.cells [T0 (decide (dc (w.only l) 72=e))])).set wb (.cells (xP w))) f=some (.cells [T0 (decide (dc (w.only l) 72=e))]):=(by simp_all [af.ah,vj]);refine aa.run Ax [5] ?_;simp[F];refine .less (λc x E=>?_) (.done h);by_cases e:c=wb
   . simp_all
   grind [af.ah]
def fK(x:RQ):Nat:=match x.getLast? with|none=>0|some v=>v.toNat+1
def nxt(n:Nat)(x:RQ):Wz:=(List.range' (fK x) (n-fK x)).map λ(j:Nat)=>x++[(j:Int)]
def yJ(n:Nat):Nat->Wz
 |0=>[[]]
 |k+1=>(yJ n k).flatMap (nxt n)
def HT  n :∀k,∀x∈yJ n k,x.length=k/\(∀c∈x,0<=c/\c<n)/\fK x<=n
 | 0,x,a=>by
   have:x=[]:=by simpa[yJ]using a
   subst this;simp[fK]
 | k+1,x,a=>by
   simp  [yJ,nxt,CR]at a;obtain⟨y,b,j,d,rfl⟩:=a;obtain⟨e,f,g⟩:=HT n k y b;refine⟨am,λc h=>?_,?_⟩
   . grind
   . simp[fK];omega
def EN  n :∀M:Wz,(M.flatMap (nxt n)).length<=M.length*n
 |[]=>ap
 | x::M=>by
   have:=EN n M;rw[Mh,zR,Ds,Kj];have:(nxt n x).length<=n:=by simp[nxt]
   omega
def HS  n :∀k,(yJ n k).length<=n ^ k
 |0=>by simp[yJ]
 |k+1=>by have a:=EN n (yJ n k);have b:=HS n k;exact FL a (IQ n b)
def veq{x}(h:0<x.length)(a:∀c∈x,0<=c):x[x.length-1]?=some ((fK x:Int)-1):=by
 have b:=a x[x.length-1] (lb _);unfold fK
 grind
def Ft(n:Nat)(G:RQ->Bool):RQ:=(((List.range (n+1)).flatMap (yJ n)).find? G).getD (fT n)
def N6{n k i G}(a:k<n+1)  hi  (b:∀k'<k,∀x∈yJ n k',G x=false) (c:∀x∈(yJ n k).take i,G x=false) (h:G (yJ n k)[i]=true):Ft n G=(yJ n k)[i]:=by
 unfold Ft
 have e:List.range (n+1)=List.range k++k::List.range' (k+1) (n-k):=by rw[Lg,Lg,show n+1=k+(n-k+1)by omega,<-List.range'_append_1,IC];rfl
 have d:((List.range k).flatMap (yJ n)).find? G=none:=am
 have f:(yJ n k).find? G=some (yJ n k)[i]:=by
  have g:yJ n k=(yJ n k).take i++(yJ n k)[i]::(yJ n k).drop (i+1):=aq
  grind
 grind
def Ye{n G}(a:∀k'<n+1,∀x∈yJ n k',G x=false):Ft n G=fT n:=by
 unfold Ft
 grind [List.find?_eq_none]
abbrev ti(M:Wz):We:=M.map Ae
def cQ.Di{P m b args args' σ KF}(h:cQ P m b args' σ KF)(c:Wl args args'):cQ P m b args σ KF:=λQ k O cf a fr cs d e f g i j l n=>h Q k O cf a fr cs d (e.Di c) f g i j l n
def ajD{n:Nat}(hn:n<=3){G f}(aL:f.cells=[f])(a7:f.flat=true)(hf:∀  l   σ'   K ,(∀c∈l,0<=c/\c<(n:Int))->l.length<=n->σ.Le σ'->K (.val (T0 (G l))) σ'->cQ prog m f [Ae l] σ' K){xs:RQ}(hx:xs.length=n)(a8:∀  j  (q:j<xs.length),xs[j]=j)(h:KF (.val (Ae (Ft n G))) σ):ar prog m 87 [.agg [f],Ae xs] σ KF:=by
 refine S0 [] func87 ?_
 simp[f87];refine⟨a7,ac,?_⟩
 refine aa.Fs 5 (a':=.sl 1 (ti (yJ n 0)) .any) ?_ ?_
 . change AV.W (.sl 1 [.nil] .exact) (.sl 1 [Ae []] .any)
   exact S5 rfl ap ap (by grind [bK])
 refine aa.loop (n+1) (λk s=>∃ε σ',s=⟨ε,σ',[],.no⟩/\(ε 1=Ae xs/\ε 2=.cp (.agg [f]) 0/\ε 5=.sl 1 (ti (yJ n k)) .any/\ε 17=Xn ((n:Int)+1)/\ε 18=Xn k)/\σ.Le σ'/\∀k'<k,∀x∈yJ n k',G x=false) ⟨_,_,rfl,by simp[hx],af.le_refl _,ap⟩ ?_
 rintro c0 k _ hk ⟨ε,σ',rfl,⟨o,r,e5,g,qP⟩,J,L⟩ ih
 have hM:=HT n k;obtain⟨M,A⟩:=S1 (yJ n k);rw[<-A]at hM e5;apply rn;simp[g,qP];apply aM.intro<;>intro g1<;>simp at g1<;>simp[o,e5,g1]
 . have aO:M.length<=27:=by
    rw[A];exact FL (HS n k) (FL (Nat.pow_le_pow_left hn k) (KQ (n:=3) be (show k<=3 by omega)))
   refine aa.loop M.length (λi s=>∃ε σ' a,s=⟨ε,σ',[],.no⟩/\(ε 1=Ae xs/\ε 2=.cp (.agg [f]) 0/\ε 17=Xn ((n:Int)+1)/\ε 18=Xn k/\ε 20=.sl 1 (ti M) .any/\ε 21=Xn M.length/\ε 22=Xn i/\ε 6=a)/\Tok σ σ' a 1 (ti ((M.take i).flatMap (nxt n)))/\∀x∈M.take i,G x=false) ⟨_,_,.nil,rfl,by simp[o,r,g,qP],⟨J,.inl ⟨rfl,ap⟩⟩,ap⟩ ?_
   rintro c1 i _ hi ⟨ε,σ',a,rfl,⟨o,r,g,qP,Ay,yo,BS,u⟩,Z,D⟩ a9
   apply rn;simp[yo,BS];apply aM.intro<;>intro N<;>simp at N<;>simp[qP,Ay,BS,u,N]
   . obtain ⟨ab,B,ad⟩:=hM _ (lb N)
     have al:=EN n (M.take i);have aF:((M.take i).flatMap (nxt n)).length<=200:=FL al (FL (Nat.mul_le_mul (by rw[HX];omega:(M.take i).length<=27) hn) be)
     obtain⟨x,C⟩:=S1 (M[i]);rw[<-C]at ab B ad;simp only[<-C];refine aa.loop x.length (λj s=>∃ε t b,s=⟨ε,t,[],.no⟩/\(ε 1=Ae xs/\ε 2=.cp (.agg [f]) 0/\ε 17=Xn ((n:Int)+1)/\ε 18=Xn k/\ε 20=.sl 1 (ti M) .any/\ε 21=Xn M.length/\ε 22=Xn i/\ε 6=a/\ε 8=Ae x/\ε 26=Ae x/\ε 27=Xn x.length/\ε 28=Xn j/\ε 9=b)/\Tok σ' t b 1 ((x.take j).map Xn)) ⟨_,_,.nil,rfl,by simp[o,r,g,qP,Ay,yo,BS,u],.nil σ' 1⟩ ?_
     rintro c2 j _ hj ⟨ε,t,b,rfl,⟨o,r,g,qP,Ay,yo,BS,u,z,O,P,F,e9⟩,v⟩ av
     apply rn;simp[P,F];apply aM.intro<;>intro g3<;>simp at g3<;>simp[o,r,O,F,e9,g3]
     . have g4:=B _ (lb g3)
       have g5:x[j].toNat<xs.length:=ac
       have g6:(xs[x[j].toNat]:Int)=x[j]:=by rw[a8 _ g5];omega
       have g7:x[j]<(xs.length:Int):=ac
       simp[g4,g7,g6];have H:(x.take (j+1)).map Xn=(x.take j).map Xn++[Xn x[j]]:=by rw[so g3,DL];rfl
       refine aP Ax rfl rfl rfl bX rfl bX rfl nM be (by simp only[zD,HX,Ds,Dv];omega) (σ0:=σ') (es:=(x.take j).map Xn) (xs:=[Xn x[j]]) (by simpa using v) (.inr ⟨_,rfl⟩) λa' p Q=>?_
       rw[<-H]at Q;apply rn;simp[F];refine⟨ac,av _ ac ⟨_,_,a',rfl,by simp[o,r,g,qP,Ay,yo,BS,u,z,O,P],Q⟩⟩
     . have ej:j=x.length:=ac
       subst ej;rw[zH]at v;have R:=Z.up v.1;have E:=R.1;refine cQ.Di (hf x t _ B ac E ?_) (.cons v.W .nil)
       have S:G x=true->Ae (Ft n G)=Ae x:=λq=>by
        rw[N6 (i:=i) ac am L (by rw[<-A];omega) am]
        grind
       cases hG:G x with
       |true=>rw[S hG]at h;apply rn;simp[e9,aM];refine .dp v.W (.less E (.done h))
       | false=>
         by_cases gl:0<x.length
         have ax:=veq gl λc hc=>(B c hc).1
         have gx:0<=(x.length:Int)-1/\(x.length:Int)-1<x.length/\1<=(x.length:Int):=ac
         apply rn;simp[z,aM,gl,gx,ax];refine⟨ac,ac,?_⟩
         refine aa.lh (λe s=>(e 1=Ae xs/\e 2=.cp (.agg [f]) 0/\e 17=Xn ((n:Int)+1)/\e 18=Xn k/\e 20=.sl 1 (ti M) .any/\e 21=Xn M.length/\e 22=Xn i/\e 6=a/\e 8=Ae x/\e 13=Xn (fK x))/\s=t) ⟨by simp[o,r,g,qP,Ay,yo,BS,u,z],rfl⟩ ?_
         rotate_left
         have ay:fK x=0:=by
          have:x=[]:=MM.1 ac
          subst this;rfl
         apply rn;simp[z,aM,gl];refine aa.lh (λe s=>(e 1=Ae xs/\e 2=.cp (.agg [f]) 0/\e 17=Xn ((n:Int)+1)/\e 18=Xn k/\e 20=.sl 1 (ti M) .any/\e 21=Xn M.length/\e 22=Xn i/\e 6=a/\e 8=Ae x/\e 13=Xn (fK x))/\s=t) ⟨by simp[o,r,g,qP,Ay,yo,BS,u,z,ay],rfl⟩ ?_
         rotate_left
         all_goals
          rintro ε _ ⟨⟨o,r,g,qP,Ay,yo,BS,u,z,w⟩,rfl⟩
          refine aa.loop (n-fK x) (λd s=>∃ε p a',s=⟨ε,p,[],.no⟩/\(ε 1=Ae xs/\ε 2=.cp (.agg [f]) 0/\ε 17=Xn ((n:Int)+1)/\ε 18=Xn k/\ε 20=.sl 1 (ti M) .any/\ε 21=Xn M.length/\ε 22=Xn i/\ε 6=a'/\ε 8=Ae x/\ε 13=Xn ((fK x:Int)+d))/\Tok σ p a' 1 (ti ((M.take i).flatMap (nxt n)++(List.range' (fK x) d).map λ(j:Nat)=>x++[(j:Int)]))) ⟨_,_,a,rfl,by simp[o,r,g,qP,Ay,yo,BS,u,z,w],by simpa using R⟩ ?_
          rintro c3 d _ hd ⟨ε,p,a',rfl,⟨o,r,g,qP,Ay,yo,BS,u,z,w⟩,T⟩ aC
          apply rn;simp[o,w];apply aM.intro<;>intro g6<;>simp at g6<;>simp[BS,u,z,g6]
          . refine pN Ax rfl bX rfl nM (es:=x.map Xn) (sp:=.any) (l:=0) (h:=x.length) ap (λcap U=>⟨⟨⟨.i64,ap⟩,by simpa using U⟩,⟨⟨.i64,ap⟩,AK _⟩,rfl⟩) ap λb2 V=>?_
            have X:Tok p p b2 1 (x.map Xn):=by
             rw[IB,IL ap]at V
             rcases V with rfl|⟨e,rfl⟩
             . exact .exact _ _ _
             . rw[e];exact .nil _ _
            apply rn;simp[w];refine aP Ax rfl rfl rfl bX rfl bX rfl nM be (by simp only[zD,Ds,Dv];omega) (σ0:=p) (es:=x.map Xn) (xs:=[Xn ((fK x:Int)+d)]) (by simpa using X) (.inr ⟨_,rfl⟩) λa2 aW I=>?_
            have H:x.map Xn++[Xn ((fK x:Int)+d)]=(x++[((fK x+d:Nat):Int)]).map Xn:=by rw[DL,Int.natCast_add];rfl
            rw[H]at I;refine aa.Fs 71 (a':=Ae (x++[((fK x+d:Nat):Int)])) (show AV.W a2 _ from I.W) ?_
            apply rn;simp
            have aE:ti ((M.take i).flatMap (nxt n)++(List.range' (fK x) (d+1)).map λ(j:Nat)=>x++[(j:Int)])=ti ((M.take i).flatMap (nxt n)++(List.range' (fK x) d).map λ(j:Nat)=>x++[(j:Int)])++[Ae (x++[((fK x+d:Nat):Int)])]:=by rw[List.range'_1_concat,DL,<-List.append_assoc,ti,DL];rfl
            refine aP Ax rfl rfl rfl sA rfl sA rfl bX be (by simp only[zD,zR,List.length_range',Ds,Dv];omega) (σ0:=σ) (es:=ti ((M.take i).flatMap (nxt n)++(List.range' (fK x) d).map λ(j:Nat)=>x++[(j:Int)])) (xs:=[Ae (x++[((fK x+d:Nat):Int)])]) (by simpa using T.up I.1) (.inr ⟨_,rfl⟩) λa3 b0 Y=>?_
            rw[<-aE]at Y;apply rn;simp[w];refine⟨ac,aC _ ac ⟨_,_,a3,rfl,by simp[o,r,g,qP,Ay,yo,BS,z,Int.add_assoc],Y⟩⟩
          . have ed:d=n-fK x:=ac
            subst ed;refine⟨ac,a9 _ ac ⟨_,_,a',rfl,by simp[o,r,g,qP,Ay,yo,u],?_,λy hy=>?_⟩⟩
            . rw[so N,Fe,Ml,<-C]
              exact T
            . rw[so N,<-C]at hy
              rcases E4.1 hy with hy|hy
              . exact D y hy
              . rw[sN.1 hy];exact hG
   . have ei:i=M.length:=ac
     subst ei;rw[zH]at Z D;refine⟨ac,?_⟩
     refine aa.Fs 5 (a':=.sl 1 (ti (yJ n (k+1))) .any) ?_ (ih _ ac ⟨_,_,rfl,by simp[o,r,g],Z.1,λk' q x hx=>?_⟩)
     . change AV.W a _
       have:=Z.W;rw[A]at this;exact this
     grind
 . have ek:k=n+1:=ac
   subst ek;have e:xs=fT n:=Mf am am
   rw[Ye L,<-e]at h;exact .less J (.done h)
def zI(w:bF):RQ:=Ft w.ak.length λl=>decide (dc (w.only l) 72=dc w 72)
def ajA{w:bF}(a:w.Valid){l}(b:l.length<=w.ak.length):EJ (w.only l):=by
 refine⟨FL (List.length_filterMap_le _ _) (FL b a.jS.1),λc d=>a.jS.2 c ?_⟩;obtain⟨i,_,h⟩:=List.mem_filterMap.1 d
 grind
def DI(f:m.solo=true){w}(g:w.pq)(k:w.Open)(hSub:∀l ,(∀c∈l,0<=c/\c<(w.ak.length:Int))->l.length<=w.ak.length->(w.only l).Open)(s:dR w [] [] []=0)(t:KF (.val (.cx [Ae (zI w),Xn 0])) σ):ar prog m 35 [aT w] σ KF:=by
 have u:Wl [aT w,fa,fa,fa] [aT w,Ae [],Ae [],Ae []]:=E9 (.refl _) (bK 1) (bK 1) (bK 1);have v:=k.jo;have n:=qU w 72;refine ar.start Ax [1] [] 1 func35 rfl rfl (by rfl) s8 ?_;simp[f35];refine bz.intro λwb y=>?_
 simp;refine bp func51 rfl rfl u (kM f g ap ac λq z fb mb o=>?_);refine aa.run Ax [1] ?_;simp;refine O1 func57 (zx f k o.BW λh E A=>?_);have a:=o.less A;refine aa.runN Ax [1] 3 ?_;simp;refine bz.intro λB i=>?_
 simp;refine aa.bj 6 (b:=B) (Ae (dc w 72)) (af.aj _ _ _) ap rfl ?_;rw[cy i];have d:h wb=some (.cells (xP w)):=a _ _ (af.aj _ _ _);refine aa.run Ax [1] ?_;simp[d];refine O1 func92 (xu ac ?_);refine aa.run Ax [1] ?_;simp;have j:w.Valid:=bF.valid g (by unfold dR at s;omega);refine O1 func87 (ajD v.2 rfl ap (G:=λl=>decide (dc (w.only l) 72=dc w 72)) (λl C K p r e D=>fS func88 rfl rfl rfl (aeH f (hSub l p r) ⟨g.ways,j.way,j.aX⟩ (ajA j r) ac p ac (e _ _ d) D)) (iF _) am ?_);refine aa.run Ax [1] ?_;simp;exact .less (λc x F=>a _ _ (by grind [af.ah])) (.done t)
def HJ{P Q:Prop}(f:P->Q)(p:P):Q:=f p
abbrev lN(r:RQ × Int):AV:=.agg [Ae r.1,Xn r.2]
def lastT(l:RQ):Int:=l.getLast?.getD 0
def Bg(w:bF)(r:RQ × Int)(k:Nat):Bool:=decide (fj w.ways r.2 (lastT r.1) k<1048576) && !decide ((k:Int)∈r.1)
def mS(w:bF)(r:RQ × Int)(n:Nat):JD:=((List.range n).filter (Bg w r)).map λ(k:Nat)=>(r.1++[(k:Int)],fj w.ways r.2 (lastT r.1) k)
def sB(w:bF)(r:RQ × Int):JD:=if lastT r.1=0 then[]else mS w r w.aX.toNat
def vl(w:bF)(r0:RQ × Int):Nat->JD
 |0=>[r0]
 |k+1=>(vl w r0 k).flatMap (sB w)
def Fu(w:bF)(best:Int)(r:RQ × Int):Bool:=decide (lastT r.1=0) && decide (r.2=best)
def rY(w:bF)(c:Nat)(a:Az):Ke:=((List.range w.aX.toNat).flatMap (vl w ([a.town],a.hour))).find? (Fu w (bP w c))
def uD{a b c d e l}(h:KF (.val (bn ⟨a,b,c,l,d,e⟩)) σ):ar prog m 105 [Xn a,Xn b,Xn c,Xn d,Xn e,Ae l] σ KF:=by
 refine S0 [] func105 ?_;simp;refine bz.intro λk f=>?_
 simp;exact .less (by grind [af.le_refl,af.bZ]) (.done h)
def Iy{a b c d e}(h:KF (.val (fG ⟨a,b,c,d,e⟩)) σ):ar prog m 106 [Xn a,Xn b,Xn c,Xn d,Xn e] σ KF:=by
 refine S0 [] func106 ?_;simp;refine bz.intro λk f=>?_
 simp[aI];exact .less (by grind [af.le_refl,af.bZ]) (.done h)
def VQ:List vU:=[⟨10,0,1,[0],15,0⟩,⟨12,0,1,[],16,1⟩,⟨14,0,2,[],14,0⟩,⟨16,0,1,[],14,0⟩]
def EO:FH:=[⟨0,1,4,6,20⟩,⟨1,2,1,0,72⟩,⟨2,0,2,0,72⟩]
def adT:Fr:=⟨VQ,[[0,2],[2,0]],1,2,3,3⟩
def Q6:Az:=⟨⟨4,1,1,[0],15,0⟩,1,5⟩
def lW(n:Nat):bF:=⟨adT,3,EO.take n,[Q6]⟩
def GZ{n}(y:n<=3)(h:KF (.val (aT (lW n))) σ):ar prog m 44 [Xn n] σ KF:=by
 have u:∀a b c d e:Int,∀l:RQ,Wl [Xn a,Xn b,Xn c,Xn d,Xn e,.sl 1 (l.map Xn) .exact] [Xn a,Xn b,Xn c,Xn d,Xn e,Ae l]:=λa b c d e l=>.cons (.refl _) (.cons (.refl _) (.cons (.refl _) (.cons (.refl _) (.cons (.refl _) (.cons (eo 1 _ .exact) .nil)))))
 have q:∀a b c d e:Int,Wl [Xn a,Xn b,Xn c,Xn d,Xn e,.lit (.slice none 0 0)] [Xn a,Xn b,Xn c,Xn d,Xn e,Ae []]:=λa b c d e=>.cons (.refl _) (.cons (.refl _) (.cons (.refl _) (.cons (.refl _) (.cons (.refl _) (.cons (bK 1) .nil)))))
 refine S0 afj func44 ?_
 simp[f44];refine bz.intro λwb r=>?_
 simp;refine bp func105 rfl rfl (u 10 0 1 15 0 [0]) (uD ?_);apply rn;simp;refine bp func105 rfl rfl (q 12 0 1 16 1) (uD ?_);apply rn;simp;refine bp func105 rfl rfl (q 14 0 2 14 0) (uD ?_);apply rn;simp;refine bp func105 rfl rfl (q 16 0 1 14 0) (uD ?_);refine aa.runN Ax [] 9 ?_;simp[aI];refine bz.intro λfb j=>?_
 obtain⟨z,A,v⟩:=af.bd j;simp[aI]
 change aa _ _ _ _ _ _ _ _ _
 refine aa.bj 3 (b:=fb) (.agg [.sl 6 (VQ.map bn) .exact,.sl 1 [.sl 1 [Xn 0,Xn 2] .exact,.sl 1 [Xn 2,Xn 0] .exact] .exact,Xn 1,Xn 2,Xn 3,Xn 3]) (af.aj _ _ _) ap rfl ?_
 rw[cy j];apply rn;simp;refine O1 func106 (Iy ?_);apply rn;simp;refine O1 func106 (Iy ?_);apply rn;simp;refine O1 func106 (Iy ?_);apply rn;simp;obtain⟨L,w⟩:=S1 ((EO.take n).map fG);have t:((EO.map fG).drop 0).take (n-0)=L:=aq
 have xO:(σ.set wb (.cells [.nil,.nil,Xn 0,Xn 0,Xn 0,Xn 0,Xn 0,.nil,.nil])) wb=some (.cells [.nil,.nil,Xn 0,Xn 0,Xn 0,Xn 0,Xn 0,.nil,.nil]):=af.aj _ _ _;have k:n<=(EO.map fG).length:=by simp[EO];omega
 apply HJ
 . intro key
   repeat' first
    |refine⟨?_,?_⟩
    | (refine uP Ax rfl Cr rfl Ps (es:=EO.map fG) (sp:=.exact) (l:=0) (h:=n) (by simp[EO]) (λcap o=>⟨rfl,⟨⟨.i64,ap⟩,FL k o⟩,rfl⟩) k ?_
       rw[t];apply pg;simp[aI])
    | (refine bp func105 rfl rfl (u 4 1 1 15 0 [0]) (uD ?_)
       apply pg;simp[aI])
   all_goals
    refine aa.lh (λe s=>e 2=.ref wb 0/\s=σ.set wb (.cells [.sl 6 (VQ.map bn) .exact,.sl 1 [.sl 1 [Xn 0,Xn 2] .exact,.sl 1 [Xn 2,Xn 0] .exact] .exact,Xn 1,Xn 2,Xn 3,Xn 3,Xn 3,.sl 5 L .any,.sl 8 [cK Q6] .exact])) ⟨ap,rfl⟩ ?_
    exact key
 rintro ε _ ⟨x,rfl⟩
 apply rn;simp[x]
 have p:(AV.sl 1 [AV.sl 1 [Xn 0,Xn 2] .exact,.sl 1 [Xn 2,Xn 0] .exact] .exact).W (Cu [[0,2],[2,0]]):=adN rfl aq aq (λi a a' f g=>by
  match i with
  |0=>grind [eo]
  |1=>simp at f g;grind [eo]
  |i+2=>grind)
 refine .less (af.bZ (af.le_refl _) r) (.dp (a':=aT (lW n)) (ig rfl λi a a' f g=>?_) (.done h))
 match i with
 |0=>cases f;cases g;exact eo 6 _ .exact
 |1=>cases f;cases g;exact p
 |2=>cases f;cases g;exact .refl _
 |3=>cases f;cases g;exact .refl _
 |4=>cases f;cases g;exact .refl _
 |5=>cases f;cases g;exact .refl _
 |6=>cases f;cases g;exact .refl _
 |7=>cases f;cases g;rw[w];exact .refl _
 |8=>cases f;cases g;exact eo 8 _ .exact
 |i+9=>cases f
end
section
open Go Go.bu Go.Conc
def OA(f:Fr):Bool:=decide (f.ao.length<100) && decide (f.roads.length<100) && f.roads.all (λr=>decide (r.length<100)) && f.ao.all (λe=>decide (e.marks.length<100))
theorem EP{f}(h:OA f=true):f.Fits:=by simp  [OA,wK]at h;exact⟨ac,ac,am,am⟩
def K8(f:Fr):Bool:=OA f && decide (check f=0)
def VR{f}(h:K8 f=true):f.Good:=by
 simp  [K8,vc]at h
 grind [Fr.wA,EP]
def vD(h:Int):Int:=if h<0 then -1 else if 72<h then 72 else h
def VS  h :∃k:Nat,k<74/\vD h=(k:Int)-1:=by refine⟨(vD h+1).toNat,?_,?_⟩<;>(unfold vD;split<;>(try split)<;>omega)
def Ni(w:bF):Bool:=(fT w.fair.ao.length).all (λi=>decide (0<=(aU w.fair i).hour) && decide ((aU w.fair i).hour<=72)) && (fT w.ak.length).all λi=>decide (0<=bP w i.toNat)
def aeG{w}(a:Ni w=true)  h :kE w h=kE w (vD h)/\kC w h=kC w (vD h):=by
 simp only[Ni]at a
 have c:aH w h=aH w (vD h):=Ff λx b=>by
  unfold pE vD
  grind
 have d:aQ w h=aQ w (vD h):=Ff λx b=>by
  unfold pC vD
  grind
 grind
def O4(w:bF)(p:Int × Int):Bool:=(aB p.1).all (λi=>decide (0<=i) && decide (i<w.fair.ao.length)) && (aB p.2).all (λi=>decide (0<=i) && decide (i<w.ak.length)) && K8 (cJ w (aB p.1) (aB p.2)) && decide (aG (cJ w (aB p.1) (aB p.2)) []≠[])
def adV{w p}(h:O4 w p=true):w.Bk p.1 p.2:=by simp  [O4,LF]at h;exact⟨h.1.1.1,h.1.1.2,VR h.1.2,h.2⟩
def Zo(w:bF)(L:Iu):Bool:=decide (w.fair.ao.length<=6) && decide (w.ak.length<=3) && Ni w && (List.range 74).all (λk=>L.contains (kE w ((k:Int)-1),kC w ((k:Int)-1))) && L.all (O4 w)
def Iz{w L}(h:Zo w L=true):w.Open:=by
 simp only[Zo,vc,wK]at h;refine⟨⟨h.1.1.1.1,h.1.1.1.2⟩,λt=>?_⟩;obtain⟨a,b⟩:=aeG h.1.1.2 t;obtain⟨k,c,ek⟩:=VS t;rw[a,b,ek];exact adV (p:=(kE w _,kC w _)) am
def Zp(w:bF):Bool:=K8 w.fair && w.ak.all (λc=>OA (lone w.fair c.lost) && decide (check (lone w.fair c.lost)=0)) && decide (w.ways.length<100) && decide (w.ak.length<100)
def OB{w}(h:Zp w=true):w.pq:=by simp  [Zp,K8,LF]at h;obtain⟨⟨⟨⟨a,b⟩,c⟩,d⟩,e⟩:=h;exact⟨EP a,b,(by grind [EP]),ac,ac⟩
def Yf:(lW 2).pq/\(lW 3).pq:=⟨OB v3,OB v3⟩
def OC:(lW 2).Open/\(lW 3).Open:=⟨Iz (L:=[(0,0),(0,1),(1,0),(1,1),(3,1),(7,1),(15,1)]) v3,Iz (L:=[(0,0),(0,1),(1,1),(3,1),(7,1),(15,1)]) v3⟩
end
section
open Go Go.bu Go.Conc
variable{m:Mo}{σ:af}{KF:YC}
def aaz:Ky prog 25 3:=.of s8 s8 s8 s8
namespace SR
abbrev afw:YA:=[⟨4,.take (MX 0 8) false (MU [8] .done)⟩]
def yc{a b}(w:a.length<1152921504606846976)(hb:b.length<1152921504606846976)(h:KF (.val (T0 (decide (a=b)))) σ):ar prog m 16 [oH a,oH b] σ KF:=by
 refine S0 afw func16 ?_;simp[f16];refine aa.loop a.length (λk=>MY σ λε=>ε 0=oH a/\ε 1=oH b/\ε 5=Xn k/\k<=b.length/\a.take k=b.take k) ⟨_,rfl,ap⟩ ?_;rintro z k _ A ⟨ε,rfl,g,j,i,p,q⟩ r;apply rn;simp[g,i];refine xj.intro (λf=>?_) (λf=>?_)<;>(try simp[-Nat.not_lt,-Nat.not_le]at f)<;>(try simp[g,j,i,f])
 . refine aM.intro (λl=>?_) (λl=>?_)<;>(try simp[-Nat.not_lt,-Nat.not_le]at l)<;>(try simp[g,j,i,l,f])
   . obtain⟨x,t⟩:=S1 (a[k])
     obtain⟨y,u⟩:=S1 (b[k]);simp only[<-t,<-u];refine GD Ax aaz nM rfl rfl (a:=x.1) (b:=x.2) (c:=y.1) (d:=y.2) ap ap (.inr ⟨rfl,rfl⟩) ?_;have v:(!(x.1==y.1 && x.2==y.2))=!decide (x=y):=am
     rw[v];by_cases o:x=y
     . apply pg
       simp[o];apply rn;simp[i];have B:a[k]=b[k]:=am
       refine⟨ac,r _ f ⟨_,rfl,by simp[g],by simp[j],ap,ac,?_⟩⟩
       grind [List.take_succ_eq_append_getElem]
     . have:a≠b:=am
       simp[this]at h;apply pg;simp[o];apply rn;simp;exact .done h
   . have:a≠b:=am
     have n:((a.length:Int)==b.length)=false:=am
     rw[n];exact .done am
 . have:k=a.length:=ac
   subst this;rw[zH]at q;by_cases e:a.length=b.length
   . have:a=b:=am
     exact .done am
   . have:a≠b:=am
     have n:((a.length:Int)==b.length)=false:=am
     rw[n];exact .done am
end SR
def VT:dR (lW 3) [] [] [0]=0/\dR (lW 3) [14] [] []=0/\dR (lW 3) [] [1] []=0/\dR (lW 2) [] [] []=0/\dR (lW 3) [] [] []=0:=v3
def Yg:bP (lW 3) 0=8/\dc (lW 3) 14=[0,1]/\dF (lW 3) 1=[(12,15)]/\lQ (lW 2) (lW 2).fair.ao.length=67/\zI (lW 3)=[0]:=v3
def VU:fV (lW 3) 16 0 0=1/\((List.range 16).all λh=>(List.range 4).all fun  i=>decide (fV (lW 3) (h:Nat) i 0≠1))=true:=v3
def aaA:∀l ,(∀c∈l,0<=c/\c<((lW 3).ak.length:Int))->l.length<=(lW 3).ak.length->((lW 3).only l).Open:=λl d g=>by
 have f:l=[]\/l=[0]:=by
  match l with
  |[]=>grind
  | [a]=>
    have:=d a ap;have e:(lW 3).ak.length=1:=rfl
    grind
  | a::b::t=>
    have e:(lW 3).ak.length=1:=rfl
    grind
 rcases f with rfl|rfl
 . exact Iz (L:=[(0,0),(1,0),(3,0),(7,0),(15,0)]) v3
 . exact OC.2
def stU:(∀h i ,h<73->i<(lW 3).fair.ao.length->foundAt (lW 3) 0 h i->h=16/\i=0)/\¬(∀a b:Nat,a<73->b<(lW 3).fair.ao.length->fV (lW 3) a b 0≠1):=by
 obtain⟨f1,d⟩:=VU;have e:(lW 3).fair.ao.length=4:=rfl;refine⟨λh i f g c=>?_,λq=>q 16 0 ac ac f1⟩;simp only[LF,wK]at d;by_cases j:h<16
 . exact absurd c.1 am
 . by_cases k:h=16/\i=0
   . omega
   . exact absurd f1 (c.2 16 0 ac ac)
def jd(d:m.solo=true)(h:KF (.val (T0 true)) σ):ar prog m 9 [] σ KF:=by
 have e:∀(σ:af) (KF:YC),KF (.val (aT (lW 3))) σ->ar prog m 44 [Xn 3] σ KF:=λσ KF h=>GZ (n:=3) be h
 have k:∀(σ:af) (KF:YC),KF (.val (aT (lW 2))) σ->ar prog m 44 [Xn 2] σ KF:=λσ KF h=>GZ (n:=2) be h
 obtain⟨j,z,C,l,o⟩:=VT;obtain⟨p,q,r,s,t⟩:=Yg;obtain⟨f1,D⟩:=stU;obtain⟨u,f⟩:=Yf;obtain⟨v,g⟩:=OC;have sub:=aaA;generalize lW 3=A at *;generalize lW 2=B at *;refine S0 [] func9 ?_;simp[f9];refine O1 func44 (e _ _ ?_);apply rn;simp;refine O1 func29 (BX d f (c:=0) be j ?_);rw[p,wN be];apply rn;simp;refine O1 func44 (e _ _ ?_);apply rn;simp;refine O1 func24 (JL d f g ac λ_=>?_);rw[q];apply rn;simp;refine O1 func44 (e _ _ ?_);apply rn;simp;refine O1 func14 (Gl d f g be ac λ_=>?_);rw[r];apply rn;simp;refine O1 func44 (e _ _ ?_);apply rn;simp;refine O1 func40 (Gh d f g be j (λh i w x y=>?_) am)
 obtain⟨rfl,rfl⟩:=f1 h i w x y;apply rn;simp;refine O1 func44 (k _ _ ?_);apply rn;simp;refine O1 func17 (Gj d u v l ?_);rw[s];apply rn;simp;refine O1 func44 (e _ _ ?_);apply rn;simp;refine O1 func35 (DI d f g sub o ?_);rw[t];apply rn;simp;refine bp func28 rfl rfl (.cons (.refl _) (.cons (by grind [eo]) .nil)) (iM (a:=[0,1]) (b:=[0,1]) ap ap ?_);apply rn;simp;refine bp func16 rfl rfl (.cons (.refl _) (.cons (by grind [eo]) .nil)) (SR.yc (a:=[(12,15)]) (b:=[(12,15)]) ap ap ?_);apply rn;simp;refine bp func28 rfl rfl (.cons (.refl _) (.cons (by grind [eo]) .nil)) (iM (a:=[0]) (b:=[0]) ap ap ?_);apply rn;simp;exact .done h
end
section
open Go.bu Go.Conc
variable{m:Mo}{σ:af}{KF:YC}
def Cd{e}(d:e.marks.length<=1000000000)(h:KF (.val (bn e)) σ):ar prog m 49 [bn e] σ KF:=by
 refine ar.start Ax [1] [] 1 func49 rfl rfl (by rfl) s8 ?_;simp;refine bz.intro λg i=>?_
 simp;refine bz.intro λj a=>?_
 obtain⟨f,b,a⟩:=af.bd a;simp[b,af.ah];refine O1 func111 (Ev d ?_);refine aa.run Ax [1] ?_;simp[f,b,af.ah];refine .less (λc x k=>?_) (.done h)
 grind [af.ah]
def ER{r}(u:r.length<=1000000)(v:∀l∈r,l.length<=1000000000)(h:KF (.val (Cu r)) σ):ar prog m 110 [Cu r] σ KF:=by
 refine ar.thaw ?_;refine S0 [] func110 ?_;simp[f110];refine z8 Ax rfl sA rfl bX rfl be rfl rfl (n:=r.length) ap ap ⟨ac,ac⟩ λb hb=>?_
 apply rn;simp;refine aa.loop r.length (λi s=>∃ε,s=⟨ε,σ.set b (.cells (List.take i (List.map Ae r)++List.replicate (r.length-i) (.lit (.slice none 0 0)))),[],.no⟩/\ε 0=Cu r/\ε 3=.mJ b 0 r.length r.length/\ε 4=Xn i) aq ?_;rintro w i _ y ⟨ε,rfl,g,j,c⟩ z;rcases za i r.length with g1|g1
 . have k:(i:Int)<r.length:=ac
   have f1:=M1 ((i:Int)+1)
   apply rn;simp[g,j,c,g1];refine O1 func111 (Ev am ?_);have d:i+1<=min i r.length+(r.length-i):=ac
   have a:List.take i (List.take i (List.map Ae r)++List.replicate (r.length-i) (AV.lit (.slice none 0 0)))++AV.sl 1 (List.map Xn r[i]) .any::List.drop (i+1) (List.take i (List.map Ae r)++List.replicate (r.length-i) (AV.lit (.slice none 0 0)))=List.take (i+1) (List.map Ae r)++List.replicate (r.length-(i+1)) (.lit (.slice none 0 0)):=by
    have o:(List.take i (List.map Ae r)).length=i:=am
    obtain⟨q,A⟩:∃q,r.length-i=q+1:=⟨r.length-i-1,ac⟩;have p:r.length-(i+1)=q:=ac
    simp_all [List.drop_append,List.drop_eq_nil_of_le,Nat.add_sub_cancel_left,so,MG]
   apply rn;simp[c,g1,f1.1,f1.2,aI,d,a]
   simp_all
 . have f:i=r.length:=ac
   subst f;apply rn;simp[g,j,c];refine .done (cV.thaw (σ0:=σ) (kk:=1) (es:=r.map Ae) ⟨af.oi (af.le_refl _) hb,.inr ⟨b,r.length,[],ap,hb,ap,λe t=>?_,?_,ap⟩⟩ h)
   . obtain⟨x,_,rfl⟩:=CR.1 t
     rfl
   simp_all [iC,CR,xx,IL]
def sQ{P m φ n ro η K todo D rc}{G:Prop}(I:FI)
 (a:(∀ε σ,I ε σ->aa P m φ n ro η todo ⟨ε,σ,D,rc⟩ K)->G) (b:∀ε σ,I ε σ->aa P m φ n ro η todo ⟨ε,σ,D,rc⟩ K):G:=a b
abbrev VV:We:=[.lit (.slice none 0 0),.lit (.slice none 0 0),Xn 0,Xn 0,Xn 0,Xn 0]
def afT{f}(T:f.ao.length<=1000)(P:∀e∈f.ao,e.marks.length<=1000000000)(z:f.roads.length<=1000000)(A:∀r∈f.roads,r.length<=1000000000)(h:KF (.val (bR f)) σ):ar prog m 48 [bR f] σ KF:=by
 refine S0 afk func48 ?_
 simp[f48];refine bz.intro λp U=>?_
 simp;apply sQ (I:=λε σ'=>∃c,σ c=none/\c≠p/\ε 1=.cp (bR f) 0/\ε 2=.ref p 0/\ε 3=.ref c 0/\σ'=(σ.set p (.cells VV)).set c (.cells [.lit (.slice none 0 0),Cu f.roads,Xn f.bs,Xn f.fN,Xn f.dN,Xn f.bc]))
 . intro d
   refine⟨?_,?_⟩
   . refine O1 func110 (ER z A ?_)
     apply pg;simp[aI];refine⟨?_,?_⟩
     . refine qB.intro λc g=>?_
       obtain⟨t,G,g⟩:=af.bd g;simp[aI];exact d _ _ ⟨c,g,t,ap⟩
     . refine qB.intro λc g=>?_
       obtain⟨t,G,g⟩:=af.bd g;simp[aI];exact d _ _ ⟨c,g,t,ap⟩
   . refine qB.intro λc g=>?_
     obtain⟨t,G,g⟩:=af.bd g;simp;refine O1 func110 (ER z A ?_);apply pg;simp[aI];exact d _ _ ⟨c,g,t,ap⟩
 . rintro ε σ' ⟨c,g,t,n,u,o,rfl⟩
   have G:p≠c:=vj t;apply rn;simp;have Q:Tok σ ((σ.set p (.cells VV)).set c (.cells [.lit (.slice none 0 0),Cu f.roads,Xn f.bs,Xn f.fN,Xn f.dN,Xn f.bc])) (.lit (.slice none 0 0)) 6 []:=(Tok.nil σ 6).up (by grind [af.oi,af.le_refl,af.ah])
   refine aa.loop f.ao.length (λi s=>∃ε σ' a,s=⟨ε,σ',[],.no⟩/\ε 1=.cp (bR f) 0/\ε 2=.ref p 0/\ε 3=.ref c 0/\ε 4=Xn i/\σ' p=some (.cells VV)/\σ' c=some (.cells [a,Cu f.roads,Xn f.bs,Xn f.fN,Xn f.dN,Xn f.bc])/\Tok σ σ' a 6 ((f.ao.take i).map bn))
    ⟨_,_,.lit (.slice none 0 0),rfl,by simp[n],by simp[u],by simp[o],ap,by grind [af.ah,af.aj],af.aj _ _ _,am⟩ ?_
   clear n u o Q
   rintro V i _ X ⟨ε,σ',a,rfl,n,u,o,B,J,H,b⟩ R
   have v:=b.cells;have K:∀y l,σ' y=some (.cells l)->bG a≠some y:=λy l C e=>by obtain⟨_,_,q⟩:=b.bH e;grind
   rcases za i f.ao.length with g1|g1
   . have S:(i:Int)<f.ao.length:=ac
     have f1:=M1 ((i:Int)+1)
     apply rn;simp[n,o,B,H,g1]
     repeat' (first
               |apply And.intro
               | (refine O1 func49 (Cd (P _ (lb g1)) ?_)
                  apply pg;simp[n,u,o,B,J,H,v.1,v.2,g1])
               | (refine aP Ax rfl rfl rfl kG rfl kG rfl vb be F2 (σ0:=σ'.off a) (es:=(f.ao.take i).map bn) (xs:=[bn f.ao[i]]) (by simpa using b.here.1) (.inr ⟨_,by simp;rfl⟩) λa' D w=>?_
                  have E:=w.cells;have M:∀y l,σ' y=some (.cells l)->D y=some (.cells l):=λy l C=>w.1 _ _ (by rw[af.hQ (K y l C)];exact C)
                  have N:=M _ _ H;have O:=M _ _ J;apply pg;simp[n,u,o,B,O,N,E.1,E.2,aI]))
     all_goals (
      apply rn;simp[B,f1.1,f1.2]
      have F:Tok σ D a' 6 ((f.ao.take (i+1)).map bn):=by have:=w.base b.here.2;rw[so g1,DL];simpa using this
      exact R _ g1 ⟨_,_,a',rfl,by simp[n],by simp[u],by simp[o],ap,by rw[af.ah _ _ G];exact O,af.aj _ _ _,F.beside g (λe=>by obtain⟨_,_,q⟩:=F.bH e;rw[N]at q;cases q)⟩)
   . have L:i=f.ao.length:=ac
     subst L;rw[zH]at b;apply rn;simp[n,u,o,B,J,H,v.2,aI];refine .less (σ':=σ) (λy x C=>?_) (.dp (a':=bR f) (ig rfl λi x y j k=>?_) (.done h))
     . rw[af.ah _ _ (λe=>am)]
       exact b.1 y x C
     . match i with
       |0=>simp at j k;subst j;subst k;exact b.W
       |1=>simp at j k;subst j;subst k;exact .refl _
       |2=>simp at j k;subst j;subst k;exact .refl _
       |3=>simp at j k;subst j;subst k;exact .refl _
       |4=>simp at j k;subst j;subst k;exact .refl _
       |5=>simp at j k;subst j;subst k;exact .refl _
       |i+6=>simp at j
def adW:Ky prog 25 3:=.of s8 s8 s8 s8
def ahN{f}(a:f.Good):jl f=((aG f []).length:Int):=by
 by_cases d:2<=f.ao.length
 . grind [EF]
 have e:jl f=1:=by unfold jl;omega
 rw[e];have g:=a.bc;have b:(min ((0:Int)+1) f.bc).toNat=1:=ac
 have c:iY f (cM 0 0)=true:=by
  have:aB (cM 0 0)=[0]:=v3
  unfold iY
  simp_all [Vt]
 rcases(show f.ao.length=0\/f.ao.length=1 by omega)with hn|hn
 . unfold aG;rw[hn];simp[eu]
 . unfold aG;rw[hn]
   unfold eu;rw[b];simp[c,eu]
namespace MA
end MA
def aeB{r}(g:r.length<1152921504606846976)(b:∀l∈r,l.length<1152921504606846976)(h:KF (.val (T0 true)) σ):ar prog m 116 [Cu r,Cu r] σ KF:=by
 refine S0 adi func116 ?_;simp[f116];refine aa.loop r.length (λi=>MY σ λε=>ε 0=Cu r/\ε 1=Cu r/\ε 5=Xn i) ⟨_,rfl,ap⟩ ?_;rintro j i _ k ⟨ε,rfl,c,d,e⟩ n;rcases za i r.length with g1|g1
 . have a:(i:Int)<r.length:=ac
   have f1:=M1 ((i:Int)+1)
   apply rn;simp[c,d,e,g1,a];refine O1 func28 (iM (b _ (lb g1)) (b _ (lb g1)) ?_);apply pg;simp;apply rn
   simp_all
 . have f:¬(i:Int)<r.length:=ac
   apply rn;simp[c,d,e,f];exact .done h
def uE{e}(a:e.marks.length<1152921504606846976)(h:KF (.val (T0 true)) σ):ar prog m 117 [bn e,bn e] σ KF:=by
 refine S0 [] func117 ?_;simp[f117];refine O1 func28 (iM a a ?_);apply rn;simp;exact .done h
def abq{f}(e:f.Fits)(h:KF (.val (T0 true)) σ):ar prog m 60 [bR f,bR f] σ KF:=by
 have l:=e.ao;refine S0 afn func60 ?_;simp[f60];refine O1 func116 (aeB e.roads e.row ?_);apply rn;simp;refine GD Ax adW nM rfl (a:=f.bs) (b:=f.fN) (c:=f.bs) (d:=f.fN) (r:=false) rfl ap ap (.inr ⟨rfl,ap⟩) ?_;apply rn;simp;refine aa.loop f.ao.length (λi=>MY σ λε=>ε 2=.cp (bR f) 0/\ε 3=.cp (bR f) 0/\ε 5=Xn i) ⟨_,rfl,ap⟩ ?_;rintro p i _ q ⟨ε,rfl,j,n,k⟩ t;rcases za i f.ao.length with g1|g1
 . have g:(i:Int)<f.ao.length:=ac
   have f1:=M1 ((i:Int)+1)
   apply rn;simp[j,n,k,g1,g];refine O1 func117 (uE (e.marks _ (lb g1)) ?_);apply pg;simp;apply rn
   simp_all
 . have o:¬(i:Int)<f.ao.length:=ac
   apply rn;simp[j,k,o];exact .done h
namespace WI
abbrev afx:YA:=[⟨1,.take [1,4,7] false (.both 0 (.both 2 (.both 3 (MU [5,6,8] .done) (MU [5,3,6,8] .done)) (MU [5,2,3,6,8] .done)) (.both 2 (.both 0 (.both 3 (MU [5,6,8] .done) (MU [5,3,6,8] .done)) (MU [5,0,3,6,8] .done)) (MU [5] (.both 0 (MU [2,3,6,8] .done) (MU [2,0,3,6,8] .done)))))⟩]
def Yh{f:Fr}{n:vU}(O:f.ao.length<=1000)(h:KF (.val (bR (Ov f n))) σ):ar prog m 85 [bR f,bn n] σ KF:=by
 refine ar.start Ax [2] afx 2 func85 rfl rfl (by rfl) s8 ?_
 simp[f85];refine bz.intro λp F=>?_
 simp;refine bz.intro λw z=>?_
 obtain⟨A,B,z⟩:=af.bd z;simp[A,B,af.ah];generalize j:(σ.set p (.cells (vK f))).set w (.cells [AV.lit (.slice none 0 0),.lit (.slice none 0 0),Xn 0,Xn 0,Xn 0,Xn 0])=q;have C:q p=some (.cells (vK f)):=by subst j;simp[af.ah,af.aj,A,B]
 have G:q w=some (.cells [AV.lit (.slice none 0 0),.lit (.slice none 0 0),Xn 0,Xn 0,Xn 0,Xn 0]):=by subst j;simp[af.aj]
 apply sQ (I:=λε r=>∃o c,ε 2=.ref p 0/\ε 4=.ref w 0/\r=c.set p (.cells [o,Cu f.roads,Xn f.bs,Xn f.fN,Xn f.dN,Xn f.bc])/\Tok q c o 6 (f.ao.map bn++[bn n]))
 . intro k
   repeat' (first
             |apply And.intro
             | (refine aP Ax rfl rfl rfl kG rfl kG rfl vb be F2 (σ0:=q) (es:=[]) (xs:=f.ao.map bn) ⟨af.le_refl _,.inr (.inl rfl)⟩ (.inr ⟨_,by simp;rfl⟩) λP H l=>?_
                have s:=l.cells;have J:=l.1 _ _ C;apply pg;simp[s.1,s.2,J];refine aP Ax rfl rfl rfl kG rfl kG rfl vb be F2 (σ0:=q) (es:=f.ao.map bn) (xs:=[bn n]) (by simpa using l) (.inr ⟨_,by simp;rfl⟩) λo c a=>?_
                have d:=a.cells;have K:=a.1 _ _ C;apply pg;simp[d.1,d.2,K,aI];exact k _ _ ⟨o,c,ap,ap,rfl,by simpa using a⟩))
 rintro ε r ⟨o,c,L,M,rfl,a⟩
 have d:=a.cells;have N:=a.1 _ _ G;refine aa.run Ax [2] ?_;simp[L,M,d.1,d.2,N,af.ah,A,aI];refine .dp (a':=bR (Ov f n)) (ig rfl λi u v b g=>?_) (.less (λy x t=>?_) (.done h))
 . match i with
   |0=>obtain rfl:=KE b;obtain rfl:=KE g;have:=a.W;show o.W (.sl 6 ((f.ao++[n]).map bn) .any);rw[DL];exact this
   |1=>simp at b g;subst b;subst g;exact .refl _
   |2=>simp at b g;subst b;subst g;exact .refl _
   |3=>simp at b g;subst b;subst g;exact .refl _
   |4=>simp at b g;subst b;subst g;exact .refl _
   |5=>simp at b g;subst b;subst g;exact .refl _
   |i+6=>simp at b
 . have D:y≠p:=λe=>by subst e;rw[F]at t;cases t
   have E:y≠w:=λe=>by subst e;rw[z]at t;cases t
   rw[af.ah _ _ E,af.ah _ _ D];refine a.1 _ _ ?_;rw[<-j,af.ah _ _ E,af.ah _ _ D];exact t
end WI
end
section
open Go Go.bu Go.Conc
variable{m:Mo}{σ:af}{KF:YC}
def abm{c}(a:c.lost.marks.length<1152921504606846976)(h:KF (.val (T0 true)) σ):ar prog m 61 [cK c,cK c] σ KF:=by
 refine S0 [] func61 ?_;simp;refine O1 func117 (uE  a ?_);apply rn;simp;exact .done h
namespace WI7
abbrev afy:YA:=[⟨1,.take [1,4,7] false (.both 0 (.both 2 (.both 3 (MU [5,6,8] .done) (MU [5,3,6,8] .done)) (MU [5,2,3,6,8] .done)) (.both 2 (.both 0 (.both 3 (MU [5,6,8] .done) (MU [5,3,6,8] .done)) (MU [5,0,3,6,8] .done)) (MU [5] (.both 0 (MU [2,3,6,8] .done) (MU [2,0,3,6,8] .done)))))⟩]
def JR{w c}(L:w.ak.length<=1000)(h:KF (.val (aT {w with ak:=w.ak++[c]})) σ):ar prog m 46 [aT w,cK c] σ KF:=by
 refine ar.start Ax [2] afy 2 func46 rfl rfl (by rfl) s8 ?_
 simp[f46];refine bz.intro λn l=>?_
 simp;refine bz.intro λr s=>?_
 obtain⟨A,B,s⟩:=af.bd s;simp[B,af.ah];generalize f:(σ.set n (.cells (xP w))).set r (.cells [.lit (.slice none 0 0),.lit (.slice none 0 0),Xn 0,Xn 0,Xn 0,Xn 0,Xn 0,.lit (.slice none 0 0),.lit (.slice none 0 0)])=o;have t:o n=some (.cells (xP w)):=by subst f;grind [af.ah,af.aj]
 have C:o r=some (.cells [.lit (.slice none 0 0),.lit (.slice none 0 0),Xn 0,Xn 0,Xn 0,Xn 0,Xn 0,.lit (.slice none 0 0),.lit (.slice none 0 0)]):=by subst f;simp_all
 apply sQ (I:=λε p=>∃g b,ε 2=.ref n 0/\ε 4=.ref r 0/\p=b.set n (.cells (rX w g))/\Tok o b g 8 (w.ak.map cK++[cK c]))
 . intro j
   repeat' (first
             |apply And.intro
             | (refine aP Ax rfl rfl rfl wI rfl wI rfl HP be F2 (σ0:=o) (es:=[]) (xs:=w.ak.map cK) ⟨af.le_refl _,.inr (.inl rfl)⟩ (.inr ⟨_,by simp;rfl⟩) λM D k=>?_
                have q:=k.cells;have E:=k.1 _ _ t;apply pg;simp[q.1,q.2,E];refine aP Ax rfl rfl rfl wI rfl wI rfl HP be F2 (σ0:=o) (es:=w.ak.map cK) (xs:=[cK c]) (by simpa using k) (.inr ⟨_,by simp;rfl⟩) λg b a=>?_
                have d:=a.cells;have F:=a.1 _ _ t;apply pg;simp[d.1,d.2,F,aI];exact j _ _ ⟨g,b,ap,ap,rfl,by simpa using a⟩))
 rintro ε p ⟨g,b,G,H,rfl,a⟩
 have d:=a.cells;have J:=a.1 _ _ C;refine aa.run Ax [2] ?_;simp[G,H,d.2,J,af.ah,A,aI]
 have K:(AV.agg (rX w g)).W (aT {w with ak:=w.ak++[c]}):=ig rfl λi x y u l=>by
  change (rX w (kr (w.ak++[c])))[i]?=some y at l
  rw[<-zE w g]at l
  by_cases e:i=8
  . subst e
    cases u;cases l;have:=a.W
    grind
  . rw[Fp (vj e),u]at l
    cases l;exact .refl _
 refine .dp K (.less (λy x N=>?_) (.done h))
 have v:y≠n:=am
 have z:y≠r:=am
 rw[af.ah _ _ z,af.ah _ _ v];refine a.1 _ _ ?_;rw[<-f,af.ah _ _ z,af.ah _ _ v];omega
end WI7
def VW{k c}{l:EI}(h:V k c (.agg (l.map AV.lit))):c=.agg l.toArray:=by
 generalize a:l.map AV.lit=L at h;cases h with
 | agg c _ b d=>
   congr 1;refine Array.ext' (Ko λi=>?_);subst a;rw[zD]at b;by_cases e:i<l.length
   . have:=d i c[i] (.lit l[i]) ap am
     grind [mr]
   grind
namespace SW
abbrev afz:YA:=[⟨6,.take (MX 0 10) false (MU [10] .done)⟩,⟨11,.take (MX 0 10) false (MU [10] (MV [11]))⟩]
end SW
section
variable{c k:Nat}{nums:RQ}
namespace WY
abbrev adX:YA:=[⟨2,.take [0,2,3,4,7,9] false (.both 1 (MU [5] (.take [6,8] true (MU [10] .done))) (MU [5] (.take [1,6,8] true (MU [10] .done))))⟩]
def aaB{a b t:Int}(c:2<=t/\t<=4)(d:0<=a/\a<t)(hb:1<=b/\b<t):0<=(a+b).tmod t/\(a+b).tmod t<t/\(a+b).tmod t≠a:=by
 have:t=2\/t=3\/t=4:=ac
 grind
def VX{a t}(b:2<=t/\t<=4):vQ .rem .i64 a t=some (.int .i64 (a.tmod t)):=by simp[vQ];omega
def VY{t}(hk:k+7<1000000)(H:nums.length<1152921504606846976)(Y:2<=t/\t<=4)(hb:cq c nums k σ)(h:∀  x  σ',sD t x=0->vV c nums (k+7) σ σ'->KF (.val (fG x)) σ'):ar prog m 109 [.ref c 0,Xn t] σ KF:=by
 obtain⟨n0,s0,_,Z⟩:=id hb;refine S0 adX func109 ?_
 simp[f109];refine bz.intro λi h4=>?_
 have u:c≠i:=am
 have K:∀x,cq c nums k (σ.set i x):=λx=>⟨n0,s0,z0,by rw[af.ah _ _ u];exact Z⟩
 simp;have R:=M1 (t-1)
 simp[R.1,R.2];refine O1 func13 (gT ac H ac (K _) λd ax L J=>?_)
 apply rn;simp;refine O1 func108 (jH ac H ac ac J.1 λr v ay w=>?_)
 apply rn;simp;refine bz.intro λf h5=>?_
 have A:f≠c:=λe=>by subst e;obtain⟨_,_,_,q⟩:=w.1;grind
 have aC:∀y,y≠c->y≠i->v y=σ y:=λy o S=>by rw[w.2 y o,J.2 y o,af.ah _ _ S]
 have q4:v i=some (.cells [Xn 0,Xn 0,Xn 0,Xn 0,Xn 0]):=by rw[w.2 i (vj u),J.2 i (vj u),af.aj]
 have B:f≠i:=am
 have L:0<=d/\d<t:=ac
 apply sQ (I:=λε σ'=>∃b,(1<=b/\b<t)/\ε 0=.ref c 0/\ε 1=Xn t/\ε 4=.ref i 0/\ε 5=.ref f 0/\cq c nums (k+3) σ'/\σ' i=some (.cells [Xn 0,Xn 0,Xn 0,Xn 0,Xn 0])/\σ' f=some (.cells [Xn d,Xn ((d+b).tmod t),Xn r,Xn 0,Xn 0])/\∀y,y≠c->y≠i->y≠f->σ' y=σ y)
 . intro s
   simp[aI,R.1,R.2]
   have M:cq c nums (k+2) (v.set f (.cells [Xn d,Xn 0,Xn r,Xn 0,Xn 0])):=by obtain⟨n,z,C,g2⟩:=w.1;exact⟨n,z,C,by rw[af.ah _ _ (vj A)];omega⟩
   have fin:∀(b:Int) (g:af),1<=b/\(b<=t-1\/b=1)->vV c nums (k+2+1) (v.set f (.cells [Xn d,Xn 0,Xn r,Xn 0,Xn 0])) g->g f=some (.cells [Xn d,Xn 0,Xn r,Xn 0,Xn 0])/\(-9223372036854775808<=d+b/\d+b<=9223372036854775807)/\∀(ε:Env) (X:uK),ε 0=.ref c 0->ε 1=Xn t->ε 4=.ref i 0->ε 5=.ref f 0->X=.cells [Xn d,Xn ((d+b).tmod t),Xn r,Xn 0,Xn 0]->(∃b,(1<=b/\b<t)/\ε 0=.ref c 0/\ε 1=Xn t/\ε 4=.ref i 0/\ε 5=.ref f 0/\cq c nums (k+3) (g.set f X)/\(g.set f X) i=some (.cells [Xn 0,Xn 0,Xn 0,Xn 0,Xn 0])/\(g.set f X) f=some (.cells [Xn d,Xn ((d+b).tmod t),Xn r,Xn 0,Xn 0])/\∀y,y≠c->y≠i->y≠f->(g.set f X) y=σ y):=λb g p j=>by
    refine⟨by rw[j.2 f A,af.aj],ac,λε X T e1 U N eX=>⟨b,ac,T,e1,U,N,?_,?_,by rw[af.aj,eX],λy o S y3=>?_⟩⟩
    . obtain⟨n,z,C,g2⟩:=j.1
      exact⟨n,z,ac,by rw[af.ah _ _ (vj A)];omega⟩
    . rw[af.ah _ _ (vj B),j.2 i (vj u),af.ah _ _ (vj B)];omega
    . rw[af.ah _ _ y3,j.2 y o,af.ah _ _ y3];grind
   refine⟨?_,?_⟩
   . refine O1 func108 (jH ac H ac ac M λb g p j=>?_)
     obtain⟨g5,C,gI⟩:=fin b g p j;have V:=VX (a:=d+b) Y;apply pg;simp[g5,C.1,C.2,V,aI];exact s _ _ (gI _ _ ap ap ap ap rfl)
   . refine O1 func108 (jH ac H ac ac M λb g p j=>?_)
     obtain⟨g5,C,gI⟩:=fin b g p j;have V:=VX (a:=d+b) Y;apply pg;simp[g5,C.1,C.2,V,aI];exact s _ _ (gI _ _ ap ap ap ap rfl)
 rintro ε g ⟨b,p,T,e1,U,N,a7,u4,u5,a8⟩
 apply rn;simp[T];refine O1 func13 (gT ac H ac a7 λo aE aF D=>?_)
 apply rn;simp;refine O1 func96 (tg (l:=[0,0,o]) ac H ap D.1 λfr O aL E=>?_)
 have hf:0<=fr/\fr<=20:=am
 have v5:O f=some (.cells [Xn d,Xn ((d+b).tmod t),Xn r,Xn 0,Xn 0]):=by rw[E.2 f A,D.2 f A];omega
 have r2:=M1 (fr+20)
 apply rn;simp[T,N,v5,aI,r2.1,r2.2];obtain⟨W,a9,al⟩:∃W:Int,W=(if fr+20<72 then fr+20 else 72)/\fr<=W/\W<=72:=am
 rw[<-a9]
 have P:cq c nums (k+5) (O.set f (.cells [Xn d,Xn ((d+b).tmod t),Xn r,Xn fr,Xn 0])):=by obtain⟨n,z,C,g2⟩:=E.1;exact⟨n,z,ac,by rw[af.ah _ _ (vj A)];omega⟩
 refine O1 func108 (jH ac H ac ac P λS σ6 aO F=>?_)
 apply rn;simp;refine O1 func96 (tg (l:=[72,72,S]) ac H ap F.1 λtt Q ab G=>?_)
 have aW:fr<=tt/\tt<=72:=by simp at ab;omega
 have w5:Q f=some (.cells [Xn d,Xn ((d+b).tmod t),Xn r,Xn fr,Xn 0]):=by rw[G.2 f A,F.2 f A,af.aj]
 have w4:Q i=some (.cells [Xn 0,Xn 0,Xn 0,Xn 0,Xn 0]):=by rw[G.2 i (vj u),F.2 i (vj u),af.ah _ _ (vj B),E.2 i (vj u),D.2 i (vj u)];omega
 apply rn;simp[U,N,w5,w4,vj B,af.ah,aI];obtain⟨nb,zb,K,ad⟩:=G.1;have av:=aaB Y L p
 have hw:sD t ⟨d,(d+b).tmod t,r,fr,tt⟩=0:=by
  have e1:cz d 0 (t-1)=true:=by simp only[cz,vc,wK];omega
  have V:cz ((d+b).tmod t) 0 (t-1)=true:=by simp only[cz,vc,wK];omega
  have e3:cz r 1 12=true:=by simp only[cz,vc,wK];omega
  have U:cz fr 0 72=true:=by simp only[cz,vc,wK];omega
  have N:cz tt 0 72=true:=by simp only[cz,vc,wK];omega
  unfold sD
  grind
 refine .less (σ':=σ.set c (.cells [Ae nums,Xn nb,.lit (.int .u64 zb)])) (λy x hy=>?_) (.done (h ⟨d,(d+b).tmod t,r,fr,tt⟩ _ hw ⟨⟨nb,zb,ac,af.aj _ _ _⟩,(by grind [af.ah])⟩))
 have s5:σ f=none:=am
 by_cases o:y=c
 . subst o
   rw[af.aj]at hy;rw[af.ah _ _ u,af.ah _ _ (vj A),ad];omega
 . rw[af.ah _ _ o]at hy
   have y4:y≠i:=am
   have y5:y≠f:=am
   rw[af.ah _ _ y4,af.ah _ _ y5,G.2 y o,F.2 y o,af.ah _ _ y5,E.2 y o,D.2 y o,a8 y o y4 y5];omega
end WY
end
end
section
open Go.bu Go.Conc
variable{m:Mo}{σ:af}{KF:YC}
def qc(a b:RQ):RQ:=a.filter λx=>decide (x∉b)
def O3(a b:RQ):Int:=((qc a b).length:Int)+((qc b a).length:Int)
def EU{a b:RQ}{i}  h :qc (a.take (i+1)) b=qc (a.take i) b++if a[i]∈b then[]else[a[i]]:=by
 unfold qc;rw[so h,MK]
 grind
def uF  a b :(qc a b).length<=a.length:=Rp _ _
def stS{a b}(x:a.length<1000000)(hb:b.length<1000000)(h:KF (.val (Xn (O3 a b))) σ):ar prog m 147 [Ae a,Ae b] σ KF:=by
 refine S0 [] func147 ?_
 simp[f147];refine aa.loop a.length (λi=>MY σ λε=>ε 0=Ae a/\ε 1=Ae b/\ε 5=Xn ((qc (a.take i) b).length:Int)/\ε 6=Xn i) ⟨_,rfl,by simp[qc]⟩ ?_
 rintro u i _ v ⟨ε,rfl,k,l,d,n⟩ r
 rcases za i a.length with g1|g1
 . have t:(i:Int)<a.length:=ac
   have e:=uF (a.take i) b;rw[HX]at e;have f1:=M1 ((i:Int)+1)
   have o:=M1 (((qc (a.take i) b).length:Int)+1)
   have c:=EU (b:=b) g1;apply rn;simp[k,l,n,g1];refine O1 func146 (Ac ac ?_)
   by_cases q:a[i]∈b
   . rw[wS q,xx]at c
     have f:¬rN b a[i]<0:=by have:=(sk b a[i]).2 q;omega
     apply rn;simp[n,f,f1.1,f1.2]
     simp_all
   . rw[wN q]at c
     have f:rN b a[i]<0:=by
      rcases Int.lt_or_le (rN b a[i]) 0 with g|g
      . exact g
      . exact absurd ((sk b a[i]).1 g) q
     apply rn;simp[d,n,f,f1.1,f1.2,o.1,o.2]
     simp_all
 . have j:i=a.length:=ac
   subst j;rw[zH]at d;have w:=uF a b;apply rn;simp[k,n];refine aa.loop b.length (λi=>MY σ λε=>ε 0=Ae a/\ε 1=Ae b/\ε 5=Xn (((qc a b).length:Int)+((qc (b.take i) a).length:Int))/\ε 7=Xn i) ⟨_,rfl,by simp[k,l,qc,d]⟩ ?_
   clear k l d n r
   rintro u i _ v ⟨ε,rfl,k,l,d,p⟩ r
   rcases za i b.length with g1|g1
   . have t:(i:Int)<b.length:=ac
     have e:=uF (b.take i) a;rw[HX]at e;have f1:=M1 ((i:Int)+1)
     have o:=M1 (((qc a b).length:Int)+((qc (b.take i) a).length:Int)+1)
     have c:=EU (b:=a) g1;apply rn;simp[k,l,p,g1];refine O1 func146 (Ac ac ?_)
     by_cases q:b[i]∈a
     . rw[wS q,xx]at c
       have f:¬rN a b[i]<0:=by have:=(sk a b[i]).2 q;omega
       apply rn;simp[p,f,f1.1,f1.2]
       simp_all
     . rw[wN q]at c
       have f:rN a b[i]<0:=by
        rcases Int.lt_or_le (rN a b[i]) 0 with g|g
        . exact g
        . exact absurd ((sk a b[i]).1 g) q
       apply rn;simp[d,p,f,f1.1,f1.2,o.1,o.2];refine r _ g1 ⟨_,rfl,aq,aq,by simp[c,Int.add_assoc]⟩
   . have j:i=b.length:=ac
     subst j;rw[zH]at d;apply rn;simp[l,d,p];exact .done h
def G1{k}:∀  es   i   x ,i<es.length->(∀e∈es,e.cells.length=k)->x.cells.length=k->(RP es).take (i*k)++x.cells++(RP es).drop (i*k+k)=RP (es.set i x)
 | e::es,0,x,_,a,b=>by
   have c:=a e ap;rw[List.set_cons_zero,flatten_cons,flatten_cons]
   grind
 | e::es,i+1,x,g,a,b=>by
   have c:=a e ap;have d:=G1 es i x aq (λy f=>a y (by simp[f])) b;rw[List.set_cons_succ,flatten_cons,flatten_cons,<-d,Kj,Nat.one_mul,Mc,List.drop_append];rw[IL ac,List.drop_eq_nil_of_le ac,c,show i*k+k-k=i*k by omega,show i*k+k+k-k=i*k+k by omega];simp
def Ap{σ0 σ c σ' a kk es}(h:Tok σ0 σ a kk es)(d:c.Le σ')(hb:∀b,bG a=some b->σ' b=σ b/\c b=none):Tok c σ' a kk es:=by
 refine⟨d,?_⟩;rcases h.2 with q|q|⟨b,e,g,f,i⟩
 . exact .inl q
 . simp_all
 . obtain⟨j,k⟩:=hb b (by rw[f];rfl)
   grind
def OD{σ0 σ σ2 a kk es c}(h:cV σ0 σ a kk es)(i:σ0 c=none)(f:jJ a≠some c)(d:∀y,y≠c->σ2 y=σ y):cV σ0 σ2 a kk es:=h.keep (λy x g=>by rw[d y (λe=>aq)];exact h.1 y x g) λb hb=>⟨d b (λe=>f (e ▸ hb)),(h.rl hb).1⟩
def Yi{σ0 σ σ' a c j kk k m es n o}(h:Tok σ0 σ a kk es)(f:cV σ0 σ c k n)(g:cV (σ.Hq c) σ' j m o):Tok σ0 σ' a kk es:=
 Ap h (af.le_trans f.here.2 g.1) λb hb=>by
  obtain⟨p,e,i⟩:=h.bH hb;have d:jJ c≠some b:=λq=>by obtain⟨_,l,r⟩:=f.rl q;simp_all
  exact⟨by rw[i];exact g.1 b _ (by rw[af.xk d];exact i),p⟩
def Yj{σ0 σ σ' a c j kk k m es n o}(h:cV σ0 σ a kk es)(f:Tok σ0 σ c k n)(g:Tok (σ.off c) σ' j m o):cV σ0 σ' a kk es:=
 h.keep (af.le_trans f.here.2 g.1) λb hb=>by
  obtain⟨p,l,i⟩:=h.rl hb;have d:bG c≠some b:=λq=>by obtain⟨_,e,r⟩:=f.bH q;simp_all
  exact⟨by rw[i];exact g.1 b _ (by rw[af.hQ d];exact i),p⟩
def tj{ε:Env}{t u v}(h:u≠t):(ε.upd t v) u=ε u:=aq
def abx{ε:Env}{t v}:(ε.upd t v) t=v:=aq
structure OE(V:Nat->AV)(FK:Env)  σ6   c c13 K   nums   T  (X:Int->We) (done:ZB) (ε:Env)  σ :Prop where
 base:∀s,s<97->ε s=FK s
 rA:∀i,i∈done->i≠33->i≠34->i<36->ε (97+i)=V i
 pre:33∉done->σ=σ6
 post:33∈done->36∉done->cq c nums K σ/\∀y,y≠c->σ y=σ6 y
 pick:33∈done->∃p ,(0<=p/\p<=3)/\ε 130=Xn p/\(34∈done->ε 131=Xn (T+p))
 all:36∈done->∀j,j<36->j∈done
 dep:34∈done->33∈done
 fin:36∈done->∃p ,(0<=p/\p<=3)/\cq c nums K σ/\σ c13=some (.cells (X (T+p)))/\∀y,y≠c->y≠c13->σ y=σ6 y
section
variable{V:Nat->AV}{FK ε:Env}{σ6:af}{c c13 K:Nat}{nums:RQ}{T:Int}{X:Int->We}{done:ZB}
def OE.Yk(h:OE V FK σ6 c c13 K nums T X done ε σ){i}(hi:i<36)(b:i∉done):36∉done:=λa=>b (h.all a i hi)
def OE.keep(h:OE V FK σ6 c c13 K nums T X done ε σ){i}(hi:i<36)(a:i∉done){y}(b:y≠c):σ y=σ6 y:=by
 by_cases q:33∈done
 . exact(h.post q (h.Yk hi a)).2 y b
 . rw[h.pre q]
def OE.next(h:OE V FK σ6 c c13 K nums T X done ε σ){i}(hi:i<36)(m:i∉done)(w:i≠33)(x:i≠34){a}(y:a=V i):OE V FK σ6 c c13 K nums T X (i::done) (ε.upd (97+i) a) σ:=by
 have b:33∈i::done↔33∈done:=am
 have f:34∈i::done↔34∈done:=am
 have k:=h.Yk hi m;have d:36∉i::done:=am
 refine⟨λs n=>?_,λj o r t u=>?_,λq=>h.pre λl=>q (b.2 l),λq _=>h.post (b.1 q) k,λq=>?_,λq=>absurd q d,λq=>b.2 (h.dep (f.1 q)),λq=>absurd q d⟩
 . rw[tj ac];exact h.base s n
 . by_cases e:j=i
   . simp_all
   . rw[tj ac]
     exact h.rA j ((Cv.1 o).resolve_left e) r t u
 . obtain⟨p,v,l,z⟩:=h.pick (b.1 q)
   exact⟨p,v,by rw[tj ac];exact l,λg=>by rw[tj ac];simp_all⟩
def OE.aaC(h:OE V FK σ6 c c13 K nums T X done ε σ)(l:33∉done)(b:34∉done){p}(m:0<=p/\p<=3){σ'}(hb:cq c nums K σ')(d:∀y,y≠c->σ' y=σ6 y):OE V FK σ6 c c13 K nums T X (33::done) (ε.upd 130 (Xn p)) σ':=by
 have e:=h.Yk (i:=33) ac l;have a:36∉33::done:=by simp[e]
 have f:34∉33::done:=by simp[b]
 refine⟨λs d=>?_,λj n k o r=>?_,λq=>absurd ap q,λ_ _=>⟨hb,d⟩,λq=>⟨p,m,aq,λg=>absurd g f⟩,λq=>absurd q a,λ_=>ap,λq=>absurd q a⟩
 . rw[tj ac];exact h.base s d
 . rw[tj ac]
   exact h.rA j ((Cv.1 n).resolve_left k) k o r
def OE.summed(h:OE V FK σ6 c c13 K nums T X done ε σ)(f:34∉done)(a:33∈done){p}(k:0<=p/\p<=3)(r:ε 130=Xn p):OE V FK σ6 c c13 K nums T X (34::done) (ε.upd 131 (Xn (T+p))) σ:=by
 have b:=h.Yk (i:=34) ac f;have d:36∉34::done:=by simp[b]
 refine⟨λs l=>?_,λj m n e o=>?_,λq=>absurd (by simp[a]) q,λ_ _=>h.post a b,λq=>⟨p,k,aq,λg=>aq⟩,λq=>absurd q d,λ_=>by simp[a],λq=>absurd q d⟩
 . rw[tj ac];exact h.base s l
 . rw[tj ac]
   exact h.rA j ((Cv.1 m).resolve_left e) n e o
end
def IA{σ0 σ σ' a c f kk j k es l m}(h:Tok σ0 σ a kk es)(n:Tok σ0 σ c j l)(hd:∀b,bG a=some b->bG c≠some b)(d:Tok (σ.off c) σ' f k m):Tok σ0 σ' a kk es/\∀b,bG a=some b->bG f≠some b:=by
 have key:∀b,bG a=some b->(σ.off c) b=σ b:=λb hb=>af.hQ (hd b hb)
 refine⟨Ap h (af.le_trans n.here.2 d.1) λb hb=>?_,λb hb q=>?_⟩
 . obtain⟨g,e,i⟩:=h.bH hb
   exact⟨by rw[i];exact d.1 b _ aq,g⟩
 . obtain⟨g,e,i⟩:=h.bH hb
   obtain⟨o,_,_⟩:=d.bH q
   simp_all
end
section
open Go Go.bu Go.Conc
variable{m:Mo}{σ:af}{KF:YC}
def kR(σ0 σ:af)(l:List (AV × Nat × List AV)):Prop:=σ0.Le σ/\(∀t∈l,Tok σ0 σ t.1 t.2.1 t.2.2)/\l.Pairwise λt a=>∀b,bG t.1=some b->bG a.1≠some b
def kR.head{σ0 σ a kk es l}(h:kR σ0 σ ((a,kk,es)::l)):Tok σ0 σ a kk es:=h.2.1 _ (MJ)
def kR.perm{σ0 σ l d}(h:kR σ0 σ l)(e:l.Perm d):kR σ0 σ d:=⟨h.1,λt q=>h.2.1 t (e.mem_iff.2 q),(e.pairwise_iff λ{a b} q c f g=>q c g f).1 h.2.2⟩
def kR.BV{σ0 σ σ2 l c}(h:kR σ0 σ l)(b:σ0 c=none)(d:∃l,σ c=some (.cells l))(a:∀y,y≠c->σ2 y=σ y):kR σ0 σ2 l:=⟨λy x f=>by rw[a y λe=>aq];exact h.1 y x f,λt q=>CJ (h.2.1 t q) b d a,h.2.2⟩
def kR.app{σ0 σ σ' a a' kk kk' es c l}(h:kR σ0 σ ((a,kk,es)::l))(d:Tok (σ.off a) σ' a' kk' c):kR σ0 σ' ((a',kk',c)::l)/\∀y x,σ y=some (.cells x)->σ' y=some (.cells x):=by
 have f:=h.head;obtain⟨j,k⟩:=KD.1 h.2.2;have hb:=d.base f.here.2;have key:∀t∈l,Tok σ0 σ' t.1 t.2.1 t.2.2/\∀b,bG t.1=some b->bG a'≠some b:=λt q=>IA (h.2.1 t (Lb _ q)) f (λb g i=>j t q b i g) d
 refine⟨⟨hb.1,λt q=>?_,KD.2 ⟨λt q b g i=>(key t q).2 b i g,k⟩⟩,λy x m=>d.1 _ _ ?_⟩
 . grind
 . rw[af.hQ λe=>by obtain⟨_,_,q⟩:=f.bH e;simp_all];exact m
section
variable{c k:Nat}{nums:RQ}
namespace WA
end WA
end
end
open Go.bu Go.Conc
def mz(x:Way)(a b:Int):Prop:=(x.a=a/\x.b=b)\/(x.a=b/\x.b=a)
def aaD{h a b best:Int}{x:Way}:AA h a b x best<=best/\(mz x a b/\js h x<=x.fN->AA h a b x best<=js h x+x.bJ)/\(AA h a b x best=best\/(mz x a b/\js h x<=x.fN)/\AA h a b x best=js h x+x.bJ):=by
 unfold AA;split
 . next q=>unfold mz;omega
 next q=>
 have c:mz x a b:=by unfold mz;omega
 grind
def Aq(h a b:Int):∀(l:FH) (best:Int),l.foldl (λbest x=>AA h a b x best) best<=best/\(∀x∈l,mz x a b/\js h x<=x.fN->l.foldl (λbest x=>AA h a b x best) best<=js h x+x.bJ)/\
 (l.foldl (λbest x=>AA h a b x best) best=best\/∃x∈l,(mz x a b/\js h x<=x.fN)/\l.foldl (λbest x=>AA h a b x best) best=js h x+x.bJ)
 |[],best=>am
 | y::l,best=>by
   obtain⟨c,d,e⟩:=aaD (h:=h) (a:=a) (b:=b) (best:=best) (x:=y);obtain⟨f,g,i⟩:=Aq h a b l (AA h a b y best)
   grind
def Bv(d l:FH):Prop:=∀x∈l,∃c∈d,(∀a b,mz x a b->mz c a b)/\c.bJ<=x.bJ/\c.bs<=x.bs/\x.fN<=c.fN
def Bv.adY{d l:FH}(h:Bv d l){c t a b:Int}(k:c<=t):fj d c a b<=fj l t a b:=by
 obtain⟨m,n,_⟩:=Aq c a b d 1048576;obtain⟨_,_,f⟩:=Aq t a b l 1048576;unfold fj;rcases f with e|⟨x,g,⟨o,p⟩,e⟩
 . omega
 . obtain⟨i,j,q,r,s,u⟩:=h x g
   have v:js c i<=js t x:=by unfold js;omega
   grind
theorem Bv.refl(l:FH):Bv l l:=λx a=>⟨x,a,λ_ _ h=>h,FJ _,FJ _,FJ _⟩
def Closed(l:FH)(n:Nat)(t:RQ):Prop:=∀a b:Nat,a<n->b<n->t.getD a 0<1048576->t.getD b 0<=fj l (t.getD a 0) a b
def nE.antisymm{a b:RQ}(h:nE a b)(c:nE b a):a=b:=by
 refine Mf h.1 λi d e=>?_
 have f:=h.2 i;have g:=c.2 i
 grind
def afQ{α:Type}{f:RQ->α->RQ}(a:∀t x,nE (f t x) t)(l:List α)(t:RQ):nE (l.foldl f t) t:=pD _ f (λu x h=>(a u x).trans h) l t ⟨rfl,λ_=>FJ _⟩
def EV{α:Type}{f:RQ->α->RQ}(a:∀t x,nE (f t x) t):∀(l:List α) (t:RQ),l.foldl f t=t->∀x∈l,f t x=t
 |[],_,_,x,hx=>am
 | y::l,t,h,x,hx=>by
   rw[HW]at h;have b:=afQ a l (f t y);rw[h]at b;have e:=(a t y).antisymm b;rcases Cv.1 hx with rfl|hx
   . exact e
   . rw[e]at h;exact EV a l t h x hx
def Ce{l:FH}(a:∀x∈l,1<=x.bJ/\x.bJ<=12){n:Nat}:∀(k:Nat) (t:RQ),CO t->yF t<k->pass l n (gF l n k t)=gF l n k t
 |0,t,_,h=>ac
 | k+1,t,b,h=>by
   unfold gF;split
   . omega
   . next c=>have:=CP (qa l n t) (b.pass a) b c;exact Ce a k _ (b.pass a) ac
def FM{l:FH}(e:∀x∈l,1<=x.bJ/\x.bJ<=12){n:Nat}(k:n<=4){town hour:Int}(g:0<=hour/\hour<=72):Closed l n (lr l n town hour):=by
 have hb:=xH (town:=town) g;have c:=Ce e (n:=n) (yF (begun town hour)+1) _ hb ac;have h:CO (lr l n town hour):=th e _ _ hb;rw[show gF l n _ _=lr l n town hour from rfl]at c;generalize lr l n town hour=r at *;intro a b m hb d;have i:=EV (by grind [Ca]) _ r c a am;have j:=EV (by grind [GQ]) _ r i b am;have f:(nD l a b r).getD b 0=r.getD b 0:=by rw[j]
 unfold nD at f;rw[wS d,wW,wS ⟨rfl,by rw[h.1];omega⟩]at f;omega
def afc{l:FH}{n:Nat}{town hour:Int}(b:0<=hour/\hour<=72)(i:Nat):(lr l n town hour).getD i 0<=(begun town hour).getD i 0:=by
 have key:∀(k:Nat) (t:RQ),nE (gF l n k t) t:=λk=>by
  induction k with
  |zero=>exact λt=>⟨rfl,λ_=>FJ _⟩
  | succ k a=>
    intro t;unfold gF;split
    . exact⟨rfl,λ_=>FJ _⟩
    . exact(a _).trans (qa l n t)
 exact(key _ _).2 i
def OF{h a b k}:∀(l:FH)  best ,(∀x∈l,1<=x.bJ)->k<=h->k<=best->k<=l.foldl (λbest x=>AA h a b x best) best
 |[],_,_,_,q=>q
 | x::l,best,c,d,q=>by
   rw[HW];refine OF l _ (λy e=>c y (by simp[e])) d ?_
   have:=c x ap
   have:h<=js h x:=by unfold js;split<;>omega
   unfold AA;split
   . exact q
   split
   . split<;>omega
   . exact q
def EW{α:Type}(P:RQ->Prop)  f :∀(l:List α)  t ,(∀t,∀x∈l,P t->P (f t x))->P t->P (l.foldl f t)
 |[],_,_,h=>h
 |x::l,t,a,h=>EW P f l _ (λu y b=>a u y (by simp[b])) (a t x ap h)

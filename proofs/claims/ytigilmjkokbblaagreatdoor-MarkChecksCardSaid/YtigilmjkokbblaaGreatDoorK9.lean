/- Part 9 of the proof. -/
import Derived.Test.YtigilmjkokbblaaGreatDoorK8
set_option linter.all false
namespace Go.Proofs.YtigilmjkokbblaaGreatDoor
open Go.bd Go.Conc
set_option maxHeartbeats 2000000
set_option maxRecDepth 4000
variable{m:Mo}{σ:aa}{KF:dV->aa->Prop}
theorem HJ{n:Int}{b:Nat}(hn:0<=n/\n<=6)(hk:(b:Int)<=n)(h:KF (.val (rows (lu n b))) σ):aB Tryz.prog m 11 [int n,int b] σ KF:=by
 refine aB.start lay [] [] 2 Tryz.func11 rfl rfl (by rfl) (by kernel_rfl) ?_
 simp[Tryz.f11]
 have hW:(AV.sl 1 [.lit (.slice none 0 0)] .exact).W (rows (du n b 0)):=P1 rfl (by simp) (by simp[du]) (λi a a' Q h2=>by
  match i with
  |0=>simp[du]at Q h2;subst Q;subst h2;exact cW 1
  |i+1=>simp at Q)
 refine ab.zt 5 (a':=rows (du n b 0)) (by simpa using hW) ?_
 refine ab.loop b (λi s=>∃env p,s=⟨env,p,[],.no⟩/\σ.Le p/\env 0=int n/\env 1=int b/\env 5=rows (du n b i)/\env 6=int i) ⟨_,σ,rfl,aa.le_refl _,by simp,by simp,by simp,by simp⟩ ?_
 rintro c0 i _ hi ⟨env,t,rfl,z,f,g,d,o⟩ ih
 rcases Nat.lt_or_ge i b with g1|g1
 . have R:(i:Int)<b:=by omega
   have J:=kq (n:=n) (k:=b) i (by omega)
   have S:=pF (n:=n) (k:=b) (by omega) i (by omega)
   have K:(du n b i).length<=117649:=Nat.le_trans S (Nat.le_trans (Nat.pow_le_pow_right (by omega) (show i<=6 by omega)) (by decide))
   have T:=pF (n:=n) (k:=b) (by omega) (i+1) (by omega)
   have A:(du n b (i+1)).length<=117649:=Nat.le_trans T (Nat.le_trans (Nat.pow_le_pow_right (by omega) (show i+1<=6 by omega)) (by decide))
   obtain⟨L,hL⟩:∃L,L=du n b i:=⟨_,rfl⟩;have w:du n b (i+1)=L.flatMap (aT n b i):=by rw[hL];rfl
   rw[<-hL]at J K d;rw[w]at A;refine ab.run lay [] ?_;simp[f,g,d,o,R];refine ab.loop L.length (λx s=>∃env p,s=⟨env,p,[],.no⟩/\env 0=int n/\env 1=int b/\env 5=rows L/\env 6=int i/\env 8=int x/\Tok t p (env 7) 1 (((L.take x).flatMap (aT n b i)).map ints)) ⟨_,t,rfl,by simp[f],by simp[g],by simp[d],by simp[o],by simp,by simpa using Tok.nil t 1⟩ ?_
   clear f g d o
   rintro c1 x _ hx ⟨env,M,rfl,f,g,d,o,r,c⟩ N
   rcases Nat.lt_or_ge x L.length with g2|g2
   . have tE:(x:Int)<L.length:=by omega
     obtain⟨l,I⟩:∃l,l=L[x]:=⟨_,rfl⟩;have U:=J l (by rw[I];exact List.getElem_mem g2)
     have V:=U.len
     have u:(L.take (x+1)).flatMap (aT n b i)=(L.take x).flatMap (aT n b i)++aT n b i l:=by rw[List.take_succ_eq_append_getElem g2,List.flatMap_append,<-I];simp
     have O:((L.take x).flatMap (aT n b i)++aT n b i l).length<=117649:=by
      rw[<-u];refine Nat.le_trans (List.Sublist.length_le ?_) A
      have e:L.flatMap (aT n b i)=(L.take (x+1)).flatMap (aT n b i)++(L.drop (x+1)).flatMap (aT n b i):=by rw[<-List.flatMap_append,List.take_append_drop]
      rw[e];exact List.sublist_append_left _ _
     have X:((L.take x).flatMap (aT n b i)).length+(aT n b i l).length<=117649:=by rw[<-List.length_append];exact O
     have f0:-9223372036854775808<=(x:Int)+1/\(x:Int)+1<=9223372036854775807:=by omega
     have f1:-9223372036854775808<=n-b/\n-b<=9223372036854775807:=by omega
     have P:-9223372036854775808<=n-b+i/\n-b+i<=9223372036854775807:=by omega
     have b0:0<=cz i l:=by
      unfold cz;split
      . omega
      . have v:i-1<l.length:=by rw[V];omega
        have hm:l.getD (i-1) 0∈l:=by rw[List.getD_eq_getElem?_getD,List.getElem?_eq_getElem v];exact List.getElem_mem v
        have:=U.mem _ hm;omega
     refine ab.run lay [] ?_;simp[f,g,d,o,r,g2,<-I];refine aI.intro (λq=>?_) (λq=>?_)<;>simp[-Int.not_lt,-Int.not_le,-Nat.not_lt,-Nat.not_le]at q
     . have v:i-1<l.length:=by omega
       have Y:((i:Int)-1).toNat=i-1:=by omega
       have Z:l.getD (i-1) 0=l[i-1]:=by rw[List.getD_eq_getElem?_getD,List.getElem?_eq_getElem v];rfl
       have b1:=U.mem _ (List.getElem_mem v);have C:cz i l=l[i-1]+1:=by unfold cz;rw[if_neg (by omega),Z]
       have f3:-9223372036854775808<=l[i-1]+1/\l[i-1]+1<=9223372036854775807:=by omega
       have f4:-9223372036854775808<=(i:Int)-1/\(i:Int)-1<=9223372036854775807:=by omega
       have B:(0:Int)<=(i:Int)-1/\(i:Int)-1<l.length:=by omega
       simp[f,g,d,o,r,g2,<-I,Y,v,f3.1,f3.2,f4.1,f4.2,B.1,B.2];refine⟨by omega,?_⟩
       refine ab.loop (aT n b i l).length (λj s=>∃env p,s=⟨env,p,[],.no⟩/\env 0=int n/\env 1=int b/\env 5=rows L/\env 6=int i/\env 8=int x/\env 10=int (cz i l+j)/\Tok t p (env 7) 1 (((L.take x).flatMap (aT n b i)++(aT n b i l).take j).map ints)) ⟨_,M,rfl,by simp[f],by simp[g],by simp[d],by simp[o],by simp[r],by simp[C],by simpa using c⟩ ?_
       ((
         clear f g d o r c q;have hG:(aT n b i l).length=(n-b+i+1-cz i l).toNat:=by unfold aT;rw[List.length_map,sD]
         rintro c2 j _ hj ⟨env,y,rfl,f,g,d,o,r,bg,c⟩ D
         have a7:=c.cells;have B:-9223372036854775808<=cz i l+j+1/\cz i l+j+1<=9223372036854775807:=by omega
         refine ab.run lay [] ?_;simp[f,g,d,o,r,bg,f1.1,f1.2,P.1,P.2];refine aI.intro (λq=>?_) (λq=>?_)<;>simp[-Int.not_lt,-Int.not_le,-Nat.not_lt,-Nat.not_le]at q
         . have E:j<(aT n b i l).length:=by omega
           have a8:l.length+1<=1000:=by omega
           simp[f,g,d,o,r,bg,g2,<-I];refine an Tryz.func12 rfl rfl (pE (by omega) λa4 a9 F=>?_)
           refine ab.run lay [] ?_;simp[bg];refine eG lay rfl rfl rfl cK rfl cK rfl rl (by decide) (by simp;omega) (σ0:=y) (es:=l.map int) (xs:=[int (cz i l+j)]) (by simpa using F) (.inl (.inr ⟨_,rfl⟩)) (by simp) λa5 ad G=>?_
           refine ab.J0 (σ0:=y) (es:=l.map int++[int (cz i l+j)]) 52 (by simpa using G) ?_
           refine ab.run lay [] ?_;simp;have Q9:=sE (n:=n) (k:=b) (i:=i) (l:=l) (j:=j) q;have al:((aT n b i l).take j).length<=(aT n b i l).length:=by rw[List.length_take];exact Nat.min_le_right _ _
           refine aS lay rfl rfl rfl jO rfl jO rfl cK (by decide) (by simp only[List.length_map,List.length_append,List.length_singleton];omega) (σ0:=t) (es:=((L.take x).flatMap (aT n b i)++(aT n b i l).take j).map ints) (xs:=[ints (l++[cz i l+j])]) (by simpa using c) (.inr ⟨_,by simp;rfl⟩) λa6 av H=>?_
           refine ab.run lay [] ?_;simp[bg,B.1,B.2];refine D _ E ⟨_,_,rfl,by simp[f],by simp[g],by simp[d],by simp[o],by simp[r],by simp;omega,?_⟩
           rw[Q9];simpa[List.map_append]using H
         . rw[uQ q]at c
           simp[f,g,d,o,r,f0.1,f0.2];refine N _ g2 ⟨_,_,rfl,by simp[f],by simp[g],by simp[d],by simp[o],by simp,?_⟩
           rw[u];simpa using c))
     . have C:cz i l=0:=by unfold cz;rw[if_pos (by omega)]
       simp[f,g,d,o,r];refine ab.loop (aT n b i l).length (λj s=>∃env p,s=⟨env,p,[],.no⟩/\env 0=int n/\env 1=int b/\env 5=rows L/\env 6=int i/\env 8=int x/\env 10=int (cz i l+j)/\Tok t p (env 7) 1 (((L.take x).flatMap (aT n b i)++(aT n b i l).take j).map ints)) ⟨_,M,rfl,by simp[f],by simp[g],by simp[d],by simp[o],by simp[r],by simp[C],by simpa using c⟩ ?_
       ((
         clear f g d o r c q;have hG:(aT n b i l).length=(n-b+i+1-cz i l).toNat:=by unfold aT;rw[List.length_map,sD]
         rintro c2 j _ hj ⟨env,y,rfl,f,g,d,o,r,bg,c⟩ D
         have a7:=c.cells;have B:-9223372036854775808<=cz i l+j+1/\cz i l+j+1<=9223372036854775807:=by omega
         refine ab.run lay [] ?_;simp[f,g,d,o,r,bg,f1.1,f1.2,P.1,P.2];refine aI.intro (λq=>?_) (λq=>?_)<;>simp[-Int.not_lt,-Int.not_le,-Nat.not_lt,-Nat.not_le]at q
         . have E:j<(aT n b i l).length:=by omega
           have a8:l.length+1<=1000:=by omega
           simp[f,g,d,o,r,bg,g2,<-I];refine an Tryz.func12 rfl rfl (pE (by omega) λa4 a9 F=>?_)
           refine ab.run lay [] ?_;simp[bg];refine eG lay rfl rfl rfl cK rfl cK rfl rl (by decide) (by simp;omega) (σ0:=y) (es:=l.map int) (xs:=[int (cz i l+j)]) (by simpa using F) (.inl (.inr ⟨_,rfl⟩)) (by simp) λa5 ad G=>?_
           refine ab.J0 (σ0:=y) (es:=l.map int++[int (cz i l+j)]) 52 (by simpa using G) ?_
           refine ab.run lay [] ?_;simp;have Q9:=sE (n:=n) (k:=b) (i:=i) (l:=l) (j:=j) q;have al:((aT n b i l).take j).length<=(aT n b i l).length:=by rw[List.length_take];exact Nat.min_le_right _ _
           refine aS lay rfl rfl rfl jO rfl jO rfl cK (by decide) (by simp only[List.length_map,List.length_append,List.length_singleton];omega) (σ0:=t) (es:=((L.take x).flatMap (aT n b i)++(aT n b i l).take j).map ints) (xs:=[ints (l++[cz i l+j])]) (by simpa using c) (.inr ⟨_,by simp;rfl⟩) λa6 av H=>?_
           refine ab.run lay [] ?_;simp[bg,B.1,B.2];refine D _ E ⟨_,_,rfl,by simp[f],by simp[g],by simp[d],by simp[o],by simp[r],by simp;omega,?_⟩
           rw[Q9];simpa[List.map_append]using H
         . rw[uQ q]at c
           simp[f,g,d,o,r,f0.1,f0.2];refine N _ g2 ⟨_,_,rfl,by simp[f],by simp[g],by simp[d],by simp[o],by simp,?_⟩
           rw[u];simpa using c))
   . have ax:x=L.length:=by omega
     subst ax;rw[List.take_length]at c;refine ab.zt 7 (a':=rows (du n b (i+1))) (by rw[w];simpa using c.W) ?_
     have f0:-9223372036854775808<=(i:Int)+1/\(i:Int)+1<=9223372036854775807:=by omega
     refine ab.run lay [] ?_;simp[f,g,d,o,r,f0.1,f0.2];exact ih _ g1 ⟨_,_,rfl,aa.le_trans z c.1,by simp[f,g,d,o,r],by simp[f,g,d,o,r],by simp[f,g,d,o,r],by simp⟩
 . have ay:i=b:=by omega
   subst ay;refine ab.run lay [] ?_;simp[f,g,d,o];exact .less z (.done h)
theorem Bi{f:Fr}{l:List Int}(a:f.Fits)(g:l.length<1000000):(fR f l).1.length<1152921504606846976:=by
 unfold fR;split
 . simp
 . next q=>
   have b:dR f l=0:=by simpa using q
   obtain⟨c,_,d,_,e⟩:=lI b;rw[<-uR (Fr.hQ a c) d e];unfold dm;refine Nat.lt_of_le_of_lt (List.length_filter_le _ _) ?_;decide
theorem yO(hs:m.solo=true){f:Fr}{n:gX}{list:List Int}{x y:Int}{K:List Int}(ax:σ 0=some (.stay [oo]))(hf:f.Fits)(hm:n.marks.length<1152921504606846976)(e0:list.length<1152921504606846976)(hn:K.length<1152921504606846976)(h:∀σ',KF (.val (bool true)) σ'):oY Tryz.prog lay m 3 [aC f,aW n,ints list,int x,int y,ints K] σ KF:=by
 refine oY.start lay [] XO 6 Tryz.func3 rfl rfl (by rfl) (by kernel_rfl) ?_
 simp[Tryz.f3];refine an Tryz.func5 rfl rfl (NX hf λv hv=>?_)
 refine ab.run lay [] ?_;simp;cases v with
 |true=>simp;refine an Tryz.func6 rfl rfl (nF hs ?_);refine ab.run lay [] ?_;simp;exact .done (h _)
 |false=>
 by_cases g0:(20:Int)<n.marks.length
 . simp[g0]
   refine an Tryz.func6 rfl rfl (nF hs ?_);refine ab.run lay [] ?_;simp;exact .done (h _)
 by_cases ay:(20:Int)<list.length
 . simp[g0,ay]
   refine an Tryz.func6 rfl rfl (nF hs ?_);refine ab.run lay [] ?_;simp;exact .done (h _)
 obtain⟨c6,_⟩:=hv rfl;have b0:n.marks.length<=20:=by omega
 have dx:list.length<=20:=by omega
 simp[g0,ay];refine an Tryz.func7 rfl rfl (HA λc e7 hc hb Z=>?_)
 refine ab.run lay [] ?_;simp;refine an Tryz.func8 rfl rfl (EM (by omega) hn hb (by obtain⟨_,_,_,q⟩:=hb;rw[q];simp) λf1 seen R c7 _ c8 h5 hd=>?_)
 have T:=EN c6 c7 c8 h5 b0;have hlen:[f,f1,seen,fu seen n].length=4:=rfl;generalize [f,f1,seen,fu seen n]=L at T hlen ⊢;have S:0≠c:=λq=>by rw[<-q,ax]at hc;cases hc
 have ca:R 0=some (.stay [oo]):=by rw[hd.2 0 S,Z 0 S];exact ax
 refine ab.run lay [] ?_;simp;refine ab.loop L.length (λi s=>∃env σ',s=⟨env,σ',[],.no⟩/\env 2=ints list/\env 3=int x/\env 4=int y/\env 13=.ref c 0/\env 14=pJ L/\env 15=int i/\nB c K (1500+50*i) R σ') ⟨_,R,rfl,by simp,by simp,by simp,by simp,by simp,by simp,hd.1,λ_ _=>rfl⟩ ?_
 rintro c0 i _ hi ⟨env,σ',rfl,o,p,r,e,cT,cd,a7⟩ ih
 have cb:σ' 0=some (.stay [oo]):=by rw[a7.2 0 S];exact ca
 rcases Nat.lt_or_ge i L.length with g1|g1
 . have J:(i:Int)<L.length:=by omega
   have f1:-9223372036854775808<=(i:Int)+1/\(i:Int)+1<=9223372036854775807:=by omega
   obtain⟨g,U⟩:∃g,g=L[i]:=⟨_,rfl⟩;have a8:=T g (by rw[U];exact List.getElem_mem g1)
   have E:=a8.fits;have ea:=a8.aA;have b1:∀z:Int,(z !=z)=false:=λz=>by simp
   have b2:∀z:Bool,(z !=z)=false:=λz=>by simp
   refine ab.run lay [] ?_;simp[o,p,r,e,cT,cd,g1,J,<-U];refine an Tryz.func9 rfl rfl (a8.own ?_);refine ab.runN lay [] 2 ?_;simp;refine bL.intro λd cg=>?_
   simp[o,p,r,e,cT,cd];refine ab.bY 16 (b:=d) (aC g) (by simp) (by simp) rfl ?_
   rw[Gs cg];refine ab.run lay [] ?_;simp[o,p,r,e,cT,cd];refine an Tryz.func10 rfl rfl (Ka (by omega) hn (by omega) a7.1 λlo F hp a9=>?_)
   have eb:=hp.len;have b3:F 0=some (.stay [oo]):=by rw[a9.2 0 S];exact cb
   refine ab.run lay [] ?_;simp[o,p,r,e,cT,cd];obtain⟨cnt,M⟩:∃cnt,cnt=if g.aA.length<=6 then g.aA.length+1 else 0:=⟨_,rfl⟩
   have cl:cnt<=7:=by rw[M];split<;>omega
   refine ab.loop cnt (λk s=>∃env σ' a X,s=⟨env,σ',[],.no⟩/\env 2=ints list/\env 3=int x/\env 4=int y/\env 13=.ref c 0/\env 14=pJ L/\env 15=int i/\env 16=.cp (aC g) 0/\env 17=a/\env 18=int k/\Tok F σ' a 1 (X.map ints)/\X.length<=2+20*k/\∀l∈X,l.length<=21)
    ⟨_,F,.sl 1 [ints list,ints lo] .exact,[list,lo],rfl,by simp[o,p,r,e,cT,cd],by simp[o,p,r,e,cT,cd],by simp[o,p,r,e,cT,cd],by simp[o,p,r,e,cT,cd],by simp[o,p,r,e,cT,cd],by simp[o,p,r,e,cT,cd],by simp,by simp,by simp,Tok.exact F 1 [ints list,ints lo],by simp,λl N=>by simp at N;rcases N with rfl|rfl<;>omega⟩ ?_
   clear o p r e cT cd
   rintro c1 k _ hk ⟨env,σ',a,X,rfl,o,p,r,e,cT,cd,cH,t,oZ,H,ec,V⟩ ad
   have C:=H.cells
   rcases Nat.lt_or_ge k cnt with g2|g2
   . have b4:g.aA.length<=6:=by
      apply Classical.byContradiction;intro q;rw[M,if_neg q]at g2;omega
     have ee:k<=g.aA.length:=by rw[M,if_pos b4]at g2;omega
     have G:(k:Int)<=g.aA.length:=by omega
     have O:(g.aA.length:Int)<=6:=by omega
     have Y:-9223372036854775808<=(k:Int)+1/\(k:Int)+1<=9223372036854775807:=by omega
     refine ab.run lay [] ?_;simp[o,p,r,e,cT,cd,cH,t,oZ,C.1,C.2,G,O];refine an Tryz.func11 rfl rfl (HJ ⟨by omega,O⟩ G ?_)
     have eg:=EO g.aA.length (by omega) k (by omega)
     refine ab.run lay [] ?_;simp[o,p,r,e,cT,cd,cH,t,oZ,C.1,C.2];refine aS lay rfl rfl rfl jO rfl jO rfl cK (by decide) (by simp only[List.length_map];omega) (σ0:=F) (es:=X.map ints) (xs:=(lu g.aA.length k).map ints) (by simpa using H) (.inr ⟨_,by simp;rfl⟩) λa1 b5 b6=>?_
     have b7:=b6.cells;refine ab.run lay [] ?_;simp[o,p,r,e,cT,cd,cH,t,oZ,C.1,C.2,b7.1,b7.2,Y.1,Y.2]
     exact ad _ g2 ⟨_,b5,a1,X++lu g.aA.length k,rfl,by simp[o,p,r,e,cT,cd,cH,t,oZ,C.1,C.2],by simp[o,p,r,e,cT,cd,cH,t,oZ,C.1,C.2],by simp[o,p,r,e,cT,cd,cH,t,oZ,C.1,C.2],by simp[o,p,r,e,cT,cd,cH,t,oZ,C.1,C.2],by simp[o,p,r,e,cT,cd,cH,t,oZ,C.1,C.2],by simp[o,p,r,e,cT,cd,cH,t,oZ,C.1,C.2],by simp[o,p,r,e,cT,cd,cH,t,oZ,C.1,C.2],by simp,by simp,by rw[List.map_append];exact b6,by simp only[List.length_append];omega,λl N=>by
      rcases List.mem_append.1 N with N|N
      . exact V l N
      . have:=(Cm N).len;omega⟩
   . have cm:k=cnt:=by omega
     refine ab.zt 17 (a':=rows X) (by rw[t];exact H.W) ?_
     refine ab.weaken (σ:=F) ?_ H.1;apply sH (I:=λenv σ'=>F=σ'/\env 2=ints list/\env 3=int x/\env 4=int y/\env 13=.ref c 0/\env 14=pJ L/\env 15=int i/\env 16=.cp (aC g) 0/\env 17=rows X/\env 19=int 0)
     . intro D
       by_cases G:(k:Int)<=g.aA.length
       . have O:¬(g.aA.length:Int)<=6:=by
          intro q;rw[cm,M,if_pos (by omega)]at G;omega
         refine ab.run lay [] ?_;simp[o,p,r,e,cT,cd,cH,oZ,G,O];exact D _ _ ⟨rfl,by simp[o,p,r,e,cT,cd,cH,oZ],by simp[o,p,r,e,cT,cd,cH,oZ],by simp[o,p,r,e,cT,cd,cH,oZ],by simp[o,p,r,e,cT,cd,cH,oZ],by simp[o,p,r,e,cT,cd,cH,oZ],by simp[o,p,r,e,cT,cd,cH,oZ],by simp[o,p,r,e,cT,cd,cH,oZ],by simp,by simp⟩
       . refine ab.run lay [] ?_
         simp[o,p,r,e,cT,cd,cH,oZ,G];exact D _ _ ⟨rfl,by simp[o,p,r,e,cT,cd,cH,oZ],by simp[o,p,r,e,cT,cd,cH,oZ],by simp[o,p,r,e,cT,cd,cH,oZ],by simp[o,p,r,e,cT,cd,cH,oZ],by simp[o,p,r,e,cT,cd,cH,oZ],by simp[o,p,r,e,cT,cd,cH,oZ],by simp[o,p,r,e,cT,cd,cH,oZ],by simp,by simp⟩
     clear o p r e cT cd cH t oZ H C
     rintro env _ ⟨rfl,o,p,r,e,cT,cd,cH,t,nG⟩
     obtain⟨many,cv⟩:∃many,many=min X.length 40:=⟨_,rfl⟩;refine ab.loop many (λj s=>∃env,s=⟨env,F,[],.no⟩/\env 2=ints list/\env 3=int x/\env 4=int y/\env 13=.ref c 0/\env 14=pJ L/\env 15=int i/\env 16=.cp (aC g) 0/\env 17=rows X/\env 19=int j) ⟨_,rfl,o,p,r,e,cT,cd,cH,t,nG⟩ ?_
     clear o p r e cT cd cH t nG
     rintro c2 j _ hj ⟨env,rfl,o,p,r,e,cT,cd,cH,t,nG⟩ ad
     rcases Nat.lt_or_ge j many with g3|g3
     . have P:j<X.length:=by omega
       have G:(j:Int)<X.length:=by omega
       have O:(j:Int)<40:=by omega
       have Y:-9223372036854775808<=(j:Int)+1/\(j:Int)+1<=9223372036854775807:=by omega
       obtain⟨l,N⟩:∃l,l=X[j]:=⟨_,rfl⟩;have dy:l.length<=21:=V l (by rw[N];exact List.getElem_mem P)
       refine ab.run lay [] ?_;simp[o,p,r,e,cT,cd,cH,t,nG,G,O,P,<-N];refine an Tryz.func12 rfl rfl (rm (by omega) ?_)
       obtain⟨v,Q⟩:∃v,v=yN g l:=⟨_,rfl⟩;obtain⟨u,al⟩:∃u,u=fR g l:=⟨_,rfl⟩;refine ab.run lay [] ?_;simp[o,p,r,e,cT,cd,cH,t,nG];refine an Tryz.func13 rfl rfl (vH b3 E (by omega) ?_)
       rw[<-Q];refine ab.run lay [] ?_;simp[o,p,r,e,cT,cd,cH,t,nG,G,P,g1,J,<-N,<-U];refine an Tryz.func14 rfl rfl (NU E (by omega) ?_)
       rw[<-Q];refine aU.go lay [] ?_;simp[o,p,r,e,cT,cd,cH,t,nG];refine ab.run lay [] ?_;simp[o,p,r,e,cT,cd,cH,t,nG];refine an Tryz.func15 rfl rfl (mM b3 E (by omega) ?_)
       rw[<-al];refine ab.run lay [] ?_;simp[o,p,r,e,cT,cd,cH,t,nG,G,P,g1,J,<-N,<-U];refine an Tryz.func16 rfl rfl (Cy E (by omega) ?_)
       rw[<-al];refine aU.go lay [] ?_;simp[o,p,r,e,cT,cd,cH,t,nG];have b8:u.1.length<1152921504606846976:=by rw[al];exact Bi E (by omega)
       refine ab.run lay [] ?_;simp[o,p,r,e,cT,cd,cH,t,nG,b1,b2];refine an Tryz.func17 rfl rfl (cP b8 b8 ?_);rw[decide_eq_true rfl];refine ab.run lay [] ?_;simp[o,p,r,e,cT,cd,cH,t,nG,G,P,<-N];refine an Tryz.func17 rfl rfl (cP (by omega) (by omega) ?_)
       rw[decide_eq_true rfl];refine ab.run lay [] ?_;simp[o,p,r,e,cT,cd,cH,t,nG,Y.1,Y.2];exact ad _ g3 ⟨_,rfl,by simp[o,p,r,e,cT,cd,cH,t,nG],by simp[o,p,r,e,cT,cd,cH,t,nG],by simp[o,p,r,e,cT,cd,cH,t,nG],by simp[o,p,r,e,cT,cd,cH,t,nG],by simp[o,p,r,e,cT,cd,cH,t,nG],by simp[o,p,r,e,cT,cd,cH,t,nG],by simp[o,p,r,e,cT,cd,cH,t,nG],by simp[o,p,r,e,cT,cd,cH,t,nG],by simp⟩
     . have ei:j=many:=by omega
       apply sH (I:=λenv σ'=>F=σ'/\env 2=ints list/\env 3=int x/\env 4=int y/\env 13=.ref c 0/\env 14=pJ L/\env 15=int i/\env 16=.cp (aC g) 0)
       . intro D
         by_cases G:(j:Int)<X.length
         . have O:¬(j:Int)<40:=by omega
           refine ab.runN lay [] 14 ?_;simp[o,p,r,e,cT,cd,cH,t,nG,G,O];exact D _ _ ⟨rfl,by simp[o,p,r,e,cT,cd,cH,t,nG],by simp[o,p,r,e,cT,cd,cH,t,nG],by simp[o,p,r,e,cT,cd,cH,t,nG],by simp[o,p,r,e,cT,cd,cH,t,nG],by simp[o,p,r,e,cT,cd,cH,t,nG],by simp[o,p,r,e,cT,cd,cH,t,nG],by simp[o,p,r,e,cT,cd,cH,t,nG]⟩
         . refine ab.runN lay [] 14 ?_
           simp[o,p,r,e,cT,cd,cH,t,nG,G];exact D _ _ ⟨rfl,by simp[o,p,r,e,cT,cd,cH,t,nG],by simp[o,p,r,e,cT,cd,cH,t,nG],by simp[o,p,r,e,cT,cd,cH,t,nG],by simp[o,p,r,e,cT,cd,cH,t,nG],by simp[o,p,r,e,cT,cd,cH,t,nG],by simp[o,p,r,e,cT,cd,cH,t,nG],by simp[o,p,r,e,cT,cd,cH,t,nG]⟩
       clear o p r e cT cd cH t nG
       rintro env _ ⟨rfl,o,p,r,e,cT,cd,cH⟩
       refine ab.run lay [] ?_;simp[o,p,r,e,cT,cd,cH];refine an Tryz.func18 rfl rfl (eH (by omega) hn ⟨by omega,by omega⟩ a9.1 λu1 b5 _ b9=>?_)
       refine ab.run lay [] ?_;simp[o,p,r,e,cT,cd,cH];refine an Tryz.func18 rfl rfl (eH (by omega) hn ⟨by omega,by omega⟩ b9.1 λu2 ej _ bq=>?_)
       refine ab.run lay [] ?_;simp[o,p,r,e,cT,cd,cH];refine an Tryz.func18 rfl rfl (eH (by omega) hn ⟨by omega,by omega⟩ bq.1 λw1 ep _ bz=>?_)
       refine ab.run lay [] ?_;simp[o,p,r,e,cT,cd,cH];refine an Tryz.func18 rfl rfl (eH (by omega) hn ⟨by omega,by omega⟩ bz.1 λw2 av _ dd=>?_)
       have bA:nB c K (1500+50*(i+1)) R av:=by have:=(((a7.trans a9).trans b9).trans bq).trans (bz.trans dd);exact⟨this.1.mono (by omega),this.2⟩
       refine ab.run lay [] ?_;simp[o,p,r,e,cT,cd,cH];refine ab.zt 29 (a':=ints [x,u1,u2]) (by simp;exact ck 1 [int x,int u1,int u2] .exact) ?_
       refine ab.zt 30 (a':=ints [y,w1,w2]) (by simp;exact ck 1 [int y,int w1,int w2] .exact) ?_
       obtain⟨xs,bB⟩:∃xs,xs=[x,u1,u2]:=⟨_,rfl⟩;obtain⟨ys,c5⟩:∃ys,ys=[y,w1,w2]:=⟨_,rfl⟩;have et:xs.length=3:=by rw[bB];rfl
       have ev:ys.length=3:=by rw[c5];rfl
       rw[<-bB,<-c5];refine ab.loop 3 (λk s=>∃env,s=⟨env,av,[],.no⟩/\env 2=ints list/\env 3=int x/\env 4=int y/\env 13=.ref c 0/\env 14=pJ L/\env 15=int i/\env 16=.cp (aC g) 0/\env 29=ints xs/\env 30=ints ys/\env 31=int k) ⟨_,rfl,by simp[o,p,r,e,cT,cd,cH],by simp[o,p,r,e,cT,cd,cH],by simp[o,p,r,e,cT,cd,cH],by simp[o,p,r,e,cT,cd,cH],by simp[o,p,r,e,cT,cd,cH],by simp[o,p,r,e,cT,cd,cH],by simp[o,p,r,e,cT,cd,cH],by simp,by simp,by simp⟩ ?_
       clear o p r e cT cd cH
       rintro c3 k _ ey ⟨env,rfl,o,p,r,e,cT,cd,cH,w,A,B⟩ dj
       rcases Nat.lt_or_ge k 3 with g4|g4
       . have G:(k:Int)<xs.length:=by omega
         have O:(k:Int)<ys.length:=by omega
         have q1:k<xs.length:=by omega
         have q2:k<ys.length:=by omega
         have Y:-9223372036854775808<=(k:Int)+1/\(k:Int)+1<=9223372036854775807:=by omega
         refine ab.run lay [] ?_;simp[o,p,r,e,cT,cd,cH,w,A,B,G,O,q1,q2];refine an Tryz.func19 rfl rfl (oq E ?_);obtain⟨v,Q⟩:∃v,v=j8 g xs[k] ys[k]:=⟨_,rfl⟩;rw[<-Q];refine aU.go lay [] ?_;simp[o,p,r,e,cT,cd,cH,w,A,B];refine ab.run lay [] ?_;simp[o,p,r,e,cT,cd,cH,w,A,B,G,O,q1,q2,g1,J,<-U];refine an Tryz.func20 rfl rfl (Cz E ?_);rw[<-Q];refine aU.go lay [] ?_;simp[o,p,r,e,cT,cd,cH,w,A,B];refine ab.run lay [] ?_;simp[o,p,r,e,cT,cd,cH,w,A,B,b1,Y.1,Y.2]
         exact dj _ g4 ⟨_,rfl,by simp[o,p,r,e,cT,cd,cH,w,A,B],by simp[o,p,r,e,cT,cd,cH,w,A,B],by simp[o,p,r,e,cT,cd,cH,w,A,B],by simp[o,p,r,e,cT,cd,cH,w,A,B],by simp[o,p,r,e,cT,cd,cH,w,A,B],by simp[o,p,r,e,cT,cd,cH,w,A,B],by simp[o,p,r,e,cT,cd,cH,w,A,B],by simp[o,p,r,e,cT,cd,cH,w,A,B],by simp[o,p,r,e,cT,cd,cH,w,A,B],by simp⟩
       . have G:¬(k:Int)<xs.length:=by omega
         refine ab.run lay [] ?_;simp[o,p,r,e,cT,cd,cH,w,A,B,G,g1,J,<-U];refine an Tryz.func21 rfl rfl (gF E ?_);refine aU.go lay [] ?_;simp[o,p,r,e,cT,cd,cH,w,A,B,g1,J,<-U];refine an Tryz.func22 rfl rfl (tL E ?_);refine aU.go lay [] ?_;simp[o,p,r,e,cT,cd,cH,w,A,B,b1,g1,J,<-U];refine an Tryz.func23 rfl rfl (pK E ?_);refine aU.go lay [] ?_;simp[o,p,r,e,cT,cd,cH,w,A,B];refine ab.run lay [] ?_;simp[o,p,r,e,cT,cd,cH,w,A,B,f1.1,f1.2]
         exact ih _ g1 ⟨_,av,rfl,by simp[o,p,r,e,cT,cd,cH,w,A,B],by simp[o,p,r,e,cT,cd,cH,w,A,B],by simp[o,p,r,e,cT,cd,cH,w,A,B],by simp[o,p,r,e,cT,cd,cH,w,A,B],by simp[o,p,r,e,cT,cd,cH,w,A,B],by simp,bA⟩
 . have dr:i=L.length:=by omega
   subst dr;refine ab.run lay [] ?_;simp[o,p,r,e,cT,cd];refine an Tryz.func6 rfl rfl (nF hs ?_);refine ab.run lay [] ?_;simp[o,p,r,e,cT,cd];exact .done (h _)
end Go.Proofs.YtigilmjkokbblaaGreatDoor

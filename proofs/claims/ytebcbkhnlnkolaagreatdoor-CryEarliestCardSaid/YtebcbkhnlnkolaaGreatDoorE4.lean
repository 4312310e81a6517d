import Derived.Test.YtebcbkhnlnkolaaGreatDoorE3
set_option linter.all false
set_option maxHeartbeats 2000000
set_option maxRecDepth 4000
namespace Go.Proofs.YtebcbkhnlnkolaaGreatDoor
section
open Go.bN
abbrev pl7:aeV:=[⟨14,.take [0,1,2,3,4,5,6,7,8,9,10,11,12,13,14,15,16,17,18,19,20,21,22,23] true (.done)⟩,⟨15,.take [0,1,2,3,4,5,6,7,8,9,10] false (.one 11 (.take [12] true (.done)))⟩,⟨17,.take [0,1,2,3,4,5,6] true (.done)⟩]
abbrev ZU:aeV:=[⟨10,.take [0,1,2,3,4,5,6,7,8,9,10,11,12,13,14,15,16,17,18,19,20,21,22,23,24,25,26,27,28,29,30,31,32,33,34,35,36,37,38,39,40,41,42,43,44,45,46,47,48,49,50,51,52,53,54] true (.done)⟩]
abbrev UN:aeV:=[⟨7,.take [0,1,2,3,4,5,7,8,9,10,11,12] false (.one 6 (.one 13 (.one 14 (.take [15] true (.done)))))⟩]
end
section
open Go.bN Go.Conc
variable{m:Mo}{σ:ab}{KF:aeQ}
theorem sJ{l}(b:l.length<=1000000000)(h:∀a σ',bo σ σ' a 1 (l.map int)->KF (.val a) σ'):aB Tryz.prog m 53 [ints l] σ KF:=by
 refine aB.start lay [] [] 1 Tryz.func53 rfl rfl (by rfl) (by kernel_rfl) ?_;simp[Tryz.f53];refine fU lay rfl rfl rfl cK rfl cK rfl pQ (by decide) (by simp;omega) (σ0:=σ) (es:=[]) (xs:=l.map int) (.empty σ 1) (.inl (.inr ⟨_,rfl⟩)) (by simp) λc σ' d=>?_
 refine aa.run lay [] ?_;simp;exact .done (h _ _ (by simp_all))
end
section
open Go Go.bN Go.Conc
variable{m:Mo}{σ:ab}{KF:aeQ}
abbrev lD(r:afe × Int):AV:=.agg [ints r.1,int r.2]
def lastT(l:afe):Int:=l.getLast?.getD 0
def qo(w:cC)(r:afe × Int)(k:Nat):Bool:=decide (br w.ways r.2 (lastT r.1) k<1048576) && !decide ((k:Int)∈r.1)
def iW(w:cC)(r:afe × Int)(n:Nat):aeF:=((List.range n).filter (qo w r)).map λ(k:Nat)=>(r.1++[(k:Int)],br w.ways r.2 (lastT r.1) k)
def gM(w:cC)(r:afe × Int):aeF:=if lastT r.1=0 then[]else iW w r w.aF.toNat
def gi(w:cC)(r0:afe × Int):Nat->aeF
 |0=>[r0]
 |k+1=>(gi w r0 k).flatMap (gM w)
def oD(w:cC)(best:Int)(r:afe × Int):Bool:=decide (lastT r.1=0) && decide (r.2=best)
def ia(w:cC)(c:Nat)(a:BC):Option (afe × Int):=((List.range w.aF.toNat).flatMap (gi w ([a.town],a.hour))).find? (oD w (ba w c))
theorem Ek{kk es d sp}(h:es.length=d.length)(l:∀a∈es,a.cells.length=kk)(e:∀a∈d,a.cells.length=kk)(m:∀(i:Nat) a a',(flatten es)[i]?=some a->(flatten d)[i]?=some a'->a.W a'):(AV.sl kk es sp).W (.sl kk d .any):=λk x n=>by
 have f1:=aY l;have u:=aY e;cases n with
 | sl b off cap _ N E _ _ c g o p v q r w=>
   rw[h]at g f1 ⊢;refine .sl b off cap kk N E d .any c g o p e (λj f=>q j (by omega)) (λj a s=>?_) trivial;have f:j<(flatten es).length:=by grind
   exact m j (flatten es)[j] a (by simp[f]) s k _ (r j _ (by simp[f]))
 | slnil t=>
   have:d=[]:=by grind
   subst this;exact .slnil t kk .any (.inl rfl)
theorem Oq  t h :(AV.sl 2 [.agg [.sl 1 [int t] .exact,int h]] .exact).W (.sl 2 ([([t],h)].map lD) .any):=Ek rfl (λa d=>by simp_all) (λa d=>by simp_all) λi a e b c=>by
 match i with
 |0=>cases b;cases c;exact eZ 1 _ _
 |1=>cases b;cases c;exact .refl _
 |n+2=>cases b
theorem Aj{α:Type}{L}{G:α->Bool}{n k i}(a:k<n)  hi  (b:∀k'<k,∀x∈L k',G x=false) (c:∀x∈(L k).take i,G x=false) (h:G (L k)[i]=true):((List.range n).flatMap L).find? G=some (L k)[i]:=by
 have e:List.range n=List.range k++k::List.range' (k+1) (n-(k+1)):=by rw[adv,adv,show n=k+(n-(k+1)+1)by omega,<-List.range'_append_1,adn,show k+(n-(k+1)+1)-(k+1)=n-(k+1)by omega];rfl
 have d:((List.range k).flatMap L).find? G=none:=ado.2 λx f=>by grind
 have g:L k=(L k).take i++(L k)[i]::(L k).drop (i+1):=by simp_all
 have j:(L k).find? G=some (L k)[i]:=by grind
 grind
theorem El{α:Type}{L}{G:α->Bool}{n}(a:∀k'<n,∀x∈L k',G x=false):((List.range n).flatMap L).find? G=none:=ado.2 λx b=>by grind
theorem Ak  w  (a:w.aF<=4)  r :(gM w r).length<=4:=by
 unfold gM;split
 . simp
 unfold iW
 grind
theorem Al  w  (a:w.aF<=4):∀M:aeF,(M.flatMap (gM w)).length<=M.length*4
 |[]=>by simp
 | x::M=>by
   have b:=Al w a M;have c:=Ak w a x
   grind
theorem vz{w}(d:∀x∈w.ways,rW w.aF x)(e:w.aF<=4){r0}(f:r0.1.length=1/\0<=r0.2/\r0.2<=1048576):∀k,(gi w r0 k).length<=4 ^ k/\∀r∈gi w r0 k,r.1.length=k+1/\0<=r.2/\r.2<=1048576
 | 0=>⟨by simp[gi],λr c=>by
   have:r=r0:=by simpa[gi]using c
   simp_all⟩
 | k + 1=>by
   obtain⟨g,i⟩:=vz d e f k;refine⟨?_,λr c=>?_⟩
   . have:=Al w e (gi w r0 k)
     rw[aez];exact aap this (aci 4 g)
   simp only[gi,aaR]at c;obtain⟨y,m,c⟩:=c;obtain⟨p,n,q⟩:=i y m;unfold gM at c;split at c
   . cases c
   obtain⟨j,s,rfl⟩:=aab.1 c;have:=lY (l:=w.ways) (h:=y.2) (a:=lastT y.1) (b:=j) (λx o=>(d x o).2.2.1) n
   simp_all
theorem lE(hs:m.solo=true){w}(hw:w.pv){c:Nat}(h3:c<3)  hc  (he:dI w [] [] [(c:Int)]=0)
 (hK:if 72<ba w c then KF (.val (.bL [.nil,int 11])) σ else ∀r,ia w c w.aj[c]=some r->KF (.val (.bL [ints r.1,int 0])) σ) (A:ba w c<=72->(ia w c w.aj[c]).isSome=true):aB Tryz.prog m 28 [bS w,int c] σ KF:=by
 have hW:Wl [bS w,mz,mz,.sl 1 [int c] .exact] [bS w,ints [],ints [],ints [(c:Int)]]:=Rk (.refl _) (dR 1) (dR 1) (eZ 1 _ _);have hv:w.Valid:=cC.valid hw (by unfold dI at he;omega)
 refine aB.start lay [] UN 2 Tryz.func28 rfl rfl (by rfl) (by kernel_rfl) ?_
 simp[Tryz.f28];refine bp Tryz.func41 rfl rfl hW (jz hs hw (by simp) (λq=>absurd he q) λq U fb mb hk=>?_)
 have ax:=hk.less (.refl mb U);refine aa.run lay [] ?_;simp;refine ak Tryz.func42 rfl rfl (oU h3 ?_)
 by_cases hl:72<ba w c
 . rw[Rp hl]at hK
   simp only[hl,aay];refine aa.run lay [] ?_;simp;refine er lay rfl F5 rfl (isNil:=false) (.inr ⟨⟨_,_,rfl⟩,rfl⟩) (.inr ⟨rfl,rfl⟩) ?_;refine aa.run lay [] ?_;simp[aG];exact .less ax (.done hK)
 rw[KD hl]at hK;simp only[hl,aao];have A:=A (by omega)
 refine aa.run lay [] ?_;simp;refine er lay rfl F5 rfl (isNil:=true) (.inl ⟨rfl,rfl⟩) (.inr ⟨rfl,rfl⟩) ?_;refine aa.run lay [] ?_;simp[aG,hc];have cv:=hv.ov.2 _ (ys hc);obtain⟨N,hN⟩:∃N:Nat,w.aF=(N:Int):=⟨w.aF.toNat,by omega⟩
 have hT:=hv.aF;have ay:w.aF.toNat=N:=by omega
 obtain⟨R,hR⟩:∃R,R=gi w ([w.aj[c].town],w.aj[c].hour):=⟨_,rfl⟩;have aC:=vz hv.cN hT.2 (r0:=([w.aj[c].town],w.aj[c].hour)) ⟨rfl,by omega,by omega⟩
 rw[<-hR]at aC;have bq:ia w c w.aj[c]=((List.range N).flatMap R).find? (oD w (ba w c)):=by rw[hR,<-ay];rfl
 have bw:∀k,R (k+1)=(R k).flatMap (gM w):=λk=>by rw[hR];rfl
 rw[bq]at A hK;have bA:R 0=[([w.aj[c].town],w.aj[c].hour)]:=by rw[hR];rfl
 refine aa.Am 10 (a':=.sl 2 ((R 0).map lD) .any) (by rw[bA];exact Oq _ _) ?_
 obtain⟨G,hG⟩:∃G,G=oD w (ba w c):=⟨_,rfl⟩;rw[<-hG]at A hK;refine aa.run lay [] ?_;simp;refine aa.loop N (λk s=>∃env f,s=⟨env,f,[],.no⟩/\(env 2=.cp (bS w) 0/\env 6=tK fb mb w 0/\env 8=int (ba w c)/\env 10=.sl 2 ((R k).map lD) .any/\env 51=int N/\env 52=int k)/\U.Le f/\∀k'<k,∀r∈R k',G r=false) ⟨_,_,rfl,by simp[hN],ab.le_refl _,by simp⟩ ?_
 rintro c0 k _ dj ⟨env,f,rfl,⟨E,F,H,cu,g,j⟩,aE,aL⟩ ih
 obtain⟨a8,hM⟩:=aC k;have aO:=bw k;obtain⟨M,I⟩:∃M,M=R k:=⟨_,rfl⟩;rw[<-I]at a8 hM cu aO;refine aa.run lay [] ?_;simp[g,j];apply aG.intro<;>intro g1<;>simp at g1<;>simp[cu,g1]
 . have a8:M.length<=256:=aap a8 (adp (n:=4) (by decide) (show k<=4 by omega))
   refine aa.loop M.length (λi s=>∃env f a,s=⟨env,f,[],.no⟩/\(env 2=.cp (bS w) 0/\env 6=tK fb mb w 0/\env 8=int (ba w c)/\env 51=int N/\env 52=int k/\env 54=.sl 2 (M.map lD) .any/\env 55=int M.length/\env 56=int i/\env 11=a)/\Go.bN.Tok U f a 2 (((M.take i).flatMap (gM w)).map lD)/\∀r∈M.take i,G r=false) ⟨_,_,.nil,rfl,by simp[E,F,H,g,j],⟨aE,.inl ⟨rfl,by simp⟩⟩,by simp⟩ ?_
   rintro c1 i _ hi ⟨env,f,a,rfl,⟨E,F,H,g,j,u,v,p,bH⟩,ht,J⟩ b0
   refine aa.run lay [] ?_;simp[v,p];apply aG.intro<;>intro g2<;>simp at g2<;>simp[j,u,p,bH,g2]
   . obtain⟨bB,a9,b1⟩:=hM _ (ys g2)
     have dm:=Al w hT.2 (M.take i);have cr:(M.take i).length<=256:=by rw[ack];omega
     obtain⟨x,B⟩:∃x,x=M[i]:=⟨_,rfl⟩;rw[<-B]at bB a9 b1;simp only[<-B];have b3:∀q,(M.take (i+1)).flatMap q=(M.take i).flatMap q++(q x:aeF):=λq=>by rw[za g2,adi,aey,<-B]
     have b4:G x=false->∀r∈M.take (i+1),G r=false:=λh r A=>by
      rw[za g2,<-B]at A
      rcases aan.1 A with A|A
      . exact J r A
      rw[lb.1 A];exact h
     refine bO.intro λb hb=>?_
     have c5:x.1[x.1.length-1]?=some (lastT x.1):=by unfold lastT;rw[List.getLast?_eq_getElem?,zA (by omega)];rfl
     have gx:0<=(x.1.length:Int)-1/\(x.1.length:Int)-1<x.1.length/\1<=(x.1.length:Int):=by omega
     simp[gx,c5];refine⟨by omega,?_⟩
     have V:(f.set b (.cells [ints x.1,int x.2])) b=some (.cells [ints x.1,int x.2]):=ab.ai _ _ _;have c6:f.Le (f.set b (.cells [ints x.1,int x.2])):=λc y h=>(ab.ah _ _ λe=>by rw[e,hb]at h;cases h).trans h
     have X:=ht.up c6;generalize f.set b (.cells [ints x.1,int x.2])=dr at V X;apply aG.intro<;>intro g3<;>simp at g3<;>simp[E,H,g3,V]
     . have Rr:gM w x=[]:=by unfold gM;rw[Rp g3]
       apply aG.intro<;>intro g4<;>simp at g4<;>simp[p,g4,V]
       . have K:G x=true:=by rw[hG];simp[oD,g3,g4]
         have c7:=Aj (L:=R) (G:=G) (k:=k) (i:=i) g1 (by rw[<-I];exact g2) aL (by rw[<-I];exact J) (by simp only[<-I,<-B];exact K)
         have b5:=hK _ c7;simp only[<-I,<-B]at b5;exact .less (ab.le_trans ax X.1) (.done b5)
       have K:G x=false:=by rw[hG];simp[oD,g4]
       refine⟨by omega,b0 _ (by omega) ⟨_,_,a,rfl,by simp[E,F,H,g,j,u,v,bH],by rw[b3,Rr,aaE];exact X,b4 K⟩⟩
     have Rr:gM w x=iW w x N:=by unfold gM;rw[KD g3,ay]
     have K:G x=false:=by rw[hG];simp[oD,g3]
     refine aa.loop N (λd s=>∃env z a',s=⟨env,z,[],.no⟩/\(env 2=.cp (bS w) 0/\env 6=tK fb mb w 0/\env 8=int (ba w c)/\env 51=int N/\env 52=int k/\env 54=.sl 2 (M.map lD) .any/\env 55=int M.length/\env 56=int i/\env 13=.ref b 0/\env 14=int (lastT x.1)/\env 77=int N/\env 78=int d/\env 11=a')/\z b=some (.cells [ints x.1,int x.2])/\Go.bN.Tok U z a' 2 (((M.take i).flatMap (gM w)++iW w x d).map lD)) ⟨_,_,a,rfl,by simp[E,F,H,g,j,u,v,p,bH,hN],V,by simpa[iW]using X⟩ ?_
     rintro c2 d _ hd ⟨env,z,a',rfl,⟨E,F,H,g,j,u,v,p,C,BB,Y,O,bH⟩,o,Z⟩ ad
     have D:iW w x (d+1)=iW w x d++if qo w x d then [(x.1++[(d:Int)],br w.ways x.2 (lastT x.1) d)]else []:=by unfold iW;rw[aaB,aca,aaq];congr 1;simp only[aer,List.filter_nil];split<;>rfl
     have dx:(iW w x d).length<=d:=by unfold iW;rw[aac];exact aap (aaN _ _) (by rw[adf];omega)
     refine aa.run lay [] ?_;simp[Y,O];apply aG.intro<;>intro g5<;>simp at g5<;>simp[F,p,C,BB,O,g5,o]
     . refine ak Tryz.func54 rfl rfl (An (by simp) hw.ways hv.cN ⟨a9,b1⟩ ?_)
       have c9:=lY (l:=w.ways) (h:=x.2) (a:=lastT x.1) (b:=d) (λy hy=>(hv.cN y hy).2.2.1) a9
       obtain⟨T,b6⟩:∃T,T=br w.ways x.2 (lastT x.1) d:=⟨_,rfl⟩;rw[<-b6]at c9 D ⊢;have al:qo w x d=(decide (T<1048576) && !decide ((d:Int)∈x.1)):=by rw[b6];rfl
       refine aa.run lay [] ?_;simp;refine tL.intro (λg6=>?_) (λg6=>?_)<;>(try simp[-Int.not_lt,-Int.not_le]at g6)<;>(try simp[C,O,g6,o])
       . refine ak Tryz.func55 rfl rfl (km (by omega) ?_)
         refine aa.run lay [] ?_;simp;apply aG.intro<;>intro g7<;>simp at g7<;>simp[C,O,bH,g7,o]
         . have P:qo w x d=false:=by rw[al];simp[g7]
           refine⟨by omega,ad _ (by omega) ⟨_,_,a',rfl,by simp[E,F,H,g,j,u,v,p,C,BB,Y,bH],o,by rw[D,P,KD (by simp),aaE];exact Z⟩⟩
         have P:qo w x d=true:=by rw[al];simp[g6,g7]
         rw[P,Rp rfl]at D;refine oO lay rfl cK rfl pQ (es:=x.1.map int) (sp:=.any) (l:=0) (h:=x.1.length) (by simp) (λcap b7=>⟨⟨⟨.i64,by simp⟩,by simpa using b7⟩,⟨⟨.i64,by simp⟩,aav _⟩,rfl⟩) (by simp) λb2 b8=>?_
         have b9:Go.bN.Tok z z b2 1 (x.1.map int):=by
          rw[adU,aaY (by simp)]at b8
          rcases b8 with rfl|⟨e,rfl⟩
          . exact .exact _ _ _
          rw[e];exact .nil _ _
         refine aa.run lay [] ?_;simp;refine aN lay rfl rfl rfl cK rfl cK rfl pQ (by decide) (by simp only[aac,aaI,aaW];omega) (σ0:=z) (es:=x.1.map int) (xs:=[int d]) (by simpa using b9) (.inr ⟨_,rfl⟩) λa2 ca Q=>?_
         have cb:x.1.map int++[int d]=(x.1++[(d:Int)]).map int:=by rw[aaq];rfl
         rw[cb]at Q;obtain⟨y,hy⟩:∃y,y=x.1++[(d:Int)]:=⟨_,rfl⟩;rw[<-hy]at Q D;refine aa.Am 108 (a':=ints y) (show AV.W a2 _ from Q.W) ?_
         refine aa.run lay [] ?_;simp
         have cg:(((M.take i).flatMap (gM w)++iW w x (d+1)).map lD)=(((M.take i).flatMap (gM w)++iW w x d).map lD)++[lD (y,T)]:=by rw[D,<-List.append_assoc,aaq];rfl
         have S:=Z.up Q.1;have a7:=Q.1 _ _ o;have cm:bt a'≠some b:=λe=>by obtain⟨_,t,q⟩:=S.aV e;rw[a7]at q;cases q
         refine aN lay rfl rfl rfl J2 rfl J2 rfl TR (by decide) (by simp only[aac,aam,aaI,aaW];omega) (σ0:=ca.off a') (es:=((M.take i).flatMap (gM w)++iW w x d).map lD) (xs:=[lD (y,T)]) (by simpa using S.here.1) (.inr ⟨_,rfl⟩) λa3 dy av=>?_
         rw[<-cg]at av;have bm:=av.1 _ _ ((ab.dF cm).trans a7);refine aa.run lay [] ?_;simp[O];refine⟨by omega,ad _ (by omega) ⟨_,_,a3,rfl,by simp[E,F,H,g,j,u,v,p,C,BB,Y],bm,av.base S.here.2⟩⟩
       have P:qo w x d=false:=by rw[al];simp[g6]
       refine⟨by omega,ad _ (by omega) ⟨_,_,a',rfl,by simp[E,F,H,g,j,u,v,p,C,BB,Y,bH],o,by rw[D,P,KD (by simp),aaE];exact Z⟩⟩
     have ed:d=N:=by omega
     subst ed;refine⟨by omega,b0 _ (by omega) ⟨_,_,a',rfl,by simp[E,F,H,g,j,u,v,bH],by rw[b3,Rr];exact Z,b4 K⟩⟩
   have ei:i=M.length:=by omega
   subst ei;rw[aar]at ht J;refine⟨by omega,?_⟩
   refine aa.Am 10 (a':=.sl 2 ((R (k+1)).map lD) .any) ?_ (ih _ (by omega) ⟨_,_,rfl,by simp[E,F,H,g],ht.1,λk' q x hx=>?_⟩)
   . change AV.W a _
     rw[aO];exact ht.W
   grind
 have ek:k=N:=by omega
 subst ek;rw[El aL]at A;cases A
end
section
open Go.bN Go.Conc
def eu(x:Way)(a b:Int):Prop:=(x.a=a/\x.b=b)\/(x.a=b/\x.b=a)
theorem Ij{h a b best:Int}{x:Way}:qD h a b x best<=best/\(eu x a b/\cY h x<=x.dD->qD h a b x best<=cY h x+x.aQ)/\(qD h a b x best=best\/(eu x a b/\cY h x<=x.dD)/\qD h a b x best=cY h x+x.aQ):=by
 unfold qD;split
 . next q=>
   refine⟨aat _,λz=>absurd z.1 ?_,.inl rfl⟩
   unfold eu;omega
 next q=>
 have d:eu x a b:=by unfold eu;omega
 split
 . next c=>
   split
   . exact⟨by omega,λ_=>aat _,.inr ⟨⟨d,c⟩,rfl⟩⟩
   exact⟨aat _,λ_=>by omega,.inl rfl⟩
 next c=>exact⟨aat _,λz=>absurd z.2 c,.inl rfl⟩
theorem kP(h a b:Int):∀(l:afg) (best:Int),l.foldl (λbest x=>qD h a b x best) best<=best/\(∀x∈l,eu x a b/\cY h x<=x.dD->l.foldl (λbest x=>qD h a b x best) best<=cY h x+x.aQ)/\
 (l.foldl (λbest x=>qD h a b x best) best=best\/∃x∈l,(eu x a b/\cY h x<=x.dD)/\l.foldl (λbest x=>qD h a b x best) best=cY h x+x.aQ)
 |[],best=>⟨aat _,by simp,.inl rfl⟩
 | y ::l,best=>by
   obtain⟨g,i,j⟩:=Ij (h:=h) (a:=a) (b:=b) (best:=best) (x:=y);obtain⟨d,k,m⟩:=kP h a b l (qD h a b y best);rw[aaS];refine⟨adm d g,λx hx f=>?_,?_⟩
   . rcases aaw.1 hx with rfl|hx
     . exact adm d (i f)
     exact k x hx f
   rcases m with e|⟨x,hx,q,e⟩
   . rw[e]
     rcases j with c|⟨q,c⟩
     . exact .inl c
     exact .inr ⟨y,by simp,q,c⟩
   exact .inr ⟨x,by simp[hx],q,e⟩
def iX(l' l:afg):Prop:=∀x∈l,∃c∈l',(∀a b,eu x a b->eu c a b)/\c.aQ<=x.aQ/\c.aU<=x.aU/\x.dD<=c.dD
theorem iX.Ik{l' l:afg}(h:iX l' l){c t a b:Int}(o:c<=t):br l' c a b<=br l t a b:=by
 obtain⟨g,i,_⟩:=kP c a b l' 1048576;obtain⟨_,_,j⟩:=kP t a b l 1048576;unfold br
 rcases j with e|⟨x,k,⟨m,p⟩,e⟩
 . rw[e];exact g
 obtain⟨f,d,n,q,r,s⟩:=h x k;have u:cY c f<=cY t x:=by unfold cY;split<;>split<;>omega
 have:=i f d ⟨n a b m,by omega⟩
 rw[e];omega
theorem iX.refl(l:afg):iX l l:=λx a=>⟨x,a,λ_ _ h=>h,aat _,aat _,aat _⟩
def Closed(l:afg)(n:Nat)(t:afe):Prop:=∀a b:Nat,a<n->b<n->t.getD a 0<1048576->t.getD b 0<=br l (t.getD a 0) a b
theorem ew.antisymm{a b:afe}(h:ew a b)(e:ew b a):a=b:=by
 refine aeq h.1 λi f g=>?_
 have c:=h.2 i;have d:=e.2 i;rw[zD,zD,zA f,zA g]at c d;simp only[acm]at c d;omega
theorem sK{α:Type}{f:afe->α->afe}(a:∀t x,ew (f t x) t)(l:List α)(t:afe):ew (l.foldl f t) t:=jY (ew · t) f (λu x h=>(a u x).trans h) l t ⟨rfl,λ_=>aat _⟩
theorem nZ{α:Type}{f:afe->α->afe}(a:∀t x,ew (f t x) t):∀(l:List α) (t:afe),l.foldl f t=t->∀x∈l,f t x=t
 |[],_,_,x,hx=>by cases hx
 | y::l,t,h,x,hx=>by
   rw[aaS]at h;have b:=sK a l (f t y);rw[h]at b;have e:=(a t y).antisymm b;rcases aaw.1 hx with rfl|hx
   . exact e
   rw[e]at h;exact nZ a l t h x hx
theorem lZ{l:afg}(a:∀x∈l,1<=x.aQ/\x.aQ<=12){n:Nat}:∀(k:Nat) (t:afe),xW t->mI t<k->pass l n (bV l n k t)=bV l n k t
 |0,t,_,h=>by omega
 | k+1,t,b,h=>by
   unfold bV;split
   . next e=>exact e
   next c=>
   have:=vA (iY l n t) (b.pass a) b c;exact lZ a k _ (b.pass a) (by omega)
theorem pK{l:afg}(f:∀x∈l,1<=x.aQ/\x.aQ<=12){n:Nat}(m:n<=4){town hour:Int}(g:0<=hour/\hour<=72):Closed l n (cQ l n town hour):=by
 have hb:=nu (town:=town) g;have c:=lZ f (n:=n) (mI (begun town hour)+1) _ hb (by omega);have h:xW (cQ l n town hour):=ko f _ _ hb;rw[show bV l n (mI (begun town hour)+1) (begun town hour)=cQ l n town hour from rfl]at c;generalize cQ l n town hour=r at *;intro a b i hb d;have j:=nZ (λt a=>sL l n a t) _ r c a (zH.2 i);have k:=nZ (λt b=>wU l a b t) _ r j b (zH.2 hb);have e:(fM l a b r).getD b 0=r.getD b 0:=by rw[k]
 unfold fM at e;rw[Rp d,jJ,Rp ⟨rfl,by rw[h.1];omega⟩]at e;split at e<;>omega
theorem qX{l:afg}{n:Nat}{town hour:Int}(b:0<=hour/\hour<=72)(i:Nat):(cQ l n town hour).getD i 0<=(begun town hour).getD i 0:=by
 have key:∀(k:Nat) (t:afe),ew (bV l n k t) t:=λk=>by
  induction k with
  |zero=>exact λt=>⟨rfl,λ_=>aat _⟩
  | succ k a=>
    intro t;unfold bV;split
    . exact⟨rfl,λ_=>aat _⟩
    exact(a _).trans (iY l n t)
 exact(key _ _).2 i
theorem vB{h a b k}:∀(l:afg)  best ,(∀x∈l,1<=x.aQ)->k<=h->k<=best->k<=l.foldl (λbest x=>qD h a b x best) best
 |[],_,_,_,q=>q
 | x::l,best,c,d,q=>by
   rw[aaS];refine vB l _ (λy e=>c y (by simp[e])) d ?_
   have:=c x (by simp)
   have:h<=cY h x:=by unfold cY;split<;>omega
   unfold qD;split
   . exact q
   split
   . split<;>omega
   exact q
theorem n8{α:Type}(P:afe->Prop)  f :∀(l:List α)  t ,(∀t,∀x∈l,P t->P (f t x))->P t->P (l.foldl f t)
 |[],_,_,h=>h
 |x::l,t,a,h=>n8 P f l _ (λu y b=>a u y (by simp[b])) (a t x (by simp) h)
def iZ(l:afg)(s:Int × Int)(b:Int):Int × Int:=(if s.1<1048576 then br l s.1 s.2 b else 1048576,b)
def cx(l:afg)(s:Int × Int)(q:afe):Int × Int:=q.foldl (iZ l) s
def fin(a:Int)(q:afe):Int:=q.foldl (λ_ b=>b) a
theorem l8(a b:Int)(q:afe):fin a (q++[b])=b:=by unfold fin;rw[aaG];rfl
theorem iJ(l:afg):∀(q:afe) (s:Int × Int),(cx l s q).2=fin s.2 q
 |[],_=>rfl
 |b::q,s=>iJ l q (iZ l s b)
section
variable{l:afg}
theorem sM(h a b:Int):br l h a b<=1048576:=(kP h a b l 1048576).1
theorem wV{s s':Int × Int}(a:s.1<=s'.1)(c:s.2=s'.2)(b:Int):(iZ l s b).1<=(iZ l s' b).1:=by
 unfold iZ;simp only;by_cases g:s'.1<1048576
 . rw[Rp g,Rp (by omega),c]
   exact(iX.refl l).Ik a
 rw[KD g];split
 . exact sM _ _ _
 exact aat _
theorem sN:∀(q:afe){s s':Int × Int},s.1<=s'.1->s.2=s'.2->(cx l s q).1<=(cx l s' q).1
 |[],_,_,h,_=>h
 |b::q,s,s',a,c=>sN q (wV a c b) rfl
theorem En(a:∀x∈l,1<=x.aQ){s:Int × Int}(h:s.1<=1048576)(b:Int):s.1<=(iZ l s b).1/\(iZ l s b).1<=1048576:=by
 unfold iZ;simp only;split
 . exact⟨vB l _ a (aat _) h,sM _ _ _⟩
 exact⟨h,aat _⟩
theorem fN(a:∀x∈l,1<=x.aQ):∀(q:afe){s:Int × Int},s.1<=1048576->s.1<=(cx l s q).1/\(cx l s q).1<=1048576
 |[],_,h=>⟨aat _,h⟩
 |b::q,s,h=>by have c:=En a h b;have d:=fN a q c.2;exact⟨adm c.1 d.1,d.2⟩
theorem dY(s:Int × Int)(u v:afe):cx l s (u++v)=cx l (cx l s u) v:=aaG ..
theorem oa{n:Nat}{t:afe}(c:Closed l n t)(d:∀i,t.getD i 0<=1048576):∀(q:afe){s:Int × Int},(∀x∈q,0<=x/\x<n)->(0<=s.2/\s.2<n)->t.getD s.2.toNat 0<=s.1->t.getD (fin s.2 q).toNat 0<=(cx l s q).1
 |[],_,_,_,h=>h
 | b ::q,s,e,g,h=>by
   have hb:=e b (by simp);refine oa c d q (s:=iZ l s b) (λx f=>e x (by simp[f])) hb ?_;show t.getD b.toNat 0<=(if s.1<1048576 then br l s.1 s.2 b else 1048576);split
   . have j:=c s.2.toNat b.toNat (by omega) (by omega) (by omega)
     have k:=(iX.refl l).Ik (a:=(s.2.toNat:Int)) (b:=(b.toNat:Int)) h;rw[show(s.2.toNat:Int)=s.2 by omega,show(b.toNat:Int)=b by omega]at *;omega
   exact d _
def ib(l:afg)(n:Nat)(s0:Int × Int)(t:afe):Prop:=t.length=4/\∀b:Nat,b<n->t.getD b 0<1048576->∃q,(∀x∈q,0<=x/\x<(n:Int))/\cx l s0 q=(t.getD b 0,(b:Int))
theorem wW{n:Nat}{s0:Int × Int}{a b:Nat}(i:a<n)(hb:b<n){t:afe}(h:ib l n s0 t):ib l n s0 (fM l a b t):=by
 unfold fM;split
 . next g=>
   refine⟨by rw[ada];exact h.1,λc j d=>?_⟩;rw[jJ]at d ⊢;split at d
   . next e=>
     rw[Rp e];rw[e.1];split
     . next f=>
       obtain⟨q,k,m⟩:=h.2 a i g;refine⟨q++[(b:Int)],λx hx=>?_,?_⟩
       . rcases aan.1 hx with hx|hx
         . exact k x hx
         rw[lb.1 hx];omega
       rw[dY,m];show(if t.getD a 0<1048576 then br l (t.getD a 0) a b else 1048576,(b:Int))=_;rw[Rp g]
     next f=>
     rw[KD f]at d;exact h.2 b hb d
   next e=>
   rw[KD e];exact h.2 c j d
 exact h
theorem sO{n:Nat}{s0:Int × Int}{t:afe}(h:ib l n s0 t):ib l n s0 (pass l n t):=n8 (ib l n s0) _ _ _ (λ_ _ a b=>n8 (ib l n s0) _ _ _ (λ_ _ hb c=>wW (zH.1 a) (zH.1 hb) c) b) h
theorem l9{n:Nat}{s0:Int × Int}:∀(k:Nat){t:afe},ib l n s0 t->ib l n s0 (bV l n k t)
 |0,_,h=>h
 | k+1,t,h=>by
   unfold bV;split
   . exact h
   exact l9 k (sO h)
theorem q8{n:Nat}(c:n<=4){town hour:Int}(d:0<=town):ib l n (hour,town) (begun town hour):=by
 refine⟨by simp[begun],λb hb a=>?_⟩;unfold begun at a ⊢;rw[jJ]at a ⊢;split at a
 . next e=>rw[Rp e];exact⟨[],by simp,by show(hour,town)=_;rw[show(b:Int)=town by omega]⟩
 exfalso
 match b with
 |0=>simp at a
 |1=>simp at a
 |2=>simp at a
 |3=>simp at a
 |b+4=>omega
structure Plain(a:Int)(q:afe):Prop where
 once:∀u1 u2 v,q=u1++u2++v->u2≠[]->fin a u1≠fin a (u1++u2)
 last:∀u v,q=u++v->v≠[]->fin a u≠0
theorem vC(a:Int)(u v:afe):fin a (u++v)=fin (fin a u) v:=aaG ..
theorem vD(d:∀x∈l,1<=x.aQ){s0:Int × Int}(t:s0.1<=1048576){R:afe->Prop}(y:∀u v w,R (u++v++w)->R (u++w)):∀(m:Nat) (q:afe),q.length=m->R q->fin s0.2 q=0->∃q',R q'/\fin s0.2 q'=0/\Plain s0.2 q'/\(cx l s0 q').1<=(cx l s0 q).1/\(q'=q\/q'.length<q.length):=by
 intro m
 induction m using Nat.strongRecOn with
 | _ m A=>
   intro q B g C
   by_cases D:∀a b v,q=a++b++v->b≠[]->fin s0.2 a≠fin s0.2 (a++b)
   . by_cases E:∀u v,q=u++v->v≠[]->fin s0.2 u≠0
     . exact⟨q,g,C,⟨D,E⟩,aat _,.inl rfl⟩
     obtain⟨u,v,e,h,i⟩:∃u v,q=u++v/\v≠[]/\fin s0.2 u=0:=by refine aaH λz=>E λu v e h i=>z ⟨u,v,e,h,i⟩
     have hlen:u.length<m:=by rw[<-B,e,aam];have:=adE.2 h;omega
     have j:R u:=by have:=y u v [] (by rw[aaE,<-e];exact g);rwa [aaE]at this
     obtain⟨q',k,n,o,p,c⟩:=A u.length hlen u rfl j i;refine⟨q',k,n,o,adm p ?_,.inr (by rcases c with rfl|c<;>omega)⟩
     rw[e,dY];exact(fN d v (fN d u t).2).1
   obtain⟨a,b,v,e,r,f⟩:∃a b v,q=a++b++v/\b≠[]/\fin s0.2 a=fin s0.2 (a++b):=by refine aaH λz=>D λa b v e F f=>z ⟨a,b,v,e,F,f⟩
   have hlen:(a++v).length<m:=by rw[<-B,e,aam,aam,aam];have:=adE.2 r;omega
   have s:fin s0.2 (a++v)=0:=by rw[<-C,e,vC,f,<-vC]
   obtain⟨q',k,n,o,p,c⟩:=A _ hlen (a++v) rfl (y a b v (by rw[<-e];exact g)) s
   refine⟨q',k,n,o,adm p ?_,.inr (by rcases c with rfl|c<;>omega)⟩
   rw[e,dY,dY];refine sN v ?_ (by rw[iJ,iJ,f])
   rw[dY];exact(fN d b (fN d a t).2).1
theorem Eo(a b:Int):∀(u:afe),b∈a::u->∃c d,u=c++d/\fin a c=b
 | u,h=>by
   rcases aaw.1 h with rfl|h
   . exact⟨[],u,rfl,rfl⟩
   obtain⟨x,y,rfl⟩:=List.append_of_mem h;exact⟨x++[b],y,by simp,l8 a b x⟩
theorem Plain.nodup{a:Int}:∀{q:afe},(∀c d v,q=c++d++v->d≠[]->fin a c≠fin a (c++d))->(a::q).Nodup:=by
 intro q h;induction q generalizing a with
 |nil=>simp
 | cons b q f=>
   refine aaZ.2 ⟨λg=>?_,f λc d v e i=>?_⟩
   . obtain⟨x,y,e⟩:=List.append_of_mem g
     refine h [] (x++[a]) y (by rw[e];simp) (by simp) ?_;rw[adC,l8];rfl
   have:=h (b::c) d v (by rw[e];simp) i;exact this
end
theorem eC(a:Int)(q:afe):lastT (a::q)=fin a q:=by
 unfold lastT;induction q generalizing a with
 |nil=>rfl
 |cons b q c=>rw[List.getLast?_cons_cons,c];rfl
theorem qt{w:cC}(d:∀x∈w.ways,1<=x.aQ){s0:Int × Int}(h:s0.1<=1048576){q:afe}(i:Plain s0.2 q)(j:∀x∈q,0<=x/\x<w.aF)(k:(cx w.ways s0 q).1<1048576):∀(m:Nat) (u v:afe),u.length=m->q=u++v->(s0.2::u,(cx w.ways s0 u).1)∈gi w ([s0.2],s0.1) u.length
 |0,u,v,c,_=>by obtain rfl:=adg.1 c;show([s0.2],s0.1)∈[([s0.2],s0.1)];simp
 | m + 1,u,v,c,e=>by
   obtain⟨x,b,rfl⟩:∃x b,u=x++[b]:=by
    rcases List.eq_nil_or_concat u with rfl|⟨x,b,rfl⟩
    . simp at c
    exact⟨x,b,by simp⟩
   have l:x.length=m:=by simpa using c
   have n:=qt d h i j k m x (b::v) l (by rw[e];simp)
   have o:=j b (by rw[e];simp)
   have f:(cx w.ways s0 (x++[b])).1<1048576:=by have:=(fN d v (fN d (x++[b]) h).2).1;rw[<-dY,<-e]at this;omega
   have g:(cx w.ways s0 x).1<1048576:=by have:=(fN d [b] (fN d x h).2).1;rw[<-dY]at this;omega
   have a:(cx w.ways s0 (x++[b])).1=br w.ways (cx w.ways s0 x).1 (fin s0.2 x) b:=by
    rw[dY];show(if(cx w.ways s0 x).1<1048576 then br w.ways (cx w.ways s0 x).1 (cx w.ways s0 x).2 b else 1048576)=_
    rw[Rp g,iJ]
   have hlen:(x++[b]).length=x.length+1:=by simp
   rw[hlen];unfold gi;refine aaR.2 ⟨_,n,?_⟩;unfold gM;simp only;rw[eC,KD (i.last x (b::v) (by rw[e];simp) (by simp))]
   unfold iW;refine aab.2 ⟨b.toNat,aaC.2 ⟨zH.2 (by omega),?_⟩,?_⟩
   . unfold qo
     simp only;rw[eC,show((b.toNat:Nat):Int)=b by omega,zj,zR,<-a]
     refine⟨f,?_⟩;rw[adw,aaU];intro c;obtain⟨p,r,s,t⟩:=Eo s0.2 b x c;refine i.once p (r++[b]) v (by rw[e,s];simp) (by simp) ?_
     rw[t,<-List.append_assoc,l8]
   simp only;rw[eC,show((b.toNat:Nat):Int)=b by omega,a]
   rfl
theorem vE{w:cC}(b:w.Valid){c:Nat}(e:c<w.aj.length){p:afe}(f:∀x∈p,0<=x/\x<w.aF)(g:fin w.aj[c].town p=0):ba w c<=(cx w.ways (w.aj[c].hour,w.aj[c].town) p).1:=by
 have a:=b.ov.2 _ (ys e);have k:=b.aF
 have j:ba w c=(cQ w.ways w.aF.toNat w.aj[c].town w.aj[c].hour).getD 0 0:=by unfold ba;rw[zA e];rfl
 rw[j]
 have:=oa (pK (l:=w.ways) (λy d=>(b.cN y d).2.2.1) (n:=w.aF.toNat) (by omega) (town:=w.aj[c].town) (hour:=w.aj[c].hour) ⟨a.2.1,a.2.2⟩) (λi=>((ko (λy d=>(b.cN y d).2.2.1) _ _ (nu (town:=w.aj[c].town) ⟨a.2.1,a.2.2⟩)).2 i).2) p (s:=(w.aj[c].hour,w.aj[c].town)) (λx h=>by have:=f x h;omega) ⟨a.1.1,by show w.aj[c].town<_;omega⟩ (by
  show(cQ w.ways w.aF.toNat w.aj[c].town w.aj[c].hour).getD w.aj[c].town.toNat 0<=w.aj[c].hour;have:=qX (l:=w.ways) (n:=w.aF.toNat) (town:=w.aj[c].town) (hour:=w.aj[c].hour) ⟨a.2.1,a.2.2⟩ w.aj[c].town.toNat;refine adm this ?_;unfold begun;rw[jJ,Rp ⟨rfl,by simp;omega⟩]
  exact aat _)
 rw[show fin w.aj[c].town p=0 from g]at this
 exact this
theorem tz{w:cC}(a:w.Valid){c:Nat}(b:c<w.aj.length)(s:ba w c<1048576):∃p,(∀x∈p,0<=x/\x<w.aF)/\fin w.aj[c].town p=0/\Plain w.aj[c].town p/\(cx w.ways (w.aj[c].hour,w.aj[c].town) p).1=ba w c:=by
 have hx:=a.ov.2 _ (ys b);have t:=a.aF;have i:∀x∈w.ways,1<=x.aQ:=λy j=>(a.cN y j).2.2.1.1
 have d:ba w c=(cQ w.ways w.aF.toNat w.aj[c].town w.aj[c].hour).getD 0 0:=by unfold ba;rw[zA b];rfl
 obtain⟨q,k,e⟩:=(l9 (l:=w.ways) (n:=w.aF.toNat) (mI (begun w.aj[c].town w.aj[c].hour)+1) (q8 (l:=w.ways) (by omega) (hour:=w.aj[c].hour) hx.1.1)).2 0 (by omega) (by show(cQ w.ways w.aF.toNat w.aj[c].town w.aj[c].hour).getD 0 0<_;rw[<-d];omega)
 have A:(cx w.ways (w.aj[c].hour,w.aj[c].town) q).1=ba w c:=by rw[e,d];rfl
 have m:fin w.aj[c].town q=0:=by have:=iJ w.ways q (w.aj[c].hour,w.aj[c].town);rw[e]at this;exact this.symm
 obtain⟨p,f,g,o,B,_⟩:=vD i (s0:=(w.aj[c].hour,w.aj[c].town)) (by show w.aj[c].hour<=_;omega) (R:=λq=>∀x∈q,0<=x/\x<w.aF) (λu v z h x hx=>h x (by
  rcases aan.1 hx with hx|hx
  . simp[hx]
  simp[hx])) q.length q rfl (λx hx=>by have:=k x hx;omega) m
 have r:=vE a b f g;exact⟨p,f,g,o,by omega⟩
theorem rf{w:cC}(b:w.Valid){c:Nat}(f:c<w.aj.length)(l:ba w c<=72):(ia w c w.aj[c]).isSome=true:=by
 have m:=b.ov.2 _ (ys f);have n:=b.aF;have i:∀x∈w.ways,1<=x.aQ:=λy j=>(b.cN y j).2.2.1.1
 obtain⟨p,g,k,h,o⟩:=tz b f (by omega);have d:=qt i (s0:=(w.aj[c].hour,w.aj[c].town)) (by show w.aj[c].hour<=_;omega) h g (by omega) p.length p [] rfl (by simp);have e:=Plain.nodup h.once
 have hlen:=lu w.aF.toNat _ e λx a=>by
  rcases aaw.1 a with rfl|a
  . show 0<=w.aj[c].town/\w.aj[c].town<_;omega
  have:=g x a;omega
 unfold ia;rw[List.find?_isSome];refine⟨_,aaR.2 ⟨p.length,zH.2 (by simp at hlen;omega),d⟩,?_⟩;unfold oD;simp only;rw[eC,zj,zR,zR];exact⟨k,by omega⟩
def bL(T:Nat):Nat->aeJ
 |0=>[[]]
 |k+1=>(bL T k).flatMap λp=>(List.range T).map λ(j:Nat)=>p++[(j:Int)]
theorem jR{T:Nat}:∀{k:Nat}{p:afe},p∈bL T k↔p.length=k/\∀x∈p,0<=x/\x<(T:Int)
 |0,p=>by simp only[bL,lb,adg];exact⟨λe=>⟨e,by rw[e];simp⟩,λe=>e.1⟩
 | k + 1,p=>by
   simp only[bL,aaR,aab,zH];constructor
   . rintro⟨q,d,j,f,rfl⟩
     have:=jR.1 d;refine⟨by simp[this.1],λx hx=>?_⟩;rcases aan.1 hx with hx|hx
     . exact this.2 x hx
     rw[lb.1 hx];omega
   rintro⟨a,c⟩;rcases List.eq_nil_or_concat p with rfl|⟨q,b,rfl⟩
   . simp at a
   have hb:=c b (by simp);refine⟨q,jR.2 ⟨by simpa using a,λx hx=>c x (by simp[hx])⟩,b.toNat,by omega,?_⟩;rw[show((b.toNat:Nat):Int)=b by omega];simp
theorem CB(T:Nat):∀k,(bL T k).Nodup
 |0=>by simp[bL]
 | k + 1=>by
   unfold bL;refine List.pairwise_flatMap.2 ⟨λp _=>?_,(CB T k).imp λ{p q} a x c y d e=>?_⟩
   . refine aen.2 (List.nodup_range.imp λ{i j} b e=>b ?_)
     have:=List.append_cancel_left e;simp at this;omega
   obtain⟨i,_,rfl⟩:=aab.1 c;obtain⟨j,_,f⟩:=aab.1 d;rw[<-f]at e;exact a (List.append_inj' e rfl).1
theorem As{α β:Type}{f:α->List β}:∀{xs b:List α},xs.Sublist b->(xs.flatMap f).Sublist (b.flatMap f)
 |_,_,.slnil=>adJ _
 |_,_,.cons a h=>by rw[acg];exact(As h).trans (List.sublist_append_right _ _)
 |_,_,.cons_cons a h=>by rw[acg,acg];exact List.Sublist.append (adJ _) (As h)
theorem CC{α β:Type}{f g:α->List β}(h:∀a,(f a).Sublist (g a)):∀xs:List α,(xs.flatMap f).Sublist (xs.flatMap g)
 |[]=>adJ _
 |a::xs=>by rw[acg,acg];exact List.Sublist.append (h a) (CC h xs)
theorem Au{α:Type}{P:α->Bool}{x:α}:∀{B A:List α},B.Sublist A->A.Nodup->A.find? P=some x->x∈B->B.find? P=some x
 |_,_,.slnil,_,h,_=>h
 | _,_,.cons a h,c,b,hx=>by
   rw[List.find?_cons]at b;split at b
   . obtain rfl:=aax b
     exact absurd (h.subset hx) (aaZ.1 c).1
   exact Au h (aaZ.1 c).2 b hx
 | _,_,.cons_cons a h,c,b,hx=>by
   rw[List.find?_cons]at b ⊢;split at b
   . exact b
   next e=>
   rcases aaw.1 hx with rfl|hx
   . have:=List.find?_some b
     rw[e]at this;cases this
   exact Au h (aaZ.1 c).2 b hx
theorem Sg(w:cC)(r0:afe × Int):∀k,((gi w r0 (k+1)).map (·.1)).Sublist (((gi w r0 k).map (·.1)).flatMap λp=>(List.range w.aF.toNat).map λ(j:Nat)=>p++[(j:Int)]):=λk=>by
 show(((gi w r0 k).flatMap (gM w)).map (·.1)).Sublist _;rw[List.map_flatMap,List.flatMap_map];refine CC (λr=>?_) _;unfold gM;split
 . exact List.nil_sublist _
 unfold iW;rw[adX];exact List.Sublist.map _ List.filter_sublist
theorem J3{w:cC}{a h:Int}(i:0<=a/\a<w.aF):∀k,((gi w ([a],h) k).map (·.1)).Sublist ((bL w.aF.toNat (k+1)).filter λp=>decide (p.head?=some a))
 |0=>by show[[a]].Sublist _;rw[List.singleton_sublist,aaC];exact⟨jR.2 ⟨rfl,λx b=>by rw[lb.1 b];omega⟩,by simp⟩
 | k + 1=>by
   refine(Sg w ([a],h) k).trans ?_;refine(As (J3 i k)).trans ?_;show List.Sublist _ (((bL w.aF.toNat (k+1)).flatMap λp=>(List.range w.aF.toNat).map λ(j:Nat)=>p++[(j:Int)]).filter _);rw[List.filter_flatMap]
   have key:∀L:aeJ,(∀p∈L,p≠[])->((L.filter λp=>decide (p.head?=some a)).flatMap λp=>(List.range w.aF.toNat).map λ(j:Nat)=>p++[(j:Int)])=L.flatMap λp=>((List.range w.aF.toNat).map λ(j:Nat)=>p++[(j:Int)]).filter λp=>decide (p.head?=some a):=λL=>by
    induction L with
    |nil=>intro _;rfl
    | cons p L l=>
      intro d;have c:=d p (by simp);have f:∀j:Nat,(p++[(j:Int)]).head?=p.head?:=λj=>by cases p with|nil=>exact absurd rfl c|cons x p=>rfl
      rw[acg,<-l λq m=>d q (by simp[m])];by_cases g:p.head?=some a
      . rw[List.filter_cons_of_pos (by simpa using g),acg]
        congr 1;refine(List.filter_eq_self.2 λx b=>?_).symm;obtain⟨j,_,rfl⟩:=aab.1 b;rw[f,g];simp
      rw[List.filter_cons_of_neg (by simpa using g)];rw[show(((List.range w.aF.toNat).map λ(j:Nat)=>p++[(j:Int)]).filter λp=>decide (p.head?=some a))=[]from adV.2 λx b=>by obtain⟨j,_,rfl⟩:=aab.1 b;rw[f];simpa using g];rfl
   rw[key _ λp c e=>by rw[e]at c;have:=(jR.1 c).1;simp at this];exact adJ _
theorem wX{w:cC}{a h:Int}(d:h<1048576):∀(k:Nat) (r:afe × Int),r∈gi w ([a],h) k->∃u,r.1=a::u/\u.length=k/\(∀x∈u,0<=x/\x<(w.aF.toNat:Int))/\(cx w.ways (h,a) u).1=r.2/\r.2<1048576
 | 0,r,b=>by
   have:r=([a],h):=by simpa[gi]using b
   subst this;exact⟨[],rfl,rfl,by simp,rfl,d⟩
 | k + 1,r,b=>by
   simp only[gi,aaR]at b;obtain⟨y,f,b⟩:=b;obtain⟨u,e,g,i,l,m⟩:=wX d k y f;unfold gM at b;split at b
   . cases b
   unfold iW at b;obtain⟨j,n,rfl⟩:=aab.1 b;obtain⟨o,c⟩:=aaC.1 n;unfold qo at c;rw[zj,zR]at c;have p:lastT y.1=fin a u:=by rw[e,eC]
   refine⟨u++[(j:Int)],by rw[e];rfl,by simp[g],λx hx=>?_,?_,c.1⟩
   . rcases aan.1 hx with hx|hx
     . exact i x hx
     rw[lb.1 hx];have:=zH.1 o;omega
   rw[dY];show(if(cx w.ways (h,a) u).1<1048576 then br w.ways (cx w.ways (h,a) u).1 (cx w.ways (h,a) u).2 j else 1048576)=br w.ways y.2 (lastT y.1) j;rw[iJ,l,Rp m,p]
def jm(cost:afe->Int)(s:Int × List Int)(l:afe):Int × List Int:=if cost l<s.1 then(cost l,l)else s
theorem Es(cost:afe->Int):∀(A:aeJ) (s:Int × List Int),(A.foldl (jm cost) s).1<=s.1/\(∀l∈A,(A.foldl (jm cost) s).1<=cost l)/\((A.foldl (jm cost) s).1<s.1->A.find? (λl=>decide (cost l=(A.foldl (jm cost) s).1))=some (A.foldl (jm cost) s).2)/\((A.foldl (jm cost) s).1=s.1->A.foldl (jm cost) s=s)
 |[],s=>⟨aat _,by simp,λh=>absurd h (by simp),λ_=>rfl⟩
 | a :: A,s=>by
   rw[aaS]
   by_cases g:cost a<s.1
   . have e:jm cost s a=(cost a,a):=by unfold jm;rw[Rp g]
     rw[e];obtain⟨c,d,f,i⟩:=Es cost A (cost a,a);refine⟨by simp only at c;omega,λl b=>?_,λ_=>?_,λq=>by simp only at c;omega⟩
     . rcases aaw.1 b with rfl|b
       . exact c
       exact d l b
     by_cases j:(A.foldl (jm cost) (cost a,a)).1=cost a
     . rw[i j,List.find?_cons_of_pos (by simp)]
     rw[List.find?_cons_of_neg (by simpa using λq=>j q.symm)]
     exact f (by simp only at c ⊢;omega)
   have e:jm cost s a=s:=by unfold jm;rw[KD g]
   rw[e];obtain⟨c,d,f,i⟩:=Es cost A s;refine⟨c,λl b=>?_,λq=>?_,i⟩
   . rcases aaw.1 b with rfl|b
     . omega
     exact d l b
   rw[List.find?_cons_of_neg (by simp;omega)]
   exact f q
theorem find_congr{α:Type}{p q:α->Bool}:∀{l:List α},(∀y∈l,p y=q y)->l.find? p=l.find? q
 |[],_=>rfl
 |a::l,h=>by rw[List.find?_cons,List.find?_cons,h a (by simp),find_congr λy b=>h y (by simp[b])]
theorem rk{α:Type}{L:Nat->List α}{P:α->Bool}{x:α}{T:Nat}(h:((List.range T).flatMap L).find? P=some x):∃k,k<T/\(L k).find? P=some x/\∀k'<k,(L k').find? P=none:=by
 rw[List.find?_flatMap,List.findSome?_eq_some_iff]at h;obtain⟨g,k,i,e,b,c⟩:=h;have d:k<T:=zH.1 (by rw[e];simp);refine⟨k,d,b,λk' f=>c k' ?_⟩;have hm:k'∈List.range T:=zH.2 (by omega);have a:(List.range T).Pairwise (·<·):=List.pairwise_lt_range;rw[e]at hm a;rcases aan.1 hm with hm|hm
 . exact hm
 exfalso;rcases aaw.1 hm with rfl|hm
 . omega
 have:=(aaK.1 (List.pairwise_append.1 a).2.1).1 k' hm;omega
def pL(w:cC)(town:Int)(k:Nat):aeJ:=((bL w.aF.toNat (k+1)).filter λp=>decide (p.head?=some town)).filter λp=>decide (lastT p=0)
def jo(w:cC)(a:BC)(l:afe):Int:=(cx w.ways (a.hour,a.town) l.tail).1
theorem oe{w:cC}{town:Int}{k:Nat}{p:afe}(f:0<=town/\town<w.aF):p∈pL w town k↔∃q,p=town::q/\q.length=k/\(∀x∈q,0<=x/\x<w.aF)/\fin town q=0:=by
 unfold pL;rw[aaC,aaC,jR,zR,zR];constructor
 . rintro⟨⟨⟨c,d⟩,b⟩,e⟩
   cases p with
   |nil=>cases b
   | cons a q=>
     obtain rfl:a=town:=by simpa using b
     rw[eC]at e;exact⟨q,rfl,by simpa using c,λx hx=>by have:=d x (by simp[hx]);omega,e⟩
 rintro⟨q,rfl,c,d,b⟩;refine⟨⟨⟨by simp[c],λx hx=>?_⟩,rfl⟩,by rw[eC];exact b⟩;rcases aaw.1 hx with rfl|hx
 . omega
 have:=d x hx;omega
theorem Et{w:cC}(t:w.Valid){c:Nat}(E:c<w.aj.length){s:Int × List Int}(S:s=((List.range w.aF.toNat).flatMap (pL w w.aj[c].town)).foldl (jm (jo w w.aj[c])) (1048576,[])):
 (¬ba w c<1048576->s.1=1048576)/\(ba w c<1048576->s.1=ba w c/\∀r,ia w c w.aj[c]=some r->r.1=s.2):=by
 have hx:=t.ov.2 _ (ys E);have hT:=t.aF;have T:∀x∈w.ways,1<=x.aQ:=λy J=>(t.cN y J).2.2.1.1
 have B:0<=w.aj[c].town/\w.aj[c].town<w.aF:=hx.1;obtain⟨A,F⟩:∃A,A=(List.range w.aF.toNat).flatMap (pL w w.aj[c].town):=⟨_,rfl⟩;obtain⟨U,V,G,_⟩:=Es (jo w w.aj[c]) A (1048576,[]);rw[<-F]at S;rw[<-S]at U V G;simp only at U G
 have C:∀l∈A,ba w c<=jo w w.aj[c] l:=λl H=>by rw[F]at H;obtain⟨k,_,H⟩:=aaR.1 H;obtain⟨q,rfl,_,I,D⟩:=(oe B).1 H;exact vE t E I D
 have b:s.1<1048576->s.2∈A/\jo w w.aj[c] s.2=s.1:=λz=>by have e:=G z;exact⟨List.mem_of_find?_eq_some e,by simpa using List.find?_some e⟩
 refine⟨λz=>?_,λz=>?_⟩
 . rcases aew s.1 1048576 with y|y
   . obtain⟨K,W⟩:=b y
     have:=C _ K;omega
   omega
 obtain⟨p,X,p2,p3,p4⟩:=tz t E z;have L:=Plain.nodup p3.once
 have hlen:=lu w.aF.toNat _ L λx m=>by
  rcases aaw.1 m with rfl|m
  . show 0<=w.aj[c].town/\w.aj[c].town<_;omega
  have:=X x m;omega
 have M:w.aj[c].town::p∈A:=by rw[F];exact aaR.2 ⟨p.length,zH.2 (by simp at hlen;omega),(oe B).2 ⟨p,rfl,rfl,X,p2⟩⟩
 have N:=V _ M;rw[show jo w w.aj[c] (w.aj[c].town::p)=ba w c from p4]at N
 obtain⟨K,W⟩:=b (by omega)
 have n:s.1=ba w c:=by have:=C _ K;omega
 refine⟨n,λr Y=>?_⟩
 have e:=G (by omega)
 rw[n]at e;rw[F]at e;obtain⟨k,hk,Z,e2⟩:=rk e;obtain⟨q,hq,q1,I,D⟩:=(oe B).1 (List.mem_of_find?_eq_some Z)
 have q4:(cx w.ways (w.aj[c].hour,w.aj[c].town) q).1=ba w c:=by have:=n ▸ W;rw[hq]at this;exact this
 have f:Plain w.aj[c].town q:=by
  obtain⟨O,r1,r2,r3,r4,r5⟩:=vD T (s0:=(w.aj[c].hour,w.aj[c].town)) (by show w.aj[c].hour<=_;omega) (R:=λq=>∀x∈q,0<=x/\x<w.aF) (λu v z h x hx=>h x (by
   rcases aan.1 hx with hx|hx
   . simp[hx]
   simp[hx])) q.length q rfl I D
  rcases r5 with rfl|r5
  . exact r3
  exfalso
  have:=vE t E r1 r2;have j:=e2 O.length (by omega)
  rw[ado]at j;refine j _ ((oe B).2 ⟨O,rfl,rfl,r1,r2⟩) ?_;rw[zR];show(cx w.ways (w.aj[c].hour,w.aj[c].town) O).1=_;omega
 have o:=qt T (s0:=(w.aj[c].hour,w.aj[c].town)) (by show w.aj[c].hour<=_;omega) f I (by omega) q.length q [] rfl (by simp)
 rw[q1,q4]at o;unfold ia at Y;obtain⟨d,_,f1,f2⟩:=rk Y
 have hG:oD w (ba w c) (w.aj[c].town::q,ba w c)=true:=by unfold oD;simp only;rw[eC,zj,zR,zR];exact⟨D,trivial⟩
 have a7:d<=k:=by
  refine aaH λz=>?_
  have j:=f2 k (by omega)
  rw[ado]at j;exact j _ o hG
 obtain⟨u,u1,u2,u3,u4,u5⟩:=wX (w:=w) (a:=w.aj[c].town) (h:=w.aj[c].hour) (by omega) d r (List.mem_of_find?_eq_some f1)
 have g:=List.find?_some f1;unfold oD at g;rw[zj,zR,zR,u1,eC]at g
 have a8:k<=d:=by
  refine aaH λz=>?_
  have j:=e2 d (by omega)
  rw[ado]at j;refine j (w.aj[c].town::u) ((oe B).2 ⟨u,rfl,u2,λx hx=>by have:=u3 x hx;omega,g.1⟩) ?_
  rw[zR];show(cx w.ways (w.aj[c].hour,w.aj[c].town) u).1=_;rw[u4,g.2]
 obtain rfl:d=k:=by omega
 have hB:(((gi w ([w.aj[c].town],w.aj[c].hour) d).map (·.1)).filter λp=>decide (lastT p=0)).Sublist (pL w w.aj[c].town d):=(J3 B d).filter _
 have i:(pL w w.aj[c].town d).Nodup:=((CB _ _).filter _).filter _
 have P:s.2∈((gi w ([w.aj[c].town],w.aj[c].hour) d).map (·.1)).filter λp=>decide (lastT p=0):=by rw[hq];refine aaC.2 ⟨aab.2 ⟨_,o,rfl⟩,?_⟩;rw[eC,zR];exact D
 have Q:=Au hB i Z P;rw[List.find?_filter,List.find?_map]at Q
 have g2:(gi w ([w.aj[c].town],w.aj[c].hour) d).find? ((λp=>decide (decide (lastT p=0)=true/\decide (jo w w.aj[c] p=ba w c)=true)) ∘ (·.1))=(gi w ([w.aj[c].town],w.aj[c].hour) d).find? (oD w (ba w c)):=find_congr λy J=>by
  obtain⟨v,v1,_,_,v4,_⟩:=wX (w:=w) (a:=w.aj[c].town) (h:=w.aj[c].hour) (by omega) d y J
  have ec:jo w w.aj[c] y.1=y.2:=by rw[v1];exact v4
  unfold oD;show decide (decide (lastT y.1=0)=true/\decide (jo w w.aj[c] y.1=ba w c)=true)=_;rw[ec,adB,zj,zR]
 rw[g2,f1]at Q;exact aax Q
end
open Go.bN Go.Conc
variable{m:Mo}{σ:ab}{KF:aeQ}
theorem yL(T:Nat):∀k,(bL T k).length=T ^ k
 |0=>rfl
 | k + 1=>by
   have:∀L:aeJ,(L.flatMap λp=>(List.range T).map λ(j:Nat)=>p++[(j:Int)]).length=L.length*T:=λL=>by
    induction L with
    |nil=>simp
    |cons a L b=>rw[acg,aam,b,aac,adf,aaI,adK];omega
   rw[bL,this,yL T k,aez]
theorem Lt{T k:Nat}(X:T<=4)(hk:k<=4)(h:KF (.val (rows (bL T k))) σ):aB Tryz.prog m 26 [int T,int k] σ KF:=by
 refine aB.start lay [] [] 2 Tryz.func26 rfl rfl (by rfl) (by kernel_rfl) ?_
 simp[Tryz.f26]
 have hW:(AV.sl 1 [.lit (.slice none 0 0)] .exact).W (rows (bL T 0)):=Ox rfl (by simp) (by simp[bL]) (λi a a' C Y=>by
  match i with
  |0=>simp[bL]at C Y;subst C;subst Y;exact dR 1
  |i+1=>simp at C)
 refine aa.Am 5 (a':=rows (bL T 0)) (by simpa using hW) ?_
 refine aa.loop k (λi s=>∃env c,s=⟨env,c,[],.no⟩/\σ.Le c/\env 0=int T/\env 1=int k/\env 5=rows (bL T i)/\env 6=int i) ⟨_,σ,rfl,ab.le_refl _,by simp⟩ ?_
 rintro c0 i _ hi ⟨env,f,rfl,u,r,g,d,n⟩ ih
 rcases aaA i k with g1|g1
 . have D:(i:Int)<k:=by omega
   have E:=yL T i;have F:=yL T (i+1);have a7:T ^ i<=256:=aap (Nat.pow_le_pow_left X i) (aap (adp (by omega) (show i<=4 by omega)) (by decide))
   have a8:T ^ (i+1)<=256:=aap (Nat.pow_le_pow_left X _) (aap (adp (by omega) (show i+1<=4 by omega)) (by decide))
   have w:∀l∈bL T i,l.length=i:=λl y=>(jR.1 y).1
   obtain⟨L,Z⟩:∃L,L=bL T i:=⟨_,rfl⟩;obtain⟨G,H⟩:∃G:afe->aeJ,G=λp=>(List.range T).map λ(j:Nat)=>p++[(j:Int)]:=⟨_,rfl⟩
   have t:∀l,(G l).length=T:=λl=>by rw[H];show ((List.range T).map _).length=T;rw[aac,adf]
   have I:∀l (j:Nat),j<T->(G l).take (j+1)=(G l).take j++[l++[(j:Int)]]:=λl j hj=>by
    have J:j<(G l).length:=by rw[t];exact hj
    rw[za J];rw[show (G l)[j]=l++[(j:Int)]by simp only[H,aes,List.getElem_range]]
   have o:bL T (i+1)=L.flatMap G:=by rw[Z,H];rfl
   rw[<-Z]at E w d;rw[o]at F;refine aa.run lay [] ?_;simp[g,n,D];refine aa.loop L.length (λx s=>∃env c,s=⟨env,c,[],.no⟩/\env 0=int T/\env 1=int k/\env 5=rows L/\env 6=int i/\env 8=int x/\Go.bN.Tok f c (env 7) 1 (((L.take x).flatMap G).map ints)) ⟨_,f,rfl,by simp[r],by simp[g],by simp[d],by simp[n],by simp,by simpa using Tok.nil f 1⟩ ?_
   clear r g d n
   rintro c1 x _ hx ⟨env,K,rfl,r,g,d,n,v,b⟩ M
   rcases aaA x L.length with g2|g2
   . have BH:(x:Int)<L.length:=by omega
     obtain⟨l,y⟩:∃l,l=L[x]:=⟨_,rfl⟩;have a9:=w l (by rw[y];exact ys g2)
     have q:(L.take (x+1)).flatMap G=(L.take x).flatMap G++G l:=by rw[za g2,adi,<-y];simp
     have z:((L.take x).flatMap G++G l).length<=256:=by
      rw[<-q];refine aap (List.Sublist.length_le ?_) (show(L.flatMap G).length<=256 by omega)
      have e:L.flatMap G=(L.take (x+1)).flatMap G++(L.drop (x+1)).flatMap G:=by rw[<-List.flatMap_append,aeD]
      rw[e];exact List.sublist_append_left _ _
     have N:((L.take x).flatMap G).length+T<=256:=by rw[<-t l,<-List.length_append];exact z
     have f0:-9223372036854775808<=(x:Int)+1/\(x:Int)+1<=9223372036854775807:=by omega
     refine aa.run lay [] ?_;simp[d,v,BH];refine aa.loop T (λj s=>∃env c,s=⟨env,c,[],.no⟩/\env 0=int T/\env 1=int k/\env 5=rows L/\env 6=int i/\env 8=int x/\env 9=int j/\Go.bN.Tok f c (env 7) 1 (((L.take x).flatMap G++(G l).take j).map ints)) ⟨_,K,rfl,by simp[r],by simp[g],by simp[d],by simp[n],by simp[v],by simp,by simpa using b⟩ ?_
     clear r g d n v b
     rintro c2 j _ hj ⟨env,A,rfl,r,g,d,n,v,O,b⟩ P
     have ad:=b.cells;refine aa.run lay [] ?_;simp[r,O];refine aG.intro (λB=>?_) (λB=>?_)<;>(try simp[-Int.not_lt,-Int.not_le,-Nat.not_lt,-Nat.not_le]at B)<;>(try simp[d,v,B])
     . simp[g2,<-y]
       refine ak Tryz.func53 rfl rfl (sJ (by omega) λa4 al Q=>?_)
       refine aa.run lay [] ?_;simp[O];refine fU lay rfl rfl rfl cK rfl cK rfl pQ (by decide) (by simp;omega) (σ0:=A) (es:=l.map int) (xs:=[int j]) (by simpa using Q) (.inl (.inr ⟨_,rfl⟩)) (by simp) λa5 av R=>?_
       refine aa.UT (σ0:=A) (es:=l.map int++[int j]) 35 (by simpa using R) ?_
       refine aa.run lay [] ?_;simp;have Rl:=I l j B;have ax:((G l).take j).length<=T:=by rw[ack,t];omega
       refine aN lay rfl rfl rfl qp rfl qp rfl cK (by decide) (by simp only[aac,aam,ade];omega) (σ0:=f) (es:=((L.take x).flatMap G++(G l).take j).map ints) (xs:=[ints (l++[(j:Int)])]) (by simpa using b) (.inr ⟨_,by simp;rfl⟩) λa6 ay S=>?_
       refine aa.run lay [] ?_;simp[O];refine⟨by omega,P _ B ⟨_,_,rfl,by simp[r],by simp[g],by simp[d],by simp[n],by simp[v],by simp,?_⟩⟩
       rw[Rl];simpa[aaq]using S
     have ej:j=T:=by omega
     subst ej;rw[aaY (l:=G l) (by rw[t];exact aav _)]at b
     refine⟨by omega,M _ g2 ⟨_,_,rfl,by simp[r],by simp[g],by simp[d],by simp[n],by simp,?_⟩⟩
     rw[q];simpa using b
   have U:x=L.length:=by omega
   subst U;rw[aar]at b;refine aa.Am 7 (a':=rows (bL T (i+1))) (by rw[o];simpa using b.W) ?_
   have f0:-9223372036854775808<=(i:Int)+1/\(i:Int)+1<=9223372036854775807:=by omega
   refine aa.run lay [] ?_;simp[d,n,v,f0.1,f0.2];exact ih _ g1 ⟨_,_,rfl,ab.le_trans u b.1,by simp[r,g]⟩
 have V:i=k:=by omega
 subst V;refine aa.run lay [] ?_;simp[g,d,n];exact .less u (.done h)
def dq(t:Int):Int:=if t<1048576 then t else -1
theorem Ga(a:Int)(q:afe)(j:Nat)(hj:j<=q.length):(a::q)[j]?=some (fin a (q.take j)):=by
 cases j with
 |zero=>rfl
 |succ j=>rw[za (by omega),l8,adR,zA (by omega)]
theorem J4(l:afg):∀(q:afe) (b:Int),(cx l (1048576,b) q).1=1048576
 |[],_=>rfl
 | x::q,b=>by
   show(cx l (iZ l (1048576,b) x) q).1=_;unfold iZ;rw[KD (by simp)];exact J4 l q x
theorem UU{h a b best:Int}{x:Way}(q:¬(eu x a b/\cY h x<=x.dD)):qD h a b x best=best:=by
 unfold qD;split
 . rfl
 next z=>rw[KD λc=>q ⟨by unfold eu;omega,c⟩]
theorem Si{h a b best:Int}{x:Way}(q:eu x a b)(c:cY h x<=x.dD):qD h a b x best=if cY h x+x.aQ<best then cY h x+x.aQ else best:=by unfold qD;rw[KD (by unfold eu at q;omega),Rp c]
theorem Io{w:cC}{a h:Int}{q:afe}(hl:w.ways.length<1152921504606846976)(hw:∀x∈w.ways,rW w.aF x)(h0:0<=h/\h<=72)(hq:q.length<=1000)(hK:KF (.val (int (dq (cx w.ways (h,a) q).1))) σ):aB Tryz.prog m 27 [bS w,ints (a::q),int h] σ KF:=by
 have hh:∀x∈w.ways,1<=x.aQ:=λx hx=>(hw x hx).2.2.1.1
 have ax:∀x∈w.ways,1<=x.aQ/\x.aQ<=12:=λx hx=>(hw x hx).2.2.1
 refine aB.start lay [] ZU 3 Tryz.func27 rfl rfl (by rfl) (by kernel_rfl) ?_
 simp[Tryz.f27];refine aa.run lay [] ?_;simp;refine aa.loop q.length (λj s=>∃env H,s=⟨env,σ,[],.no⟩/\(env 1=ints (a::q)/\env 2=int H/\env 3=.cp (bS w) 0/\env 7=int ((j:Int)+1))/\H=(cx w.ways (h,a) (q.take j)).1/\0<=H/\H<1048576) ⟨_,h,rfl,⟨by simp,by simp,by simp,by simp⟩,rfl,by omega,by omega⟩ ?_
 rintro c0 j _ hj ⟨env,H,rfl,⟨f,v,u,g⟩,hH,a7,a8⟩ ih
 refine aa.run lay [] ?_;simp[f,g];refine aG.intro (λg1=>?_) (λg1=>?_)<;>(try simp[-Int.not_lt,-Int.not_le,-Nat.not_lt,-Nat.not_le]at g1)<;>(try simp[v,g1])
 . have U:j<q.length:=by omega
   have hA:=Ga a q j (by omega)
   obtain⟨A,a9⟩:∃A,A=fin a (q.take j):=⟨_,rfl⟩;obtain⟨B,ad⟩:∃B,B=q[j]:=⟨_,rfl⟩;rw[<-a9]at hA;have I:q[j]?=some B:=by rw[ad];exact zA U
   have V:(cx w.ways (h,a) (q.take (j+1))).1=br w.ways H A B:=by rw[za U,dY,<-ad];show(iZ w.ways (cx w.ways (h,a) (q.take j)) B).1=_;unfold iZ;rw[iJ,<-hH,Rp a8,<-a9]
   refine aa.loop w.ways.length (λk s=>∃env,s=⟨env,σ,[],.no⟩/\env 1=ints (a::q)/\env 2=int H/\env 3=.cp (bS w) 0/\env 7=int ((j:Int)+1)/\env 8=int (dq (br (w.ways.take k) H A B))/\env 9=int k) ⟨_,rfl,by simp[f,v,u,g,dq,br]⟩ ?_
   clear f v u g env
   rintro c1 k _ hk ⟨env,rfl,f,v,u,g,p,D⟩ n
   refine aa.runN lay [] 24 ?_;simp[u,D];refine aG.intro (λC=>?_) (λC=>?_)<;>(try simp[-Int.not_lt,-Int.not_le,-Nat.not_lt,-Nat.not_le]at C)<;>(try simp[u,p,D,C])
   . refine bO.intro λd hd=>?_
     simp
     change aa _ _ _ _ _ _ _ _ _
     refine aa.bf 10 (b:=d) (eM w.ways[k]) (ab.ai _ _ _) (by simp) rfl ?_
     rw[dH hd];obtain⟨⟨x1,x2⟩,⟨x3,x4⟩,⟨x5,x6⟩,⟨x7,x8⟩,x9,aC⟩:=hw _ (ys C);have al:=lY (l:=w.ways.take k) (h:=H) (a:=A) (b:=B) (λx hx=>(hw x (adD hx)).2.2.1) a7
     have Q:br (w.ways.take (k+1)) H A B=qD H A B w.ways[k] (br (w.ways.take k) H A B):=by unfold br;rw[za C,aaG];rfl
     obtain⟨F,hF⟩:∃F,F=cY H w.ways[k]:=⟨_,rfl⟩;have aE:0<=F/\F<=1048576:=by rw[hF];unfold cY;split<;>omega
     have av:(if H<w.ways[k].aU then w.ways[k].aU else H)=F:=by rw[hF];rfl
     obtain⟨W,hW⟩:∃W,W=br (w.ways.take k) H A B:=⟨_,rfl⟩;rw[<-hW]at al Q p;have o:(int a::List.map int q)[j]?=some (int A):=by rw[<-List.map_cons,aaM,hA];rfl
     refine aa.run lay [] ?_;simp[f,v,g];refine⟨by omega,?_⟩
     simp only[av];have f1:(0:Int)<=(j:Int)+1:=by omega
     have O:(j:Int)<=9223372036854775807:=by omega
     have f2:F<=w.ways[k].dD -> -9223372036854775808<=F+w.ways[k].aQ/\F+w.ways[k].aQ<=9223372036854775807:=λq=>by omega
     obtain⟨W1,i⟩:∃W1,W1=br (w.ways.take (k+1)) H A B:=⟨_,rfl⟩;rw[<-i]at Q;have J:¬(eu w.ways[k] A B/\F<=w.ways[k].dD)->dq W1=dq W:=λz=>by rw[Q,UU (by rw[<-hF];exact z)]
     have X:eu w.ways[k] A B->F<=w.ways[k].dD->W1=if F+w.ways[k].aQ<W then F+w.ways[k].aQ else W:=λz1 z2=>by rw[Q,Si z1 (by rw[<-hF];exact z2),<-hF]
     have aL:0<=W/\W<=1048576:=al
     by_cases a1:w.ways[k].a=A
     . have G : (w.ways[k].a==A)=true:=by simp[a1]
       by_cases a2:w.ways[k].b=B
       . have P:(w.ways[k].b==B)=true:=by simp[a2]
         have hm:eu w.ways[k] A B:=.inl ⟨a1,a2⟩
         by_cases r:F<=w.ways[k].dD
         . have M:=X hm r
           have t:=f2 r
           by_cases S:W<1048576
           . have E:dq W=W:=by unfold dq;rw[Rp S]
             have T:¬W<0:=by omega
             rw[E]at p
             by_cases L:F+w.ways[k].aQ<W
             . have c:dq W1=F+w.ways[k].aQ:=by rw[M,Rp L];unfold dq;rw[Rp (by omega)]
               simp[f,g,p,o,I,f1,G,P,r,T,t.1,t.2,L];refine aa.run lay [] ?_;simp[D,t.1,t.2];refine⟨by omega,n _ C ⟨_,rfl,by simp[f],by simp[v],by simp[u],by simp[g],by rw[<-i,c];simp,by simp⟩⟩
             have c:dq W1=W:=by rw[M,KD L,E]
             simp[f,g,p,o,I,f1,G,P,r,T,t.1,t.2,L];refine aa.run lay [] ?_;simp[D];refine⟨by omega,n _ C ⟨_,rfl,by simp[f],by simp[v],by simp[u],by simp[g],by rw[<-i,c];simp[p],by simp⟩⟩
           have E:dq W=-1:=by unfold dq;rw[KD S]
           rw[E]at p;have c:dq W1=F+w.ways[k].aQ:=by rw[M,Rp (by omega)];unfold dq;rw[Rp (by omega)]
           simp[f,g,p,o,I,f1,G,P,r];refine aa.run lay [] ?_;simp[D,t.1,t.2];refine⟨by omega,n _ C ⟨_,rfl,by simp[f],by simp[v],by simp[u],by simp[g],by rw[<-i,c];simp,by simp⟩⟩
         have c:=J (λz=>r z.2)
         simp[f,g,o,I,f1,G,P,r];refine aa.run lay [] ?_;simp[D];refine⟨by omega,n _ C ⟨_,rfl,by simp[f],by simp[v],by simp[u],by simp[g],by rw[<-i,c];simp[p],by simp⟩⟩
       have P:(w.ways[k].b==B)=false:=by rw[beq_eq_false_iff_ne];exact a2
       by_cases Y:w.ways[k].b=A
       . have K : (w.ways[k].b==A)=true:=by simp[Y]
         by_cases Z:w.ways[k].a=B
         . have N:(w.ways[k].a==B)=true:=by simp[Z]
           have hm:eu w.ways[k] A B:=.inr ⟨Z,Y⟩
           by_cases r:F<=w.ways[k].dD
           . have M:=X hm r
             have t:=f2 r
             by_cases S:W<1048576
             . have E:dq W=W:=by unfold dq;rw[Rp S]
               have T:¬W<0:=by omega
               rw[E]at p
               by_cases L:F+w.ways[k].aQ<W
               . have c:dq W1=F+w.ways[k].aQ:=by rw[M,Rp L];unfold dq;rw[Rp (by omega)]
                 simp[f,g,p,o,I,f1,O,G,P,K,N,r,T,t.1,t.2,L];refine aa.run lay [] ?_;simp[D,t.1,t.2];refine⟨by omega,n _ C ⟨_,rfl,by simp[f],by simp[v],by simp[u],by simp[g],by rw[<-i,c];simp,by simp⟩⟩
               have c:dq W1=W:=by rw[M,KD L,E]
               simp[f,g,p,o,I,f1,O,G,P,K,N,r,T,t.1,t.2,L];refine aa.run lay [] ?_;simp[D];refine⟨by omega,n _ C ⟨_,rfl,by simp[f],by simp[v],by simp[u],by simp[g],by rw[<-i,c];simp[p],by simp⟩⟩
             have E:dq W=-1:=by unfold dq;rw[KD S]
             rw[E]at p;have c:dq W1=F+w.ways[k].aQ:=by rw[M,Rp (by omega)];unfold dq;rw[Rp (by omega)]
             simp[f,g,p,o,I,f1,O,G,P,K,N,r];refine aa.run lay [] ?_;simp[D,t.1,t.2];refine⟨by omega,n _ C ⟨_,rfl,by simp[f],by simp[v],by simp[u],by simp[g],by rw[<-i,c];simp,by simp⟩⟩
           have c:=J (λz=>r z.2)
           simp[f,g,o,I,f1,O,G,P,K,N,r];refine aa.run lay [] ?_;simp[D];refine⟨by omega,n _ C ⟨_,rfl,by simp[f],by simp[v],by simp[u],by simp[g],by rw[<-i,c];simp[p],by simp⟩⟩
         have N:(w.ways[k].a==B)=false:=by rw[beq_eq_false_iff_ne];exact Z
         have c:=J (λz=>by unfold eu at z;omega)
         simp[f,g,o,I,f1,O,G,P,K,N];refine aa.run lay [] ?_;simp[D];refine⟨by omega,n _ C ⟨_,rfl,by simp[f],by simp[v],by simp[u],by simp[g],by rw[<-i,c];simp[p],by simp⟩⟩
       have K:(w.ways[k].b==A)=false:=by rw[beq_eq_false_iff_ne];exact Y
       have c:=J (λz=>by unfold eu at z;omega)
       simp[f,g,o,I,f1,O,G,P,K];refine aa.run lay [] ?_;simp[D];refine⟨by omega,n _ C ⟨_,rfl,by simp[f],by simp[v],by simp[u],by simp[g],by rw[<-i,c];simp[p],by simp⟩⟩
     have G:(w.ways[k].a==A)=false:=by rw[beq_eq_false_iff_ne];exact a1
     by_cases Y:w.ways[k].b=A
     . have K : (w.ways[k].b==A)=true:=by simp[Y]
       by_cases Z:w.ways[k].a=B
       . have N:(w.ways[k].a==B)=true:=by simp[Z]
         have hm:eu w.ways[k] A B:=.inr ⟨Z,Y⟩
         by_cases r:F<=w.ways[k].dD
         . have M:=X hm r
           have t:=f2 r
           by_cases S:W<1048576
           . have E:dq W=W:=by unfold dq;rw[Rp S]
             have T:¬W<0:=by omega
             rw[E]at p
             by_cases L:F+w.ways[k].aQ<W
             . have c:dq W1=F+w.ways[k].aQ:=by rw[M,Rp L];unfold dq;rw[Rp (by omega)]
               simp[f,g,p,o,I,f1,O,G,K,N,r,T,t.1,t.2,L];refine aa.run lay [] ?_;simp[D,t.1,t.2];refine⟨by omega,n _ C ⟨_,rfl,by simp[f],by simp[v],by simp[u],by simp[g],by rw[<-i,c];simp,by simp⟩⟩
             have c:dq W1=W:=by rw[M,KD L,E]
             simp[f,g,p,o,I,f1,O,G,K,N,r,T,t.1,t.2,L];refine aa.run lay [] ?_;simp[D];refine⟨by omega,n _ C ⟨_,rfl,by simp[f],by simp[v],by simp[u],by simp[g],by rw[<-i,c];simp[p],by simp⟩⟩
           have E:dq W=-1:=by unfold dq;rw[KD S]
           rw[E]at p;have c:dq W1=F+w.ways[k].aQ:=by rw[M,Rp (by omega)];unfold dq;rw[Rp (by omega)]
           simp[f,g,p,o,I,f1,O,G,K,N,r];refine aa.run lay [] ?_;simp[D,t.1,t.2];refine⟨by omega,n _ C ⟨_,rfl,by simp[f],by simp[v],by simp[u],by simp[g],by rw[<-i,c];simp,by simp⟩⟩
         have c:=J (λz=>r z.2)
         simp[f,g,o,I,f1,O,G,K,N,r];refine aa.run lay [] ?_;simp[D];refine⟨by omega,n _ C ⟨_,rfl,by simp[f],by simp[v],by simp[u],by simp[g],by rw[<-i,c];simp[p],by simp⟩⟩
       have N:(w.ways[k].a==B)=false:=by rw[beq_eq_false_iff_ne];exact Z
       have c:=J (λz=>by unfold eu at z;omega)
       simp[f,g,o,I,f1,O,G,K,N];refine aa.run lay [] ?_;simp[D];refine⟨by omega,n _ C ⟨_,rfl,by simp[f],by simp[v],by simp[u],by simp[g],by rw[<-i,c];simp[p],by simp⟩⟩
     have K:(w.ways[k].b==A)=false:=by rw[beq_eq_false_iff_ne];exact Y
     have c:=J (λz=>by unfold eu at z;omega)
     simp[f,g,o,O,G,K];refine aa.run lay [] ?_;simp[D];refine⟨by omega,n _ C ⟨_,rfl,by simp[f],by simp[v],by simp[u],by simp[g],by rw[<-i,c];simp[p],by simp⟩⟩
   have ek:k=w.ways.length:=by omega
   subst ek;rw[aar,<-V]at p;simp only[aar];rw[<-V];obtain⟨R,hR⟩:∃R,R=(cx w.ways (h,a) (q.take (j+1))).1:=⟨_,rfl⟩;rw[<-hR]at p ⊢
   by_cases r:R<1048576
   . have E:dq R=R:=by unfold dq;rw[Rp r]
     have ay:0<=R:=by rw[hR,V];exact(lY ax a7).1
     have n1:¬R<0:=by omega
     rw[E]at p ⊢;simp[p,n1];refine aa.run lay [] ?_;simp[g];refine⟨by omega,ih _ U ⟨_,R,rfl,⟨by simp[f],by simp,by simp[u],by simp⟩,hR,ay,r⟩⟩
   have E:dq R=-1:=by unfold dq;rw[KD r]
   have he:dq (cx w.ways (h,a) q).1=-1:=by
    have e:=dY (l:=w.ways) (h,a) (q.take (j+1)) (q.drop (j+1));rw[aeD]at e;rw[e];have aO:=(fN hh (q.take (j+1)) (s:=(h,a)) (by show h<=_;omega)).2
    obtain⟨y,M⟩:∃y,cx w.ways (h,a) (q.take (j+1))=(1048576,y):=⟨(cx w.ways (h,a) (q.take (j+1))).2,by
     have:(cx w.ways (h,a) (q.take (j+1))).1=1048576:=by omega
     rw[<-this]⟩
    rw[M,J4];rfl
   rw[he]at hK;rw[E]at p ⊢;simp;exact .done hK
 have ej:j=q.length:=by omega
 subst ej;rw[aar]at hH;have:dq (cx w.ways (h,a) q).1=H:=by rw[<-hH];unfold dq;rw[Rp a8]
 rw[this]at hK;exact .done hK
def We(town:Int)(p:afe):Bool:=decide (p.head?=some town) && decide (lastT p=0)
theorem CD(w:cC)(town:Int)(k:Nat):pL w town k=(bL w.aF.toNat (k+1)).filter (We town):=by unfold pL;rw[List.filter_filter];exact ads λp _=>by unfold We;rw[Bool.and_comm]
def mP(w:cC)(a:BC)(k:Nat):Int × List Int:=((List.range k).flatMap (pL w a.town)).foldl (jm (jo w a)) (1048576,[])
def ma(w:cC)(a:BC)(k i:Nat):Int × List Int:=(((bL w.aF.toNat (k+1)).take i).filter (We a.town)).foldl (jm (jo w a)) (mP w a k)
theorem Ip(w:cC)(a:BC)(k:Nat):ma w a k (bL w.aF.toNat (k+1)).length=mP w a (k+1):=by unfold ma;rw[aar,<-CD];show _=((List.range (k+1)).flatMap (pL w a.town)).foldl _ _;rw[aaB,adi,aaG];simp[mP]
theorem Iq(w:cC)(a:BC)(k i:Nat)(h:i<(bL w.aF.toNat (k+1)).length):ma w a k (i+1)=if We a.town (bL w.aF.toNat (k+1))[i]=true then jm (jo w a) (ma w a k i) (bL w.aF.toNat (k+1))[i]else ma w a k i:=by
 unfold ma;rw[za h,aca];split
 . next q=>rw[List.filter_cons_of_pos q,List.filter_nil,aaG];rfl
 next q=>rw[List.filter_cons_of_neg q,List.filter_nil,aaE]
theorem Sj{w:cC}(b:∀x∈w.ways,1<=x.aQ){a:BC}(c:0<=a.hour/\a.hour<=72)(l:afe):0<=jo w a l:=by
 have:=(fN b l.tail (s:=(a.hour,a.town)) (by show a.hour<=_;omega)).1;simp only at this;unfold jo;omega
theorem J5{w:cC}(b:BC)(e:∀l,0<=jo w b l)(A:aeJ)(c:∀l∈A,l.length<=4)(s:Int × List Int)(d:(0<=s.1/\s.1<=1048576)/\s.2.length<=4):(0<=(A.foldl (jm (jo w b)) s).1/\(A.foldl (jm (jo w b)) s).1<=1048576)/\(A.foldl (jm (jo w b)) s).2.length<=4:=by
 induction A generalizing s with
 |nil=>exact d
 | cons a A f=>
   rw[aaS];refine f (λl g=>c l (by simp[g])) _ ?_;unfold jm;split
   . exact⟨⟨e a,by simp only;omega⟩,c a (by simp)⟩
   exact d
theorem Gb{w:cC}(a:BC)(c:∀l,0<=jo w a l)(k:Nat)(e:k<=4):(0<=(mP w a k).1/\(mP w a k).1<=1048576)/\(mP w a k).2.length<=4:=
 J5 a c _ (λl b=>by obtain⟨j,d,b⟩:=aaR.1 b;rw[CD]at b;have:=(jR.1 (aaC.1 b).1).1;have:=zH.1 d;omega) _ (by simp)
theorem Oy{w:cC}(a:BC)(b:∀l,0<=jo w a l)(k i:Nat)(d:k<4):(0<=(ma w a k i).1/\(ma w a k i).1<=1048576)/\(ma w a k i).2.length<=4:=
 J5 a b _ (λl c=>by have:=(jR.1 (adD (aaC.1 c).1)).1;omega) _ (Gb a b k (by omega))
theorem Av(hs:m.solo=true){M:afe}(hn:M.length<1152921504606846976)(h:∀σ',KF (.val (bool true)) σ'):pS Tryz.prog lay m 7 [ints M] σ KF:=by
 refine pS.start lay [] pl7 1 Tryz.func7 rfl rfl (by rfl) (by kernel_rfl) ?_
 simp[Tryz.f7];refine ak Tryz.func10 rfl rfl (wx λc b8 hc hb R=>?_)
 refine aa.run lay [] ?_;simp;refine ak Tryz.func11 rfl rfl (WA.uo (by omega) hn ⟨by omega,by omega⟩ hb λw own lost b9 hm hd=>?_)
 refine aa.runN lay [] 8 ?_;simp;refine bO.intro λd a7=>?_
 simp[aI]
 change aa _ _ _ _ _ _ _ _ _
 refine aa.bf 3 (b:=d) (bS w) (ab.ai _ _ _) (by simp) rfl ?_
 rw[dH a7];have A:=hm.valid;have hk:=hm.yl;have c3:=A.ov.1;have h6:=A.mT;have hT:=A.aF;clear hm hd hb R hc a7;refine aa.run lay [] ?_;simp;refine aa.gN (λenv _=>env 3=.cp (bS w) 0/\env 6=int 0) ?_ ?_
 . exact⟨by simp,by simp⟩
 rintro env U ⟨g,j⟩
 refine aa.loop w.aj.length (λc s=>∃env σ',s=⟨env,σ',[],.no⟩/\env 3=.cp (bS w) 0/\env 6=int c) ⟨env,U,rfl,g,j⟩ ?_
 clear g j env U
 rintro c0 c _ bm ⟨env,U,rfl,g,j⟩ ih
 refine aa.run lay [] ?_;simp[g,j];refine aG.intro (λg1=>?_) (λg1=>?_)<;>(try simp[-Int.not_lt,-Int.not_le,-Nat.not_lt,-Nat.not_le]at g1)<;>(try simp[g1])
 . have oc : dI w [] [] [(c:Int)]=0:=nI hk (by simp) (by simp) (by simp;omega)
   have C:c<w.aj.length:=by omega
   have K:c<3:=by omega
   have aE:=A.ov.2 _ (ys C);obtain⟨f,F⟩:∃f,f=w.aj[c]:=⟨_,rfl⟩;have B:w.aj[c]?=some f:=by rw[F];exact zA C
   rw[<-F]at aE;have aL:∀x∈w.ways,1<=x.aQ:=λx J=>(A.cN x J).2.2.1.1
   have N:∀l,0<=jo w f l:=Sj (λx J=>(A.cN x J).2.2.1.1) (by omega)
   obtain⟨T,aO⟩:∃T:Nat,(T:Int)=w.aF:=⟨w.aF.toNat,by omega⟩
   have a8:w.aF.toNat=T:=by omega
   refine aa.Am 8 (a':=ints []) (by simp;exact dR 1) ?_
   refine aa.gN (λenv _=>env 3=.cp (bS w) 0/\env 6=int c/\env 7=int (dq (mP w f 0).1)/\env 8=ints (mP w f 0).2/\env 9=int 1) ?_ ?_
   . exact⟨by simp[g],by simp[j],by simp[mP,dq],by simp[mP],by simp⟩
   clear g j env
   rintro env G ⟨g,j,o,u,t⟩
   refine aa.loop T (λk s=>∃env σ',s=⟨env,σ',[],.no⟩/\env 3=.cp (bS w) 0/\env 6=int c/\env 7=int (dq (mP w f k).1)/\env 8=ints (mP w f k).2/\env 9=int ((k:Int)+1)) ⟨env,G,rfl,g,j,o,u,by rw[t];rfl⟩ ?_
   clear g j o u t env G
   rintro c1 k _ bq ⟨env,G,rfl,g,j,o,u,t⟩ b0
   refine aa.run lay [] ?_;simp[g,t];refine aG.intro (λg2=>?_) (λg2=>?_)<;>(try simp[-Int.not_lt,-Int.not_le,-Nat.not_lt,-Nat.not_le]at g2)<;>(try simp[g,j,t,g2])
   . have bw:k+1<=T:=by omega
     have W:(k:Int)+1=((k+1:Nat):Int):=by omega
     have b3:=yL T (k+1);have bA:T ^ (k+1)<=256:=aap (Nat.pow_le_pow_left (show T<=4 by omega) _) (aap (adp (by omega) (show k+1<=4 by omega)) (by decide))
     have hK:=Iq w f k;have X:=Ip w f k;have b4:=Oy f N k;have a9:ma w f k 0=mP w f k:=by simp[ma]
     rw[a8]at hK X;have O:∀x∈bL T (k+1),x.length=k+1/\∀y∈x,0<=y/\y<(T:Int):=λx J=>jR.1 J
     obtain⟨L,hL⟩:∃L,L=bL T (k+1):=⟨_,rfl⟩;simp only[<-hL]at hK X b3 O;have Y:[int w.aF,int ((k:Int)+1)]=[int (T:Int),int ((k+1:Nat):Int)]:=by rw[aO,W]
     rw[Y];refine ak Tryz.func26 rfl rfl (Lt (T:=T) (k:=k+1) (by omega) (by omega) ?_)
     rw[<-hL];refine aa.run lay [] ?_;simp;refine aa.loop L.length (λi s=>∃env σ',s=⟨env,σ',[],.no⟩/\env 3=.cp (bS w) 0/\env 6=int c/\env 7=int (dq (ma w f k i).1)/\env 8=ints (ma w f k i).2/\env 9=int ((k:Int)+1)/\env 10=rows L/\env 11=int i) ?_ ?_
     . exact⟨_,_,rfl,by simp[g],by simp[j],by rw[a9];simp[o],by rw[a9];simp[u],by simp[t]⟩
     clear g j o u t env G
     rintro c2 i _ hi ⟨env,G,rfl,g,j,o,u,t,cu,bH⟩ D
     refine aa.run lay [] ?_;simp[cu,bH];refine aG.intro (λE=>?_) (λE=>?_)<;>(try simp[-Int.not_lt,-Int.not_le,-Nat.not_lt,-Nat.not_le]at E)<;>(try simp[t,cu,bH,E])
     . obtain ⟨x,J⟩:∃x,x=L[i]:=⟨_,rfl⟩
       have H:L[i]?=some x:=by rw[J];exact zA E
       obtain⟨ad,bB⟩:=O x (by rw[J];exact ys E)
       have n:=hK i E;rw[<-J]at n;obtain⟨s1,s2⟩:=b4 i (by omega)
       obtain⟨S,hS⟩:∃S,S=ma w f k i:=⟨_,rfl⟩;rw[<-hS]at n o u s1 s2
       obtain⟨a,q,rfl⟩:∃a q,x=a::q:=by
        cases x with
        |nil=>simp at ad
        |cons a q=>exact⟨a,q,rfl⟩
       have b5:q.length=k:=by simpa using ad
       have al:(a::q)[k]?=some (lastT (a::q)):=by rw[eC];have:=Ga a q q.length (aav _);rw[aar,b5]at this;exact this
       obtain⟨z,hz⟩:∃z,z=lastT (a::q):=⟨_,rfl⟩;rw[<-hz]at al;have b6:We f.town (a::q)=(decide (a=f.town) && decide (z=0)):=by unfold We;rw[<-hz];simp
       rw[b6]at n;simp only[<-J];have P:(int a::List.map int q)[k]?=some (int z):=by rw[<-List.map_cons,aaM,al];rfl
       have fk:(k:Int)<=9223372036854775807:=by omega
       have c5:(0:Int)<=(k:Int)+1:=by omega
       by_cases a1:a=f.town
       . have b1:(a !=f.town)=false:=by rw[bne_eq_false_iff_eq];exact a1
         by_cases z1:z=0
         . have b2:(z !=0)=false:=by rw[bne_eq_false_iff_eq];exact z1
           have n:ma w f k (i+1)=jm (jo w f) S (a::q):=by rw[n,Rp (by rw[a1,z1];simp)]
           obtain⟨V,hV⟩:∃V,V=jo w f (a::q):=⟨_,rfl⟩;have av:(cx w.ways (f.hour,a) q).1=V:=by rw[hV,a1];rfl
           have ax:0<=V/\V<=1048576:=by
            have:=fN aL q (s:=(f.hour,a)) (by show f.hour<=_;omega)
            rw[av]at this;simp only at this;omega
           unfold jm at n;rw[<-hV]at n;simp[g,j,t,cu,bH,H,P,B,b1,b2,fk];refine aa.run lay [] ?_;simp[g,j,cu,bH,H,B];refine ak Tryz.func27 rfl rfl (Io A.jA.ways A.cN (by omega) (by omega) ?_)
           rw[av]
           by_cases v1:V<S.1
           . rw[Rp v1]at n
             have e:=n;have v:dq V=V:=by unfold dq;rw[Rp (by omega)]
             rw[v];have Q:0<=V:=ax.1
             by_cases v2:S.1<1048576
             . have p:dq S.1=S.1:=by unfold dq;rw[Rp v2]
               have Z:¬S.1<0:=by omega
               rw[p]at o;refine aK.go lay [] ?_;simp;refine aa.run lay [] ?_;simp[o,cu,bH,Q,Z,v1];simp[H];refine aa.run lay [] ?_;simp[bH];refine⟨by omega,D _ E ⟨_,_,rfl,by simp[g],by simp[j],by rw[e];simp[v],by rw[e];simp,by simp[t,cu]⟩⟩
             have p:dq S.1=-1:=by unfold dq;rw[KD v2]
             rw[p]at o;refine aK.go lay [] ?_;simp;refine aa.run lay [] ?_;simp[o,cu,bH,Q];simp[H];refine aa.run lay [] ?_;simp[bH];refine⟨by omega,D _ E ⟨_,_,rfl,by simp[g],by simp[j],by rw[e];simp[v],by rw[e];simp,by simp[t,cu]⟩⟩
           rw[KD v1]at n;have e:=n
           by_cases v2:V<1048576
           . have v:dq V=V:=by unfold dq;rw[Rp v2]
             have p:dq S.1=S.1:=by unfold dq;rw[Rp (by omega)]
             have Q:0<=V:=ax.1;have Z:¬S.1<0:=by omega
             rw[v];rw[p]at o;refine aK.go lay [] ?_;simp;refine aa.run lay [] ?_;simp[o,bH,Q,Z,v1];refine⟨by omega,D _ E ⟨_,_,rfl,by simp[g],by simp[j],by rw[e,p];simp[o],by rw[e];simp[u],by simp[t,cu]⟩⟩
           have v:dq V=-1:=by unfold dq;rw[KD v2]
           rw[v];refine aK.go lay [] ?_;simp;refine aa.run lay [] ?_;simp[bH];refine⟨by omega,D _ E ⟨_,_,rfl,by simp[g],by simp[j],by rw[e];simp[o],by rw[e];simp[u],by simp[t,cu]⟩⟩
         have b2:(z !=0)=true:=by rw[bne_iff_ne];exact z1
         have e:ma w f k (i+1)=S:=by rw[n,KD (by simp[z1])]
         simp[g,j,t,cu,bH,H,P,B,b1,b2,fk];refine aa.run lay [] ?_;simp[bH];refine⟨by omega,D _ E ⟨_,_,rfl,by simp[g],by simp[j],by rw[e];simp[o],by rw[e];simp[u],by simp[t,cu]⟩⟩
       have b1:(a !=f.town)=true:=by rw[bne_iff_ne];exact a1
       have e:ma w f k (i+1)=S:=by rw[n,KD (by simp[a1])]
       simp[g,j,B,b1];refine aa.run lay [] ?_;simp[bH];refine⟨by omega,D _ E ⟨_,_,rfl,by simp[g],by simp[j],by rw[e];simp[o],by rw[e];simp[u],by simp[t,cu]⟩⟩
     have ei:i=L.length:=by omega
     subst ei;rw[X]at o u;refine⟨by omega,b0 _ (by omega) ⟨_,_,rfl,by simp[g,j,o,u]⟩⟩
   have ek:k=T:=by omega
   subst ek;obtain⟨E1,E2⟩:=Et A C (s:=mP w f k) (by unfold mP;rw[a8,<-F])
   obtain⟨s1,s2⟩:=Gb f N k (by omega)
   obtain⟨S,hS⟩:∃S,S=mP w f k:=⟨_,rfl⟩;rw[<-hS]at o u E1 E2 s1 s2;rw[<-F]at E2;obtain⟨cm,c6⟩:∃cm,cm=ba w c:=⟨_,rfl⟩;have I:=λz=>rf A C z
   by_cases hl:72<ba w c
   . refine ak Tryz.func15 rfl rfl (ja hs A.jA K oc ?_)
     rw[Rp hl];refine aa.run lay [] ?_;simp[g,j];refine ak Tryz.func28 rfl rfl (lE hs A.jA K C oc ?_ I);rw[Rp hl]
     by_cases ay:ba w c<1048576
     . have aC:=(E2 ay).1
       have p:dq S.1=S.1:=by unfold dq;rw[Rp (by omega)]
       have Q:¬S.1<0:=by omega
       have Z:72<S.1:=by omega
       rw[p]at o;refine aa.run lay [] ?_;simp[j,o,Q,Z];refine⟨by omega,ih _ g1 ⟨_,_,rfl,by simp[g]⟩⟩
     have p:dq S.1=-1:=by unfold dq;rw[E1 ay];rfl
     rw[p]at o;refine aa.run lay [] ?_;simp[j,o];refine⟨by omega,ih _ g1 ⟨_,_,rfl,by simp[g]⟩⟩
   refine ak Tryz.func15 rfl rfl (ja hs A.jA K oc ?_);rw[KD hl];have aC:=(E2 (by omega)).1
   have p:dq S.1=S.1:=by unfold dq;rw[Rp (by omega)]
   have Q:¬S.1<0:=by omega
   have Z:¬72<S.1:=by omega
   rw[p]at o;rw[<-aC];refine aa.run lay [] ?_;simp[g,j];refine ak Tryz.func28 rfl rfl (lE hs A.jA K C oc ?_ I);rw[KD hl];intro r hr;have b7:=(E2 (by omega)).2 r (by rw[F];exact hr)
   rw[b7];refine aa.run lay [] ?_;simp[o,u,Q,Z];refine ak Tryz.func18 rfl rfl (kg (by omega) (by omega) ?_)
   refine aa.run lay [] ?_;simp[j];refine⟨by omega,ih _ g1 ⟨_,_,rfl,by simp[g]⟩⟩
 refine ak Tryz.func14 rfl rfl (zk hs ?_);refine aa.run lay [] ?_;simp;exact .done (h _)

import Derived.Test.YtebcbkhnlnkolaaGreatDoorD1
set_option linter.all false
set_option maxHeartbeats 2000000
set_option maxRecDepth 4000
namespace Go.Proofs.YtebcbkhnlnkolaaGreatDoor
section
open Go.bN
abbrev pl8:aeV:=[⟨3,.take [0,2,3,4,5] false (.both 1 (.both 6 (.take [9] false (.one 7 (.one 8 (.done)))) (.one 7 (.one 6 (.take [9] false (.one 8 (.done)))))) (.one 7 (.one 1 (.one 6 (.take [9] false (.one 8 (.done)))))))⟩,⟨9,.take [0,1,2,3,4,5,6,7] true (.one 8 (.done))⟩]
abbrev ZR:aeV:=[⟨1,.take [0,1,3,4,6,7] false (.both 2 (.both 5 (.both 8 (.both 9 (.one 10 (.one 11 (.done))) (.one 10 (.one 9 (.one 11 (.done))))) (.one 10 (.one 8 (.one 9 (.one 11 (.done)))))) (.one 10 (.one 5 (.one 8 (.one 9 (.one 11 (.done))))))) (.both 5 (.both 2 (.both 8 (.both 9 (.one 10 (.one 11 (.done))) (.one 10 (.one 9 (.one 11 (.done))))) (.one 10 (.one 8 (.one 9 (.one 11 (.done)))))) (.one 10 (.one 2 (.one 8 (.one 9 (.one 11 (.done))))))) (.one 10 (.both 2 (.one 5 (.one 8 (.one 9 (.one 11 (.done))))) (.one 5 (.one 2 (.one 8 (.one 9 (.one 11 (.done))))))))))⟩,⟨5,.take [0,2,3,4,5,6,7,9,10,11,12,13,14,15,16,17,18,19,20,24] false (.both 1 (.one 8 (.one 21 (.one 22 (.one 23 (.one 25 (.done)))))) (.one 8 (.both 1 (.one 21 (.one 22 (.one 23 (.one 25 (.done))))) (.one 21 (.both 1 (.one 22 (.one 23 (.one 25 (.done)))) (.one 22 (.take [1] true (.one 23 (.one 25 (.done))))))))))⟩]
abbrev UN:aeV:=[⟨7,.take [0,1,2,3,4,5,7,8,9,10,11,12] false (.one 6 (.one 13 (.one 14 (.take [15] true (.done)))))⟩]
abbrev ZS:aeV:=[⟨1,.take [0,1,3,4,5,6,7,8] false (.both 2 (.both 9 (.one 10 (.one 11 (.done))) (.one 10 (.one 9 (.one 11 (.done))))) (.one 10 (.one 2 (.one 9 (.one 11 (.done))))))⟩,⟨5,.take [0,2,3,4,5,6,10] false (.both 1 (.one 7 (.one 8 (.one 9 (.one 11 (.done))))) (.one 7 (.both 1 (.one 8 (.one 9 (.one 11 (.done)))) (.one 8 (.take [1] true (.one 9 (.one 11 (.done))))))))⟩]
end
section
open Go.bN Go.Conc
variable{m:Mo}{σ:ab}{KF:aeQ}
theorem sJ{l}(b:l.length<=1000000000)(h:∀a σ',bo σ σ' a 1 (l.map int)->KF (.val a) σ'):aB Tryz.prog m 53 [ints l] σ KF:=by
 refine aB.start lay [] [] 1 Tryz.func53 rfl rfl (by rfl) (by kernel_rfl) ?_;simp[Tryz.f53];refine fU lay rfl rfl rfl cK rfl cK rfl pQ (by decide) (by simp;omega) (σ0:=σ) (es:=[]) (xs:=l.map int) (.empty σ 1) (.inl (.inr ⟨_,rfl⟩)) (by simp) λc σ' d=>?_
 refine aa.run lay [] ?_;simp;exact .done (h _ _ (by simp_all))
theorem Ai{l}(b:l.length<=1000000000)(h:KF (.val (ints l)) σ):aB Tryz.prog m 53 [ints l] σ KF:=(sJ b λa c d=>d.thaw h).thaw
end
section
open Go.bN Go.Conc
theorem nE  p :∀n ,n<=6->(0<=aR ((m8 n).filter p)/\aR ((m8 n).filter p)<64)/\aD (aR ((m8 n).filter p))=(m8 n).filter p
 | 0,_=>by
   show(0<=aR []/\aR []<64)/\aD (aR [])=[];decide
 | n + 1,h=>by
   obtain⟨a,b⟩:=nE p n (by omega);rw[se];split
   . rw[lI]
     exact⟨(Dm a (by omega)).1,by rw[wq a (by omega) λe c=>by grind,b]⟩
   simp_all
section
variable{w:cC}
abbrev mL(w:cC)(es cs:afe):afe:=es++cs.map λ(c:Int)=>c+(w.fair.az.length:Int)
theorem yX{i:Int}(h:0<=i/\i<w.fair.az.length):aP (dS w) i=aP w.fair i:=by
 have:i.toNat<w.fair.az.length:=by omega
 unfold aP dS
 grind
theorem yY{c:Int}(h:0<=c/\c<w.aj.length):aP (dS w) (c+w.fair.az.length)=(uj w c).lost:=by
 have a:c.toNat<w.aj.length:=by omega
 have e:(c+w.fair.az.length).toNat=w.fair.az.length+c.toNat:=by omega
 unfold aP dS uj
 simp_all
theorem Nh:(dS w).az.length=w.fair.az.length+w.aj.length:=by simp_all
theorem nF{es cs:afe}(b:∀i∈es,0<=i/\i<w.fair.az.length)(d:∀i∈cs,0<=i/\i<w.aj.length):mS (dS w) (bs w es cs) (mL w es cs):=
 ⟨rfl,rfl,rfl,rfl,aat _,λi a=>by
   grind,by
   show _=(es++cs.map λ(c:Int)=>c+(w.fair.az.length:Int)).map (aP (dS w));rw[aaq,adX];show es.map (aP w.fair)++_=_;rw[adx (g:=aP (dS w)) λi a=>(yX (b i a)).symm];congr 1
   . exact adx λi a=>(yY (d i a)).symm⟩
theorem m9(b:w.Valid){es cs:afe}(f:∀i∈es,0<=i/\i<w.fair.az.length)(g:∀i∈cs,0<=i/\i<w.aj.length)(j:es.length+cs.length<=6):(bs w es cs).Good:=by
 have a:=gW b.jA b.mT;have c:=nF f g
 have d:∀e∈(bs w es cs).az,e∈(dS w).az:=λe q=>by rw[c.r7]at q;obtain⟨i,h,rfl⟩:=aab.1 q;exact fS (c.Ts i h)
 have hlen:(bs w es cs).az.length=es.length+cs.length:=by grind
 exact⟨⟨by omega,a.fits.roads,a.fits.row,λe q=>a.fits.marks e (d e q)⟩,a.fr,a.to,a.le,a.cJ,a.aX,by omega,λe q=>a.r7 e (d e q),a.Js⟩
theorem fQ{h i}(hi:i∈dE w h):0<=i/\i<w.fair.az.length:=uO (aaC.1 hi).1
theorem iy{h i}(hi:i∈dv w h):0<=i/\i<w.aj.length:=uO (aaC.1 hi).1
theorem qF  w   h :(dE w h).length<=w.fair.az.length:=by
 have:=aaN (pE w h) (m8 w.fair.az.length)
 rwa [mU]at this
theorem qG  w   h :(dv w h).length<=w.aj.length:=by
 have:=aaN (pC w h) (m8 w.aj.length)
 rwa [mU]at this
theorem cC.Valid.kE(a:w.Valid)(h:Int):aD (kE w h)=dE w h:=(nE _ _ (by have:=a.mT;omega)).2
theorem cC.Valid.kC(a:w.Valid)(h:Int):aD (kC w h)=dv w h:=(nE _ _ (by have:=a.mT;omega)).2
abbrev rP(w:cC)(h:Int):Fr:=bs w (dE w h) (dv w h)
abbrev lO(w:cC)(h:Int):afe:=mL w (dE w h) (dv w h)
theorem na  w   h :mS (dS w) (rP w h) (lO w h):=nF (λ_=>fQ) λ_=>iy
theorem nG(a:w.Valid)  h :(rP w h).Good:=m9 a (λ_=>fQ) (λ_=>iy) (by have:=qF w h;have:=qG w h;have:=a.mT;omega)
theorem cC.Valid.open(a:w.Valid):w.Open:=by
 have c:=a.mT;refine⟨⟨by omega,a.ov.1⟩,λh=>?_⟩;have hb:=nG a h;obtain⟨v,b⟩:=acf _ a.some;obtain⟨u,d,_⟩:=(na w h).cN (gW a.jA c) hb b;refine⟨?_,?_,?_,?_⟩<;>simp only[a.kE,a.kC]
 . exact λ_=>fQ
 . exact λ_=>iy
 . exact hb
 grind
end
end
section
open Go Go.bN Go.Conc
variable{m:Mo}{σ:ab}{KF:aeQ}
abbrev lD(r:afe × Int):AV:=.agg [ints r.1,int r.2]
def lastT(l:afe):Int:=l.getLast?.getD 0
def qo(w:cC)(r:afe × Int)(k:Nat):Bool:=decide (br w.ways r.2 (lastT r.1) k<1048576) && !decide ((k:Int)∈r.1)
def iW(w:cC)(r:afe × Int)(n:Nat):aeF:=((List.range n).filter (qo w r)).map λ(k:Nat)=>(r.1++[(k:Int)],br w.ways r.2 (lastT r.1) k)
def gM(w:cC)(r:afe × Int):aeF:=if lastT r.1=0 then[]else iW w r w.aF.toNat
def gi(w:cC)(r0:afe × Int):Nat->aeF
 |0=>[r0]
 |k+1=>(gi w r0 k).flatMap (gM w)
def oD(w:cC)(best:Int)(r:afe × Int):Bool:=decide (lastT r.1=0) && decide (r.2=best)
def ia(w:cC)(c:Nat)(a:BC):Option (afe × Int):=((List.range w.aF.toNat).flatMap (gi w ([a.town],a.hour))).find? (oD w (ba w c))
theorem Ek{kk es d sp}(h:es.length=d.length)(l:∀a∈es,a.cells.length=kk)(e:∀a∈d,a.cells.length=kk)(m:∀(i:Nat) a a',(flatten es)[i]?=some a->(flatten d)[i]?=some a'->a.W a'):(AV.sl kk es sp).W (.sl kk d .any):=λk x n=>by
 have f1:=aY l;have u:=aY e;cases n with
 | sl b off cap _ N E _ _ c g o p v q r w=>
   rw[h]at g f1 ⊢;refine .sl b off cap kk N E d .any c g o p e (λj f=>q j (by omega)) (λj a s=>?_) trivial;have f:j<(flatten es).length:=by grind
   exact m j (flatten es)[j] a (by simp[f]) s k _ (r j _ (by simp[f]))
 | slnil t=>
   have:d=[]:=by grind
   subst this;exact .slnil t kk .any (.inl rfl)
theorem Oq  t h :(AV.sl 2 [.agg [.sl 1 [int t] .exact,int h]] .exact).W (.sl 2 ([([t],h)].map lD) .any):=Ek rfl (λa d=>by simp_all) (λa d=>by simp_all) λi a e b c=>by
 match i with
 |0=>cases b;cases c;exact eZ 1 _ _
 |1=>cases b;cases c;exact .refl _
 |n+2=>cases b
theorem Aj{α:Type}{L}{G:α->Bool}{n k i}(a:k<n)  hi  (b:∀k'<k,∀x∈L k',G x=false) (c:∀x∈(L k).take i,G x=false) (h:G (L k)[i]=true):((List.range n).flatMap L).find? G=some (L k)[i]:=by
 have e:List.range n=List.range k++k::List.range' (k+1) (n-(k+1)):=by rw[adv,adv,show n=k+(n-(k+1)+1)by omega,<-List.range'_append_1,adn,show k+(n-(k+1)+1)-(k+1)=n-(k+1)by omega];rfl
 have d:((List.range k).flatMap L).find? G=none:=ado.2 λx f=>by grind
 have g:L k=(L k).take i++(L k)[i]::(L k).drop (i+1):=by simp_all
 have j:(L k).find? G=some (L k)[i]:=by grind
 grind
theorem El{α:Type}{L}{G:α->Bool}{n}(a:∀k'<n,∀x∈L k',G x=false):((List.range n).flatMap L).find? G=none:=ado.2 λx b=>by grind
theorem Ak  w  (a:w.aF<=4)  r :(gM w r).length<=4:=by
 unfold gM;split
 . simp
 unfold iW
 grind
theorem Al  w  (a:w.aF<=4):∀M:aeF,(M.flatMap (gM w)).length<=M.length*4
 |[]=>by simp
 | x::M=>by
   have b:=Al w a M;have c:=Ak w a x
   grind
theorem vz{w}(d:∀x∈w.ways,rW w.aF x)(e:w.aF<=4){r0}(f:r0.1.length=1/\0<=r0.2/\r0.2<=1048576):∀k,(gi w r0 k).length<=4 ^ k/\∀r∈gi w r0 k,r.1.length=k+1/\0<=r.2/\r.2<=1048576
 | 0=>⟨by simp[gi],λr c=>by
   have:r=r0:=by simpa[gi]using c
   simp_all⟩
 | k + 1=>by
   obtain⟨g,i⟩:=vz d e f k;refine⟨?_,λr c=>?_⟩
   . have:=Al w e (gi w r0 k)
     rw[aez];exact aap this (aci 4 g)
   simp only[gi,aaR]at c;obtain⟨y,m,c⟩:=c;obtain⟨p,n,q⟩:=i y m;unfold gM at c;split at c
   . cases c
   obtain⟨j,s,rfl⟩:=aab.1 c;have:=lY (l:=w.ways) (h:=y.2) (a:=lastT y.1) (b:=j) (λx o=>(d x o).2.2.1) n
   simp_all
theorem lE(hs:m.solo=true){w}(hw:w.pv){c:Nat}(h3:c<3)  hc  (he:dI w [] [] [(c:Int)]=0)
 (hK:if 72<ba w c then KF (.val (.bL [.nil,int 11])) σ else ∀r,ia w c w.aj[c]=some r->KF (.val (.bL [ints r.1,int 0])) σ) (A:ba w c<=72->(ia w c w.aj[c]).isSome=true):aB Tryz.prog m 28 [bS w,int c] σ KF:=by
 have hW:Wl [bS w,mz,mz,.sl 1 [int c] .exact] [bS w,ints [],ints [],ints [(c:Int)]]:=Rk (.refl _) (dR 1) (dR 1) (eZ 1 _ _);have hv:w.Valid:=cC.valid hw (by unfold dI at he;omega)
 refine aB.start lay [] UN 2 Tryz.func28 rfl rfl (by rfl) (by kernel_rfl) ?_
 simp[Tryz.f28];refine bp Tryz.func41 rfl rfl hW (jz hs hw (by simp) (λq=>absurd he q) λq U fb mb hk=>?_)
 have ax:=hk.less (.refl mb U);refine aa.run lay [] ?_;simp;refine ak Tryz.func42 rfl rfl (oU h3 ?_)
 by_cases hl:72<ba w c
 . rw[Rp hl]at hK
   simp only[hl,aay];refine aa.run lay [] ?_;simp;refine er lay rfl F5 rfl (isNil:=false) (.inr ⟨⟨_,_,rfl⟩,rfl⟩) (.inr ⟨rfl,rfl⟩) ?_;refine aa.run lay [] ?_;simp[aG];exact .less ax (.done hK)
 rw[KD hl]at hK;simp only[hl,aao];have A:=A (by omega)
 refine aa.run lay [] ?_;simp;refine er lay rfl F5 rfl (isNil:=true) (.inl ⟨rfl,rfl⟩) (.inr ⟨rfl,rfl⟩) ?_;refine aa.run lay [] ?_;simp[aG,hc];have cv:=hv.ov.2 _ (ys hc);obtain⟨N,hN⟩:∃N:Nat,w.aF=(N:Int):=⟨w.aF.toNat,by omega⟩
 have hT:=hv.aF;have ay:w.aF.toNat=N:=by omega
 obtain⟨R,hR⟩:∃R,R=gi w ([w.aj[c].town],w.aj[c].hour):=⟨_,rfl⟩;have aC:=vz hv.cN hT.2 (r0:=([w.aj[c].town],w.aj[c].hour)) ⟨rfl,by omega,by omega⟩
 rw[<-hR]at aC;have bq:ia w c w.aj[c]=((List.range N).flatMap R).find? (oD w (ba w c)):=by rw[hR,<-ay];rfl
 have bw:∀k,R (k+1)=(R k).flatMap (gM w):=λk=>by rw[hR];rfl
 rw[bq]at A hK;have bA:R 0=[([w.aj[c].town],w.aj[c].hour)]:=by rw[hR];rfl
 refine aa.Am 10 (a':=.sl 2 ((R 0).map lD) .any) (by rw[bA];exact Oq _ _) ?_
 obtain⟨G,hG⟩:∃G,G=oD w (ba w c):=⟨_,rfl⟩;rw[<-hG]at A hK;refine aa.run lay [] ?_;simp;refine aa.loop N (λk s=>∃env f,s=⟨env,f,[],.no⟩/\(env 2=.cp (bS w) 0/\env 6=tK fb mb w 0/\env 8=int (ba w c)/\env 10=.sl 2 ((R k).map lD) .any/\env 51=int N/\env 52=int k)/\U.Le f/\∀k'<k,∀r∈R k',G r=false) ⟨_,_,rfl,by simp[hN],ab.le_refl _,by simp⟩ ?_
 rintro c0 k _ dj ⟨env,f,rfl,⟨E,F,H,cu,g,j⟩,aE,aL⟩ ih
 obtain⟨a8,hM⟩:=aC k;have aO:=bw k;obtain⟨M,I⟩:∃M,M=R k:=⟨_,rfl⟩;rw[<-I]at a8 hM cu aO;refine aa.run lay [] ?_;simp[g,j];apply aG.intro<;>intro g1<;>simp at g1<;>simp[cu,g1]
 . have a8:M.length<=256:=aap a8 (adp (n:=4) (by decide) (show k<=4 by omega))
   refine aa.loop M.length (λi s=>∃env f a,s=⟨env,f,[],.no⟩/\(env 2=.cp (bS w) 0/\env 6=tK fb mb w 0/\env 8=int (ba w c)/\env 51=int N/\env 52=int k/\env 54=.sl 2 (M.map lD) .any/\env 55=int M.length/\env 56=int i/\env 11=a)/\Go.bN.Tok U f a 2 (((M.take i).flatMap (gM w)).map lD)/\∀r∈M.take i,G r=false) ⟨_,_,.nil,rfl,by simp[E,F,H,g,j],⟨aE,.inl ⟨rfl,by simp⟩⟩,by simp⟩ ?_
   rintro c1 i _ hi ⟨env,f,a,rfl,⟨E,F,H,g,j,u,v,p,bH⟩,ht,J⟩ b0
   refine aa.run lay [] ?_;simp[v,p];apply aG.intro<;>intro g2<;>simp at g2<;>simp[j,u,p,bH,g2]
   . obtain⟨bB,a9,b1⟩:=hM _ (ys g2)
     have dm:=Al w hT.2 (M.take i);have cr:(M.take i).length<=256:=by rw[ack];omega
     obtain⟨x,B⟩:∃x,x=M[i]:=⟨_,rfl⟩;rw[<-B]at bB a9 b1;simp only[<-B];have b3:∀q,(M.take (i+1)).flatMap q=(M.take i).flatMap q++(q x:aeF):=λq=>by rw[za g2,adi,aey,<-B]
     have b4:G x=false->∀r∈M.take (i+1),G r=false:=λh r A=>by
      rw[za g2,<-B]at A
      rcases aan.1 A with A|A
      . exact J r A
      rw[lb.1 A];exact h
     refine bO.intro λb hb=>?_
     have c5:x.1[x.1.length-1]?=some (lastT x.1):=by unfold lastT;rw[List.getLast?_eq_getElem?,zA (by omega)];rfl
     have gx:0<=(x.1.length:Int)-1/\(x.1.length:Int)-1<x.1.length/\1<=(x.1.length:Int):=by omega
     simp[gx,c5];refine⟨by omega,?_⟩
     have V:(f.set b (.cells [ints x.1,int x.2])) b=some (.cells [ints x.1,int x.2]):=ab.ai _ _ _;have c6:f.Le (f.set b (.cells [ints x.1,int x.2])):=λc y h=>(ab.ah _ _ λe=>by rw[e,hb]at h;cases h).trans h
     have X:=ht.up c6;generalize f.set b (.cells [ints x.1,int x.2])=dr at V X;apply aG.intro<;>intro g3<;>simp at g3<;>simp[E,H,g3,V]
     . have Rr:gM w x=[]:=by unfold gM;rw[Rp g3]
       apply aG.intro<;>intro g4<;>simp at g4<;>simp[p,g4,V]
       . have K:G x=true:=by rw[hG];simp[oD,g3,g4]
         have c7:=Aj (L:=R) (G:=G) (k:=k) (i:=i) g1 (by rw[<-I];exact g2) aL (by rw[<-I];exact J) (by simp only[<-I,<-B];exact K)
         have b5:=hK _ c7;simp only[<-I,<-B]at b5;exact .less (ab.le_trans ax X.1) (.done b5)
       have K:G x=false:=by rw[hG];simp[oD,g4]
       refine⟨by omega,b0 _ (by omega) ⟨_,_,a,rfl,by simp[E,F,H,g,j,u,v,bH],by rw[b3,Rr,aaE];exact X,b4 K⟩⟩
     have Rr:gM w x=iW w x N:=by unfold gM;rw[KD g3,ay]
     have K:G x=false:=by rw[hG];simp[oD,g3]
     refine aa.loop N (λd s=>∃env z a',s=⟨env,z,[],.no⟩/\(env 2=.cp (bS w) 0/\env 6=tK fb mb w 0/\env 8=int (ba w c)/\env 51=int N/\env 52=int k/\env 54=.sl 2 (M.map lD) .any/\env 55=int M.length/\env 56=int i/\env 13=.ref b 0/\env 14=int (lastT x.1)/\env 77=int N/\env 78=int d/\env 11=a')/\z b=some (.cells [ints x.1,int x.2])/\Go.bN.Tok U z a' 2 (((M.take i).flatMap (gM w)++iW w x d).map lD)) ⟨_,_,a,rfl,by simp[E,F,H,g,j,u,v,p,bH,hN],V,by simpa[iW]using X⟩ ?_
     rintro c2 d _ hd ⟨env,z,a',rfl,⟨E,F,H,g,j,u,v,p,C,BB,Y,O,bH⟩,o,Z⟩ ad
     have D:iW w x (d+1)=iW w x d++if qo w x d then [(x.1++[(d:Int)],br w.ways x.2 (lastT x.1) d)]else []:=by unfold iW;rw[aaB,aca,aaq];congr 1;simp only[aer,List.filter_nil];split<;>rfl
     have dx:(iW w x d).length<=d:=by unfold iW;rw[aac];exact aap (aaN _ _) (by rw[adf];omega)
     refine aa.run lay [] ?_;simp[Y,O];apply aG.intro<;>intro g5<;>simp at g5<;>simp[F,p,C,BB,O,g5,o]
     . refine ak Tryz.func54 rfl rfl (An (by simp) hw.ways hv.cN ⟨a9,b1⟩ ?_)
       have c9:=lY (l:=w.ways) (h:=x.2) (a:=lastT x.1) (b:=d) (λy hy=>(hv.cN y hy).2.2.1) a9
       obtain⟨T,b6⟩:∃T,T=br w.ways x.2 (lastT x.1) d:=⟨_,rfl⟩;rw[<-b6]at c9 D ⊢;have al:qo w x d=(decide (T<1048576) && !decide ((d:Int)∈x.1)):=by rw[b6];rfl
       refine aa.run lay [] ?_;simp;refine tL.intro (λg6=>?_) (λg6=>?_)<;>(try simp[-Int.not_lt,-Int.not_le]at g6)<;>(try simp[C,O,g6,o])
       . refine ak Tryz.func55 rfl rfl (km (by omega) ?_)
         refine aa.run lay [] ?_;simp;apply aG.intro<;>intro g7<;>simp at g7<;>simp[C,O,bH,g7,o]
         . have P:qo w x d=false:=by rw[al];simp[g7]
           refine⟨by omega,ad _ (by omega) ⟨_,_,a',rfl,by simp[E,F,H,g,j,u,v,p,C,BB,Y,bH],o,by rw[D,P,KD (by simp),aaE];exact Z⟩⟩
         have P:qo w x d=true:=by rw[al];simp[g6,g7]
         rw[P,Rp rfl]at D;refine oO lay rfl cK rfl pQ (es:=x.1.map int) (sp:=.any) (l:=0) (h:=x.1.length) (by simp) (λcap b7=>⟨⟨⟨.i64,by simp⟩,by simpa using b7⟩,⟨⟨.i64,by simp⟩,aav _⟩,rfl⟩) (by simp) λb2 b8=>?_
         have b9:Go.bN.Tok z z b2 1 (x.1.map int):=by
          rw[adU,aaY (by simp)]at b8
          rcases b8 with rfl|⟨e,rfl⟩
          . exact .exact _ _ _
          rw[e];exact .nil _ _
         refine aa.run lay [] ?_;simp;refine aN lay rfl rfl rfl cK rfl cK rfl pQ (by decide) (by simp only[aac,aaI,aaW];omega) (σ0:=z) (es:=x.1.map int) (xs:=[int d]) (by simpa using b9) (.inr ⟨_,rfl⟩) λa2 ca Q=>?_
         have cb:x.1.map int++[int d]=(x.1++[(d:Int)]).map int:=by rw[aaq];rfl
         rw[cb]at Q;obtain⟨y,hy⟩:∃y,y=x.1++[(d:Int)]:=⟨_,rfl⟩;rw[<-hy]at Q D;refine aa.Am 108 (a':=ints y) (show AV.W a2 _ from Q.W) ?_
         refine aa.run lay [] ?_;simp
         have cg:(((M.take i).flatMap (gM w)++iW w x (d+1)).map lD)=(((M.take i).flatMap (gM w)++iW w x d).map lD)++[lD (y,T)]:=by rw[D,<-List.append_assoc,aaq];rfl
         have S:=Z.up Q.1;have a7:=Q.1 _ _ o;have cm:bt a'≠some b:=λe=>by obtain⟨_,t,q⟩:=S.aV e;rw[a7]at q;cases q
         refine aN lay rfl rfl rfl J2 rfl J2 rfl TR (by decide) (by simp only[aac,aam,aaI,aaW];omega) (σ0:=ca.off a') (es:=((M.take i).flatMap (gM w)++iW w x d).map lD) (xs:=[lD (y,T)]) (by simpa using S.here.1) (.inr ⟨_,rfl⟩) λa3 dy av=>?_
         rw[<-cg]at av;have bm:=av.1 _ _ ((ab.dF cm).trans a7);refine aa.run lay [] ?_;simp[O];refine⟨by omega,ad _ (by omega) ⟨_,_,a3,rfl,by simp[E,F,H,g,j,u,v,p,C,BB,Y],bm,av.base S.here.2⟩⟩
       have P:qo w x d=false:=by rw[al];simp[g6]
       refine⟨by omega,ad _ (by omega) ⟨_,_,a',rfl,by simp[E,F,H,g,j,u,v,p,C,BB,Y,bH],o,by rw[D,P,KD (by simp),aaE];exact Z⟩⟩
     have ed:d=N:=by omega
     subst ed;refine⟨by omega,b0 _ (by omega) ⟨_,_,a',rfl,by simp[E,F,H,g,j,u,v,bH],by rw[b3,Rr];exact Z,b4 K⟩⟩
   have ei:i=M.length:=by omega
   subst ei;rw[aar]at ht J;refine⟨by omega,?_⟩
   refine aa.Am 10 (a':=.sl 2 ((R (k+1)).map lD) .any) ?_ (ih _ (by omega) ⟨_,_,rfl,by simp[E,F,H,g],ht.1,λk' q x hx=>?_⟩)
   . change AV.W a _
     rw[aO];exact ht.W
   grind
 have ek:k=N:=by omega
 subst ek;rw[El aL]at A;cases A
end
section
open Go.bN Go.Conc
variable{m:Mo}{σ:ab}{KF:aeQ}
theorem xU{e}(d:e.marks.length<=1000000000)(h:KF (.val (bj e)) σ):aB Tryz.prog m 36 [bj e] σ KF:=by
 refine aB.start lay [1] [] 1 Tryz.func36 rfl rfl (by rfl) (by kernel_rfl) ?_;simp[Tryz.f36];refine bO.intro λf n=>?_
 simp;refine bO.intro λg a=>?_
 obtain⟨i,b,a⟩:=ab.aS a;simp[b,ab.ah];refine ak Tryz.func53 rfl rfl (Ai d ?_);refine aa.run lay [1] ?_;simp[i,b,ab.ah,aI];refine .less (λc x j=>?_) (.done h);have k:c≠f:=λe=>by simp_all
 have l:c≠g:=λe=>by simp_all
 simp[ab.ah,k,l,j]
theorem Ao{r}(w:r.length<=1000000)(p:∀l∈r,l.length<=1000000000)(h:KF (.val (rows r)) σ):aB Tryz.prog m 64 [rows r] σ KF:=by
 refine aB.thaw ?_;refine aB.start lay [] [] 1 Tryz.func64 rfl rfl (by rfl) (by kernel_rfl) ?_;simp[Tryz.f64];refine qW lay rfl qp rfl cK rfl (by decide) rfl rfl (n:=r.length) (by simp) (by simp) ⟨by omega,by omega⟩ λb hb=>?_
 refine aa.run lay [] ?_;simp;refine aa.loop r.length (λi s=>∃env,s=⟨env,σ.set b (.cells (List.take i (List.map ints r)++List.replicate (r.length-i) (.lit (.slice none 0 0)))),[],.no⟩/\env 0=rows r/\env 3=.gK b 0 r.length r.length/\env 4=int i) ⟨_,by simp;rfl,by simp⟩ ?_;rintro y i _ z ⟨env,rfl,k,o,c⟩ A;rcases aaA i r.length with g1|g1
 . have t:(i:Int)<r.length:=by omega
   have f1:-9223372036854775808<=(i:Int)+1/\(i:Int)+1<=9223372036854775807:=by omega
   refine aa.run lay [] ?_;simp[k,o,c,g1];refine ak Tryz.func53 rfl rfl (Ai (p _ (ys g1)) ?_);have d:i+1<=min i r.length+(r.length-i):=by omega
   have a:List.take i (List.take i (List.map ints r)++List.replicate (r.length-i) (AV.lit (.slice none 0 0)))++AV.sl 1 (List.map int r[i]) .any::List.drop (i+1) (List.take i (List.map ints r)++List.replicate (r.length-i) (AV.lit (.slice none 0 0)))=List.take (i+1) (List.map ints r)++List.replicate (r.length-(i+1)) (.lit (.slice none 0 0)):=by
    have f:(List.take i (List.map ints r)).length=i:=by simp_all
    obtain⟨q,u⟩:∃q,r.length-i=q+1:=⟨r.length-i-1,by omega⟩;have v:r.length-(i+1)=q:=by omega
    have B:List.drop (i+1) (List.take i (List.map ints r)++List.replicate (r.length-i) (AV.lit (.slice none 0 0)))=List.replicate q (.lit (.slice none 0 0)):=by
     rw[List.drop_append,List.drop_eq_nil_of_le (by omega),f,u,Nat.add_sub_cancel_left];simp
    have C:List.take (i+1) (List.map ints r)=List.take i (List.map ints r)++[ints r[i]]:=by rw[za (by simp_all),aes]
    simp_all
   refine aa.run lay [] ?_;simp[c,g1,f1.1,f1.2,aI,d,a]
   simp_all
 have g:i=r.length:=by omega
 subst g;refine aa.run lay [] ?_;simp[k,o,c];refine .done (bo.thaw (σ0:=σ) (kk:=1) (es:=r.map ints) ⟨ab.jW (ab.le_refl _) hb,.inr ⟨b,r.length,[],by simp,hb,by simp,λe j=>?_,?_,by simp⟩⟩ h)
 . obtain⟨x,_,rfl⟩:=aab.1 j
   rfl
 rw[dc (λe j=>by obtain⟨x,_,rfl⟩:=aab.1 j;rfl),aaE];have D:List.take r.length (List.map ints r)=List.map ints r:=aaY (by simp)
 simp_all
abbrev Ot:afk:=[.lit (.slice none 0 0),.lit (.slice none 0 0),int 0,int 0,int 0,int 0]
theorem F6{f}(U:f.az.length<=1000)(P:∀e∈f.az,e.marks.length<=1000000000)(z:f.roads.length<=1000000)(A:∀r∈f.roads,r.length<=1000000000)(h:KF (.val (bF f)) σ):aB Tryz.prog m 35 [bF f] σ KF:=by
 refine aB.start lay [] ZS 1 Tryz.func35 rfl rfl (by rfl) (by kernel_rfl) ?_
 simp[Tryz.f35];refine bO.intro λt Q=>?_
 simp;apply xV (I:=λenv σ'=>∃c,σ c=none/\c≠t/\env 1=.cp (bF f) 0/\env 2=.ref t 0/\env 3=.ref c 0/\σ'=(σ.set t (.cells Ot)).set c (.cells [.lit (.slice none 0 0),rows f.roads,int f.aU,int f.dD,int f.cJ,int f.aX]))
 . intro d
   refine⟨?_,?_⟩
   . refine ak Tryz.func64 rfl rfl (Ao z A ?_)
     refine aK.go lay [] ?_;simp[aI];refine⟨?_,?_⟩
     . refine nH.intro λc g=>?_
       obtain⟨n,B,g⟩:=ab.aS g;simp[aI];exact d _ _ ⟨c,g,n,by simp⟩
     refine nH.intro λc g=>?_
     obtain⟨n,B,g⟩:=ab.aS g;simp[aI];exact d _ _ ⟨c,g,n,by simp⟩
   refine nH.intro λc g=>?_
   obtain⟨n,B,g⟩:=ab.aS g;simp;refine ak Tryz.func64 rfl rfl (Ao z A ?_);refine aK.go lay [] ?_;simp[aI];exact d _ _ ⟨c,g,n,by simp⟩
 rintro env σ' ⟨c,g,n,o,u,p,rfl⟩
 have B:t≠c:=zs n;refine aa.run lay [] ?_;simp;have R:Go.bN.Tok σ ((σ.set t (.cells Ot)).set c (.cells [.lit (.slice none 0 0),rows f.roads,int f.aU,int f.dD,int f.cJ,int f.aX])) (.lit (.slice none 0 0)) 6 []:=(Tok.nil σ 6).up (ab.jW (ab.jW (ab.le_refl _) Q) (by rw[ab.ah _ _ n];exact g))
 refine aa.loop f.az.length (λi s=>∃env σ' a,s=⟨env,σ',[],.no⟩/\env 1=.cp (bF f) 0/\env 2=.ref t 0/\env 3=.ref c 0/\env 4=int i/\σ' t=some (.cells Ot)/\σ' c=some (.cells [a,rows f.roads,int f.aU,int f.dD,int f.cJ,int f.aX])/\Go.bN.Tok σ σ' a 6 ((f.az.take i).map bj))
  ⟨_,_,.lit (.slice none 0 0),rfl,by simp[o],by simp[u],by simp[p],by simp,by rw[ab.ah _ _ B,ab.ai],ab.ai _ _ _,by simp_all⟩ ?_
 clear o u p R
 rintro V i _ X ⟨env,σ',a,rfl,o,u,p,C,J,H,b⟩ S
 have v:=b.cells;have K:∀y l,σ' y=some (.cells l)->bt a≠some y:=λy l D e=>by obtain⟨_,_,q⟩:=b.aV e;grind
 rcases aaA i f.az.length with g1|g1
 . have T:(i:Int)<f.az.length:=by omega
   have f1:-9223372036854775808<=(i:Int)+1/\(i:Int)+1<=9223372036854775807:=by omega
   refine aa.run lay [] ?_;simp[o,p,C,H,g1]
   repeat' (first
             |apply And.intro
             | (refine ak Tryz.func36 rfl rfl (xU (P _ (ys g1)) ?_)
                refine aK.go lay [] ?_;simp[o,u,p,C,J,H,v.1,v.2,g1])
             | (refine aN lay rfl rfl rfl nX rfl nX rfl Ap (by decide) (by simp;omega) (σ0:=σ'.off a) (es:=(f.az.take i).map bj) (xs:=[bj f.az[i]]) (by simpa using b.here.1) (.inr ⟨_,by simp;rfl⟩) λa' E w=>?_
                have F:=w.cells;have M:∀y l,σ' y=some (.cells l)->E y=some (.cells l):=λy l D=>w.1 _ _ (by rw[ab.dF (K y l D)];exact D)
                have N:=M _ _ H;have O:=M _ _ J;refine aK.go lay [] ?_;simp[o,u,p,C,O,N,F.1,F.2,aI]))
   all_goals (
    refine aa.run lay [] ?_;simp[C,f1.1,f1.2]
    have G:Go.bN.Tok σ E a' 6 ((f.az.take (i+1)).map bj):=by have:=w.base b.here.2;rw[za g1,aaq];simpa using this
    exact S _ g1 ⟨_,_,a',rfl,by simp[o],by simp[u],by simp[p],by simp,by rw[ab.ah _ _ B];exact O,ab.ai _ _ _,G.beside g (λe=>by obtain⟨_,_,q⟩:=G.aV e;rw[N]at q;cases q)⟩)
 have L:i=f.az.length:=by omega
 subst L;rw[aar]at b;refine aa.run lay [] ?_;simp[o,u,p,C,J,H,v.2,aI];refine .less (σ':=σ) (λy x D=>?_) (.px (a':=bF f) (nY rfl λi x y j k=>?_) (.done h))
 . rw[ab.ah _ _ (λe=>by grind)]
   exact b.1 y x D
 match i with
 |0=>simp at j k;subst j;subst k;exact b.W
 |1=>simp at j k;subst j;subst k;exact .refl _
 |2=>simp at j k;subst j;subst k;exact .refl _
 |3=>simp at j k;subst j;subst k;exact .refl _
 |4=>simp at j k;subst j;subst k;exact .refl _
 |5=>simp at j k;subst j;subst k;exact .refl _
 |i+6=>simp at j
theorem Ii{f}(c:f.Good)(d:∀e∈f.az,e.marks.length<=1000000000)(a:f.roads.length<=1000000)(b:∀r∈f.roads,r.length<=1000000000)(h:KF (.val (bF f)) σ):aB Tryz.prog m 35 [bF f] σ KF:=F6 (by have:=c.mT;omega) d a b h
end
section
open Go.bN Go.Conc
def eu(x:Way)(a b:Int):Prop:=(x.a=a/\x.b=b)\/(x.a=b/\x.b=a)
theorem Ij{h a b best:Int}{x:Way}:qD h a b x best<=best/\(eu x a b/\cY h x<=x.dD->qD h a b x best<=cY h x+x.aQ)/\(qD h a b x best=best\/(eu x a b/\cY h x<=x.dD)/\qD h a b x best=cY h x+x.aQ):=by
 unfold qD;split
 . next q=>
   refine⟨aat _,λz=>absurd z.1 ?_,.inl rfl⟩
   unfold eu;omega
 next q=>
 have d:eu x a b:=by unfold eu;omega
 split
 . next c=>
   split
   . exact⟨by omega,λ_=>aat _,.inr ⟨⟨d,c⟩,rfl⟩⟩
   exact⟨aat _,λ_=>by omega,.inl rfl⟩
 next c=>exact⟨aat _,λz=>absurd z.2 c,.inl rfl⟩
theorem kP(h a b:Int):∀(l:afg) (best:Int),l.foldl (λbest x=>qD h a b x best) best<=best/\(∀x∈l,eu x a b/\cY h x<=x.dD->l.foldl (λbest x=>qD h a b x best) best<=cY h x+x.aQ)/\
 (l.foldl (λbest x=>qD h a b x best) best=best\/∃x∈l,(eu x a b/\cY h x<=x.dD)/\l.foldl (λbest x=>qD h a b x best) best=cY h x+x.aQ)
 |[],best=>⟨aat _,by simp,.inl rfl⟩
 | y ::l,best=>by
   obtain⟨g,i,j⟩:=Ij (h:=h) (a:=a) (b:=b) (best:=best) (x:=y);obtain⟨d,k,m⟩:=kP h a b l (qD h a b y best);rw[aaS];refine⟨adm d g,λx hx f=>?_,?_⟩
   . rcases aaw.1 hx with rfl|hx
     . exact adm d (i f)
     exact k x hx f
   rcases m with e|⟨x,hx,q,e⟩
   . rw[e]
     rcases j with c|⟨q,c⟩
     . exact .inl c
     exact .inr ⟨y,by simp,q,c⟩
   exact .inr ⟨x,by simp[hx],q,e⟩
def iX(l' l:afg):Prop:=∀x∈l,∃c∈l',(∀a b,eu x a b->eu c a b)/\c.aQ<=x.aQ/\c.aU<=x.aU/\x.dD<=c.dD
theorem iX.Ik{l' l:afg}(h:iX l' l){c t a b:Int}(o:c<=t):br l' c a b<=br l t a b:=by
 obtain⟨g,i,_⟩:=kP c a b l' 1048576;obtain⟨_,_,j⟩:=kP t a b l 1048576;unfold br
 rcases j with e|⟨x,k,⟨m,p⟩,e⟩
 . rw[e];exact g
 obtain⟨f,d,n,q,r,s⟩:=h x k;have u:cY c f<=cY t x:=by unfold cY;split<;>split<;>omega
 have:=i f d ⟨n a b m,by omega⟩
 rw[e];omega
theorem iX.refl(l:afg):iX l l:=λx a=>⟨x,a,λ_ _ h=>h,aat _,aat _,aat _⟩
def Closed(l:afg)(n:Nat)(t:afe):Prop:=∀a b:Nat,a<n->b<n->t.getD a 0<1048576->t.getD b 0<=br l (t.getD a 0) a b
theorem ew.antisymm{a b:afe}(h:ew a b)(e:ew b a):a=b:=by
 refine aeq h.1 λi f g=>?_
 have c:=h.2 i;have d:=e.2 i;rw[zD,zD,zA f,zA g]at c d;simp only[acm]at c d;omega
theorem sK{α:Type}{f:afe->α->afe}(a:∀t x,ew (f t x) t)(l:List α)(t:afe):ew (l.foldl f t) t:=jY (ew · t) f (λu x h=>(a u x).trans h) l t ⟨rfl,λ_=>aat _⟩
theorem nZ{α:Type}{f:afe->α->afe}(a:∀t x,ew (f t x) t):∀(l:List α) (t:afe),l.foldl f t=t->∀x∈l,f t x=t
 |[],_,_,x,hx=>by cases hx
 | y::l,t,h,x,hx=>by
   rw[aaS]at h;have b:=sK a l (f t y);rw[h]at b;have e:=(a t y).antisymm b;rcases aaw.1 hx with rfl|hx
   . exact e
   rw[e]at h;exact nZ a l t h x hx
theorem lZ{l:afg}(a:∀x∈l,1<=x.aQ/\x.aQ<=12){n:Nat}:∀(k:Nat) (t:afe),xW t->mI t<k->pass l n (bV l n k t)=bV l n k t
 |0,t,_,h=>by omega
 | k+1,t,b,h=>by
   unfold bV;split
   . next e=>exact e
   next c=>
   have:=vA (iY l n t) (b.pass a) b c;exact lZ a k _ (b.pass a) (by omega)
theorem pK{l:afg}(f:∀x∈l,1<=x.aQ/\x.aQ<=12){n:Nat}(m:n<=4){town hour:Int}(g:0<=hour/\hour<=72):Closed l n (cQ l n town hour):=by
 have hb:=nu (town:=town) g;have c:=lZ f (n:=n) (mI (begun town hour)+1) _ hb (by omega);have h:xW (cQ l n town hour):=ko f _ _ hb;rw[show bV l n (mI (begun town hour)+1) (begun town hour)=cQ l n town hour from rfl]at c;generalize cQ l n town hour=r at *;intro a b i hb d;have j:=nZ (λt a=>sL l n a t) _ r c a (zH.2 i);have k:=nZ (λt b=>wU l a b t) _ r j b (zH.2 hb);have e:(fM l a b r).getD b 0=r.getD b 0:=by rw[k]
 unfold fM at e;rw[Rp d,jJ,Rp ⟨rfl,by rw[h.1];omega⟩]at e;split at e<;>omega
theorem qX{l:afg}{n:Nat}{town hour:Int}(b:0<=hour/\hour<=72)(i:Nat):(cQ l n town hour).getD i 0<=(begun town hour).getD i 0:=by
 have key:∀(k:Nat) (t:afe),ew (bV l n k t) t:=λk=>by
  induction k with
  |zero=>exact λt=>⟨rfl,λ_=>aat _⟩
  | succ k a=>
    intro t;unfold bV;split
    . exact⟨rfl,λ_=>aat _⟩
    exact(a _).trans (iY l n t)
 exact(key _ _).2 i
def cC.by(w:cC)(l:afg):cC:={w with ways:=l}
theorem Ou{w}(q:w.Valid)(a:fJ w=0){l}(r:l.length<=6)(d:∀x∈l,kF w.aF x=0):fJ (w.by l)=0:=by
 unfold fJ at a;split at a
 . cases a
 next e=>
 split at a
 . cases a
 next s=>
 split at a
 . next c=>exact absurd a c
 next c=>
 split at a
 . cases a
 next f=>
 split at a
 . next b=>exact absurd a b
 next b=>
 split at a
 . cases a
 next g=>
 split at a
 . cases a
 next h=>
 have i:bz (w.by l).aF 1 4=true:=(by simpa using e:bz w.aF 1 4=true)
 have j:eh (kF (w.by l).aF) (w.by l).ways=0:=qY d
 have k:¬(6:Int)<(w.by l).ways.length:=by show ¬(6:Int)<l.length;omega
 have m:¬(3:Int)<(w.by l).aj.length:=f
 have n:eh (uR (w.by l)) (w.by l).aj=0:=(by simpa using b:eh (uR w) w.aj=0)
 have o:¬(6:Int)<((w.by l).fair.az.length:Int)+(w.by l).aj.length:=g
 have p:¬gX (dS (w.by l))=0:=h
 unfold fJ;rw[i,j,n,KD (by simp),KD k,KD (by simp),KD m,KD (by simp),KD o,KD p]
theorem Ov{w}(a:w.Valid)(b:fJ w=0){l}(c:l.length<=6)(d:∀x∈l,kF w.aF x=0):(w.by l).Valid:=cC.valid ⟨a.jA.fits,a.jA.yl,a.jA.Tt,by show l.length<_;omega,a.jA.aj⟩ (Ou a b c d)
theorem vB{h a b k}:∀(l:afg)  best ,(∀x∈l,1<=x.aQ)->k<=h->k<=best->k<=l.foldl (λbest x=>qD h a b x best) best
 |[],_,_,_,q=>q
 | x::l,best,c,d,q=>by
   rw[aaS];refine vB l _ (λy e=>c y (by simp[e])) d ?_
   have:=c x (by simp)
   have:h<=cY h x:=by unfold cY;split<;>omega
   unfold qD;split
   . exact q
   split
   . split<;>omega
   exact q
theorem n8{α:Type}(P:afe->Prop)  f :∀(l:List α)  t ,(∀t,∀x∈l,P t->P (f t x))->P t->P (l.foldl f t)
 |[],_,_,h=>h
 |x::l,t,a,h=>n8 P f l _ (λu y b=>a u y (by simp[b])) (a t x (by simp) h)
end
section
open Go.bN Go.Conc
variable{m:Mo}{σ:ab}{KF:aeQ}
def oV(n:Nat)(l:afe):Prop:=l.Perm ((List.range n).map λt:Nat=>(t:Int))
theorem oV.len{n:Nat}{l:afe}(h:oV n l):l.length=n:=by have:=List.Perm.length_eq h;rw[aac,adf]at this;exact this
theorem oV.nodup{n:Nat}{l:afe}(h:oV n l):l.Nodup:=by refine(List.Perm.nodup_iff h).2 ?_;unfold List.Nodup;rw[aen];exact List.nodup_range.imp λ{a b} c e=>c (by omega)
theorem oV.mem{n:Nat}{l:afe}(h:oV n l){x:Int}:x∈l↔0<=x/\x<n:=by
 rw[List.Perm.mem_iff h,aab];constructor
 . rintro⟨t,a,rfl⟩;have:=zH.1 a;omega
 . rintro⟨b,c⟩;exact⟨x.toNat,zH.2 (by omega),by omega⟩
section
variable{c k:Nat}{nums:afe}
theorem Aq{n:Nat}(hk:k+n<1000000)(hn:nums.length<1152921504606846976)(aL:n<=1000)(hb:bg c nums k σ)(h:∀(l:afe) σ',oV n l->qZ c nums (k+n) σ σ'->KF (.val (ints l)) σ'):aB Tryz.prog m 29 [.ref c 0,int n] σ KF:=by
 have G:σ.del c c=none:=by simp[ab.del]
 refine aB.start lay [] [] 2 Tryz.func29 rfl rfl (by rfl) (by kernel_rfl) ?_
 simp[Tryz.f29]
 refine aa.loop n (λi s=>∃env σ' a l,s=⟨env,σ',[],.no⟩/\env 0=.ref c 0/\env 1=int n/\env 5=a/\env 6=int i/\bg c nums (k+i) σ'/\bo (σ.del c) σ' a 1 (l.map int)/\bJ a≠some c/\oV i l) ⟨_,σ,.lit (.slice none 0 0),[],rfl,by simp,by simp,by simp,by simp,hb,⟨λy x p=>by
  have:y≠c:=λe=>by subst e;rw[G]at p;cases p
  simpa[ab.del,this]using p,.inl ⟨rfl,.inl rfl⟩⟩,by simp[bJ],by simp[oV]⟩ ?_
 rintro c0 i _ hi ⟨env,σ',a,l,rfl,L,M,R,N,S,r,B,hP⟩ ih
 have f:=r.cells;have T:=hP.len
 rcases aaA i n with g1|g1
 . have ad:(i:Int)<n:=by omega
   have f1:-9223372036854775808<=(i:Int)+1/\(i:Int)+1<=9223372036854775807:=by omega
   refine aa.run lay [] ?_;simp[L,M,R,N,f.1,f.2,ad];refine ak Tryz.func16 rfl rfl (fE (by omega) hn ⟨by omega,by omega⟩ S λq U hq O=>?_)
   obtain⟨o,rfl⟩:∃o:Nat,q=(o:Int):=⟨q.toNat,by omega⟩
   have aO:o<=i:=by omega
   have H:=Em r G B O.2;refine aa.run lay [] ?_;simp[L,M,R,N,f.1,f.2];refine fU lay rfl rfl rfl cK rfl cK rfl pQ (by decide) (by simp;omega) (σ0:=U.BO a) (es:=l.map int) (xs:=[int i]) (by simpa using H.here.1) (.inl (.inr ⟨_,by simp;rfl⟩)) (by simp) λa' P t=>?_
   have k4:∀y x,bJ a≠some y->U y=some x->P y=some x:=λy x p hx=>t.1 _ _ (by rw[ab.oQ p];exact hx)
   have I:bJ a'≠some c:=λq=>by obtain⟨g,_⟩:=t.cS q;obtain⟨_,_,_,g2⟩:=O.1;rw[ab.oQ B,g2]at g;cases g
   have u:bo (σ.del c) P a' 1 ((l++[(i:Int)]).map int):=by have:=t.base H.here.2;simpa using this
   obtain⟨j,C⟩:∃j,j=l++[(i:Int)]:=⟨_,rfl⟩;rw[<-C]at u;have w:j.length=i+1:=by rw[C,aam,T];rfl
   obtain⟨b,cap,rest,rfl,t1,t2,t3,t4,t5⟩:∃b cap rest,a'=.gK b 0 (i+1) cap/\σ.del c b=none/\i+1<=cap/\(∀e∈j.map int,e.cells.length=1)/\P b=some (.cells (j.map int++rest))/\rest.length=(cap-(i+1))*1:=by
    have V:(j.map int).length=i+1:=by rw[aac,w]
    rcases u.2 with⟨e,_⟩|⟨b,cap,rest,r1,r2,r3,r4,r5,r6⟩
    . have:=congrArg List.length e
      rw[V,aaW]at this;omega
    . rw[V]at r1 r3 r6
      rw[dc (λe W=>by obtain⟨_,_,rfl⟩:=aab.1 W;rfl)]at r5
      exact⟨b,cap,rest,r1,r2,r3,r4,r5,r6⟩
   have al:b≠c:=λe=>I (by rw[e];rfl)
   obtain⟨D,E⟩:∃D,D=j.map int++rest:=⟨_,rfl⟩;rw[<-E]at t4;have X:i+1<=D.length:=by rw[E,aam,aac,w];omega
   have Y:i<D.length:=by omega
   have J:o<D.length:=by omega
   have F:o<j.length:=by omega
   have Z:i<j.length:=by omega
   have av:j[i]=(i:Int):=by simp[C,T]
   obtain⟨x,hx⟩:∃x,x=j[o]:=⟨_,rfl⟩
   have K:D[o]?=some (int x):=by rw[E,aaX (by rw[aac];exact F),aaM,zA F,hx];rfl
   have a7:D[o]=int x:=by have:=K;rw[zA J]at this;exact aax this
   have a8:o+1<=D.length:=by omega
   have ax:(o:Int)<(i:Int)+1:=by omega
   have ay:(i:Int)<(i:Int)+1:=by omega
   refine aa.run lay [] ?_;simp[L,M,N,t4,K,a7,Y,J,X,a8,ax,ay]
   have a9:(D.set i (int x)).set o (int i)=((j.set i x).set o (i:Int)).map int++rest:=by rw[E,List.set_append_left _ _ (by rw[aac];exact Z),List.set_append_left _ _ (by rw[ada,aac];exact F),adF,adF]
   have Q:oV (i+1) ((j.set i x).set o (i:Int)):=by have h1:((j.set i j[o]).set o j[i]).Perm j:=List.set_set_perm Z F;rw[<-hx,av]at h1;refine h1.trans ?_;unfold oV at hP;rw[aaB,aaq,C];exact List.Perm.append_right _ hP
   have A:((j.set i x).set o (i:Int)).length=i+1:=by rw[ada,ada,w]
   refine⟨f1,ih _ g1 ⟨_,_,.gK b 0 (i+1) cap,(j.set i x).set o (i:Int),rfl,by simp[L,M,R,N,f.1,f.2],by simp[L,M,R,N,f.1,f.2],by simp[L,M,R,N,f.1,f.2],by simp,?_,⟨λy v p=>?_,.inr ⟨b,cap,rest,?_,t1,?_,λe W=>?_,?_,?_⟩⟩,I,Q⟩⟩
   . obtain⟨nz,z,q1,q2⟩:=O.1
     exact⟨nz,z,by omega,by rw[ab.ah _ _ (zs al)];exact k4 _ _ B q2⟩
   . have:y≠b:=λe=>by subst e;rw[t1]at p;cases p
     rw[ab.ah _ _ this];exact u.1 y v p
   . rw[aac,A]
   . rw[aac,A];exact t2
   . obtain⟨y,_,rfl⟩:=aab.1 W
     rfl
   . rw[ab.ai,dc (λe W=>by obtain⟨_,_,rfl⟩:=aab.1 W;rfl),<-a9]
   . rw[aac,A,t5]
 . have aC:i=n:=by omega
   subst aC;obtain⟨nz,z,b0,aE⟩:=S;refine aa.run lay [] ?_;simp[L,M,R,N,f.1,f.2];refine bo.thaw (σ0:=σ.set c (.cells [ints nums,int nz,.lit (.int .u64 z)])) (r.keep (λy x p=>?_) λd hd=>?_) (h l _ hP ⟨⟨nz,z,by omega,ab.ai _ _ _⟩,λy p=>ab.ah _ _ p⟩)
   . by_cases y1:y=c
     . subst y1
       rw[ab.ai]at p;rw[aE];exact p
     . rw[ab.ah _ _ y1]at p
       exact r.1 y x (by simpa[ab.del,y1]using p)
   . have d1:d≠c:=λe=>B (e ▸ hd)
     refine⟨rfl,?_⟩;rw[ab.ah _ _ d1];have:=(r.cS hd).1;simpa[ab.del,d1]using this
end
end
section
open Go.bN Go.Conc
def iZ(l:afg)(s:Int × Int)(b:Int):Int × Int:=(if s.1<1048576 then br l s.1 s.2 b else 1048576,b)
def cx(l:afg)(s:Int × Int)(q:afe):Int × Int:=q.foldl (iZ l) s
def fin(a:Int)(q:afe):Int:=q.foldl (λ_ b=>b) a
theorem l8(a b:Int)(q:afe):fin a (q++[b])=b:=by unfold fin;rw[aaG];rfl
theorem iJ(l:afg):∀(q:afe) (s:Int × Int),(cx l s q).2=fin s.2 q
 |[],_=>rfl
 |b::q,s=>iJ l q (iZ l s b)
section
variable{l:afg}
theorem sM(h a b:Int):br l h a b<=1048576:=(kP h a b l 1048576).1
theorem wV{s s':Int × Int}(a:s.1<=s'.1)(c:s.2=s'.2)(b:Int):(iZ l s b).1<=(iZ l s' b).1:=by
 unfold iZ;simp only;by_cases g:s'.1<1048576
 . rw[Rp g,Rp (by omega),c]
   exact(iX.refl l).Ik a
 rw[KD g];split
 . exact sM _ _ _
 exact aat _
theorem sN:∀(q:afe){s s':Int × Int},s.1<=s'.1->s.2=s'.2->(cx l s q).1<=(cx l s' q).1
 |[],_,_,h,_=>h
 |b::q,s,s',a,c=>sN q (wV a c b) rfl
theorem En(a:∀x∈l,1<=x.aQ){s:Int × Int}(h:s.1<=1048576)(b:Int):s.1<=(iZ l s b).1/\(iZ l s b).1<=1048576:=by
 unfold iZ;simp only;split
 . exact⟨vB l _ a (aat _) h,sM _ _ _⟩
 exact⟨h,aat _⟩
theorem fN(a:∀x∈l,1<=x.aQ):∀(q:afe){s:Int × Int},s.1<=1048576->s.1<=(cx l s q).1/\(cx l s q).1<=1048576
 |[],_,h=>⟨aat _,h⟩
 |b::q,s,h=>by have c:=En a h b;have d:=fN a q c.2;exact⟨adm c.1 d.1,d.2⟩
theorem dY(s:Int × Int)(u v:afe):cx l s (u++v)=cx l (cx l s u) v:=aaG ..
theorem oa{n:Nat}{t:afe}(c:Closed l n t)(d:∀i,t.getD i 0<=1048576):∀(q:afe){s:Int × Int},(∀x∈q,0<=x/\x<n)->(0<=s.2/\s.2<n)->t.getD s.2.toNat 0<=s.1->t.getD (fin s.2 q).toNat 0<=(cx l s q).1
 |[],_,_,_,h=>h
 | b ::q,s,e,g,h=>by
   have hb:=e b (by simp);refine oa c d q (s:=iZ l s b) (λx f=>e x (by simp[f])) hb ?_;show t.getD b.toNat 0<=(if s.1<1048576 then br l s.1 s.2 b else 1048576);split
   . have j:=c s.2.toNat b.toNat (by omega) (by omega) (by omega)
     have k:=(iX.refl l).Ik (a:=(s.2.toNat:Int)) (b:=(b.toNat:Int)) h;rw[show(s.2.toNat:Int)=s.2 by omega,show(b.toNat:Int)=b by omega]at *;omega
   exact d _
def ib(l:afg)(n:Nat)(s0:Int × Int)(t:afe):Prop:=t.length=4/\∀b:Nat,b<n->t.getD b 0<1048576->∃q,(∀x∈q,0<=x/\x<(n:Int))/\cx l s0 q=(t.getD b 0,(b:Int))
theorem wW{n:Nat}{s0:Int × Int}{a b:Nat}(i:a<n)(hb:b<n){t:afe}(h:ib l n s0 t):ib l n s0 (fM l a b t):=by
 unfold fM;split
 . next g=>
   refine⟨by rw[ada];exact h.1,λc j d=>?_⟩;rw[jJ]at d ⊢;split at d
   . next e=>
     rw[Rp e];rw[e.1];split
     . next f=>
       obtain⟨q,k,m⟩:=h.2 a i g;refine⟨q++[(b:Int)],λx hx=>?_,?_⟩
       . rcases aan.1 hx with hx|hx
         . exact k x hx
         rw[lb.1 hx];omega
       rw[dY,m];show(if t.getD a 0<1048576 then br l (t.getD a 0) a b else 1048576,(b:Int))=_;rw[Rp g]
     next f=>
     rw[KD f]at d;exact h.2 b hb d
   next e=>
   rw[KD e];exact h.2 c j d
 exact h
theorem sO{n:Nat}{s0:Int × Int}{t:afe}(h:ib l n s0 t):ib l n s0 (pass l n t):=n8 (ib l n s0) _ _ _ (λ_ _ a b=>n8 (ib l n s0) _ _ _ (λ_ _ hb c=>wW (zH.1 a) (zH.1 hb) c) b) h
theorem l9{n:Nat}{s0:Int × Int}:∀(k:Nat){t:afe},ib l n s0 t->ib l n s0 (bV l n k t)
 |0,_,h=>h
 | k+1,t,h=>by
   unfold bV;split
   . exact h
   exact l9 k (sO h)
theorem q8{n:Nat}(c:n<=4){town hour:Int}(d:0<=town):ib l n (hour,town) (begun town hour):=by
 refine⟨by simp[begun],λb hb a=>?_⟩;unfold begun at a ⊢;rw[jJ]at a ⊢;split at a
 . next e=>rw[Rp e];exact⟨[],by simp,by show(hour,town)=_;rw[show(b:Int)=town by omega]⟩
 exfalso
 match b with
 |0=>simp at a
 |1=>simp at a
 |2=>simp at a
 |3=>simp at a
 |b+4=>omega
structure Plain(a:Int)(q:afe):Prop where
 once:∀u1 u2 v,q=u1++u2++v->u2≠[]->fin a u1≠fin a (u1++u2)
 last:∀u v,q=u++v->v≠[]->fin a u≠0
theorem vC(a:Int)(u v:afe):fin a (u++v)=fin (fin a u) v:=aaG ..
theorem vD(d:∀x∈l,1<=x.aQ){s0:Int × Int}(t:s0.1<=1048576){R:afe->Prop}(y:∀u v w,R (u++v++w)->R (u++w)):∀(m:Nat) (q:afe),q.length=m->R q->fin s0.2 q=0->∃q',R q'/\fin s0.2 q'=0/\Plain s0.2 q'/\(cx l s0 q').1<=(cx l s0 q).1/\(q'=q\/q'.length<q.length):=by
 intro m
 induction m using Nat.strongRecOn with
 | _ m A=>
   intro q B g C
   by_cases D:∀a b v,q=a++b++v->b≠[]->fin s0.2 a≠fin s0.2 (a++b)
   . by_cases E:∀u v,q=u++v->v≠[]->fin s0.2 u≠0
     . exact⟨q,g,C,⟨D,E⟩,aat _,.inl rfl⟩
     obtain⟨u,v,e,h,i⟩:∃u v,q=u++v/\v≠[]/\fin s0.2 u=0:=by refine aaH λz=>E λu v e h i=>z ⟨u,v,e,h,i⟩
     have hlen:u.length<m:=by rw[<-B,e,aam];have:=adE.2 h;omega
     have j:R u:=by have:=y u v [] (by rw[aaE,<-e];exact g);rwa [aaE]at this
     obtain⟨q',k,n,o,p,c⟩:=A u.length hlen u rfl j i;refine⟨q',k,n,o,adm p ?_,.inr (by rcases c with rfl|c<;>omega)⟩
     rw[e,dY];exact(fN d v (fN d u t).2).1
   obtain⟨a,b,v,e,r,f⟩:∃a b v,q=a++b++v/\b≠[]/\fin s0.2 a=fin s0.2 (a++b):=by refine aaH λz=>D λa b v e F f=>z ⟨a,b,v,e,F,f⟩
   have hlen:(a++v).length<m:=by rw[<-B,e,aam,aam,aam];have:=adE.2 r;omega
   have s:fin s0.2 (a++v)=0:=by rw[<-C,e,vC,f,<-vC]
   obtain⟨q',k,n,o,p,c⟩:=A _ hlen (a++v) rfl (y a b v (by rw[<-e];exact g)) s
   refine⟨q',k,n,o,adm p ?_,.inr (by rcases c with rfl|c<;>omega)⟩
   rw[e,dY,dY];refine sN v ?_ (by rw[iJ,iJ,f])
   rw[dY];exact(fN d b (fN d a t).2).1
theorem Eo(a b:Int):∀(u:afe),b∈a::u->∃c d,u=c++d/\fin a c=b
 | u,h=>by
   rcases aaw.1 h with rfl|h
   . exact⟨[],u,rfl,rfl⟩
   obtain⟨x,y,rfl⟩:=List.append_of_mem h;exact⟨x++[b],y,by simp,l8 a b x⟩
theorem Plain.nodup{a:Int}:∀{q:afe},(∀c d v,q=c++d++v->d≠[]->fin a c≠fin a (c++d))->(a::q).Nodup:=by
 intro q h;induction q generalizing a with
 |nil=>simp
 | cons b q f=>
   refine aaZ.2 ⟨λg=>?_,f λc d v e i=>?_⟩
   . obtain⟨x,y,e⟩:=List.append_of_mem g
     refine h [] (x++[a]) y (by rw[e];simp) (by simp) ?_;rw[adC,l8];rfl
   have:=h (b::c) d v (by rw[e];simp) i;exact this
end
theorem eC(a:Int)(q:afe):lastT (a::q)=fin a q:=by
 unfold lastT;induction q generalizing a with
 |nil=>rfl
 |cons b q c=>rw[List.getLast?_cons_cons,c];rfl
theorem qt{w:cC}(d:∀x∈w.ways,1<=x.aQ){s0:Int × Int}(h:s0.1<=1048576){q:afe}(i:Plain s0.2 q)(j:∀x∈q,0<=x/\x<w.aF)(k:(cx w.ways s0 q).1<1048576):∀(m:Nat) (u v:afe),u.length=m->q=u++v->(s0.2::u,(cx w.ways s0 u).1)∈gi w ([s0.2],s0.1) u.length
 |0,u,v,c,_=>by obtain rfl:=adg.1 c;show([s0.2],s0.1)∈[([s0.2],s0.1)];simp
 | m + 1,u,v,c,e=>by
   obtain⟨x,b,rfl⟩:∃x b,u=x++[b]:=by
    rcases List.eq_nil_or_concat u with rfl|⟨x,b,rfl⟩
    . simp at c
    exact⟨x,b,by simp⟩
   have l:x.length=m:=by simpa using c
   have n:=qt d h i j k m x (b::v) l (by rw[e];simp)
   have o:=j b (by rw[e];simp)
   have f:(cx w.ways s0 (x++[b])).1<1048576:=by have:=(fN d v (fN d (x++[b]) h).2).1;rw[<-dY,<-e]at this;omega
   have g:(cx w.ways s0 x).1<1048576:=by have:=(fN d [b] (fN d x h).2).1;rw[<-dY]at this;omega
   have a:(cx w.ways s0 (x++[b])).1=br w.ways (cx w.ways s0 x).1 (fin s0.2 x) b:=by
    rw[dY];show(if(cx w.ways s0 x).1<1048576 then br w.ways (cx w.ways s0 x).1 (cx w.ways s0 x).2 b else 1048576)=_
    rw[Rp g,iJ]
   have hlen:(x++[b]).length=x.length+1:=by simp
   rw[hlen];unfold gi;refine aaR.2 ⟨_,n,?_⟩;unfold gM;simp only;rw[eC,KD (i.last x (b::v) (by rw[e];simp) (by simp))]
   unfold iW;refine aab.2 ⟨b.toNat,aaC.2 ⟨zH.2 (by omega),?_⟩,?_⟩
   . unfold qo
     simp only;rw[eC,show((b.toNat:Nat):Int)=b by omega,zj,zR,<-a]
     refine⟨f,?_⟩;rw[adw,aaU];intro c;obtain⟨p,r,s,t⟩:=Eo s0.2 b x c;refine i.once p (r++[b]) v (by rw[e,s];simp) (by simp) ?_
     rw[t,<-List.append_assoc,l8]
   simp only;rw[eC,show((b.toNat:Nat):Int)=b by omega,a]
   rfl
theorem vE{w:cC}(b:w.Valid){c:Nat}(e:c<w.aj.length){p:afe}(f:∀x∈p,0<=x/\x<w.aF)(g:fin w.aj[c].town p=0):ba w c<=(cx w.ways (w.aj[c].hour,w.aj[c].town) p).1:=by
 have a:=b.ov.2 _ (ys e);have k:=b.aF
 have j:ba w c=(cQ w.ways w.aF.toNat w.aj[c].town w.aj[c].hour).getD 0 0:=by unfold ba;rw[zA e];rfl
 rw[j]
 have:=oa (pK (l:=w.ways) (λy d=>(b.cN y d).2.2.1) (n:=w.aF.toNat) (by omega) (town:=w.aj[c].town) (hour:=w.aj[c].hour) ⟨a.2.1,a.2.2⟩) (λi=>((ko (λy d=>(b.cN y d).2.2.1) _ _ (nu (town:=w.aj[c].town) ⟨a.2.1,a.2.2⟩)).2 i).2) p (s:=(w.aj[c].hour,w.aj[c].town)) (λx h=>by have:=f x h;omega) ⟨a.1.1,by show w.aj[c].town<_;omega⟩ (by
  show(cQ w.ways w.aF.toNat w.aj[c].town w.aj[c].hour).getD w.aj[c].town.toNat 0<=w.aj[c].hour;have:=qX (l:=w.ways) (n:=w.aF.toNat) (town:=w.aj[c].town) (hour:=w.aj[c].hour) ⟨a.2.1,a.2.2⟩ w.aj[c].town.toNat;refine adm this ?_;unfold begun;rw[jJ,Rp ⟨rfl,by simp;omega⟩]
  exact aat _)
 rw[show fin w.aj[c].town p=0 from g]at this
 exact this
theorem tz{w:cC}(a:w.Valid){c:Nat}(b:c<w.aj.length)(s:ba w c<1048576):∃p,(∀x∈p,0<=x/\x<w.aF)/\fin w.aj[c].town p=0/\Plain w.aj[c].town p/\(cx w.ways (w.aj[c].hour,w.aj[c].town) p).1=ba w c:=by
 have hx:=a.ov.2 _ (ys b);have t:=a.aF;have i:∀x∈w.ways,1<=x.aQ:=λy j=>(a.cN y j).2.2.1.1
 have d:ba w c=(cQ w.ways w.aF.toNat w.aj[c].town w.aj[c].hour).getD 0 0:=by unfold ba;rw[zA b];rfl
 obtain⟨q,k,e⟩:=(l9 (l:=w.ways) (n:=w.aF.toNat) (mI (begun w.aj[c].town w.aj[c].hour)+1) (q8 (l:=w.ways) (by omega) (hour:=w.aj[c].hour) hx.1.1)).2 0 (by omega) (by show(cQ w.ways w.aF.toNat w.aj[c].town w.aj[c].hour).getD 0 0<_;rw[<-d];omega)
 have A:(cx w.ways (w.aj[c].hour,w.aj[c].town) q).1=ba w c:=by rw[e,d];rfl
 have m:fin w.aj[c].town q=0:=by have:=iJ w.ways q (w.aj[c].hour,w.aj[c].town);rw[e]at this;exact this.symm
 obtain⟨p,f,g,o,B,_⟩:=vD i (s0:=(w.aj[c].hour,w.aj[c].town)) (by show w.aj[c].hour<=_;omega) (R:=λq=>∀x∈q,0<=x/\x<w.aF) (λu v z h x hx=>h x (by
  rcases aan.1 hx with hx|hx
  . simp[hx]
  simp[hx])) q.length q rfl (λx hx=>by have:=k x hx;omega) m
 have r:=vE a b f g;exact⟨p,f,g,o,by omega⟩
theorem rf{w:cC}(b:w.Valid){c:Nat}(f:c<w.aj.length)(l:ba w c<=72):(ia w c w.aj[c]).isSome=true:=by
 have m:=b.ov.2 _ (ys f);have n:=b.aF;have i:∀x∈w.ways,1<=x.aQ:=λy j=>(b.cN y j).2.2.1.1
 obtain⟨p,g,k,h,o⟩:=tz b f (by omega);have d:=qt i (s0:=(w.aj[c].hour,w.aj[c].town)) (by show w.aj[c].hour<=_;omega) h g (by omega) p.length p [] rfl (by simp);have e:=Plain.nodup h.once
 have hlen:=lu w.aF.toNat _ e λx a=>by
  rcases aaw.1 a with rfl|a
  . show 0<=w.aj[c].town/\w.aj[c].town<_;omega
  have:=g x a;omega
 unfold ia;rw[List.find?_isSome];refine⟨_,aaR.2 ⟨p.length,zH.2 (by simp at hlen;omega),d⟩,?_⟩;unfold oD;simp only;rw[eC,zj,zR,zR];exact⟨k,by omega⟩
def bL(T:Nat):Nat->aeJ
 |0=>[[]]
 |k+1=>(bL T k).flatMap λp=>(List.range T).map λ(j:Nat)=>p++[(j:Int)]
theorem jR{T:Nat}:∀{k:Nat}{p:afe},p∈bL T k↔p.length=k/\∀x∈p,0<=x/\x<(T:Int)
 |0,p=>by simp only[bL,lb,adg];exact⟨λe=>⟨e,by rw[e];simp⟩,λe=>e.1⟩
 | k + 1,p=>by
   simp only[bL,aaR,aab,zH];constructor
   . rintro⟨q,d,j,f,rfl⟩
     have:=jR.1 d;refine⟨by simp[this.1],λx hx=>?_⟩;rcases aan.1 hx with hx|hx
     . exact this.2 x hx
     rw[lb.1 hx];omega
   rintro⟨a,c⟩;rcases List.eq_nil_or_concat p with rfl|⟨q,b,rfl⟩
   . simp at a
   have hb:=c b (by simp);refine⟨q,jR.2 ⟨by simpa using a,λx hx=>c x (by simp[hx])⟩,b.toNat,by omega,?_⟩;rw[show((b.toNat:Nat):Int)=b by omega];simp
theorem wX{w:cC}{a h:Int}(d:h<1048576):∀(k:Nat) (r:afe × Int),r∈gi w ([a],h) k->∃u,r.1=a::u/\u.length=k/\(∀x∈u,0<=x/\x<(w.aF.toNat:Int))/\(cx w.ways (h,a) u).1=r.2/\r.2<1048576
 | 0,r,b=>by
   have:r=([a],h):=by simpa[gi]using b
   subst this;exact⟨[],rfl,rfl,by simp,rfl,d⟩
 | k + 1,r,b=>by
   simp only[gi,aaR]at b;obtain⟨y,f,b⟩:=b;obtain⟨u,e,g,i,l,m⟩:=wX d k y f;unfold gM at b;split at b
   . cases b
   unfold iW at b;obtain⟨j,n,rfl⟩:=aab.1 b;obtain⟨o,c⟩:=aaC.1 n;unfold qo at c;rw[zj,zR]at c;have p:lastT y.1=fin a u:=by rw[e,eC]
   refine⟨u++[(j:Int)],by rw[e];rfl,by simp[g],λx hx=>?_,?_,c.1⟩
   . rcases aan.1 hx with hx|hx
     . exact i x hx
     rw[lb.1 hx];have:=zH.1 o;omega
   rw[dY];show(if(cx w.ways (h,a) u).1<1048576 then br w.ways (cx w.ways (h,a) u).1 (cx w.ways (h,a) u).2 j else 1048576)=br w.ways y.2 (lastT y.1) j;rw[iJ,l,Rp m,p]
theorem rk{α:Type}{L:Nat->List α}{P:α->Bool}{x:α}{T:Nat}(h:((List.range T).flatMap L).find? P=some x):∃k,k<T/\(L k).find? P=some x/\∀k'<k,(L k').find? P=none:=by
 rw[List.find?_flatMap,List.findSome?_eq_some_iff]at h;obtain⟨g,k,i,e,b,c⟩:=h;have d:k<T:=zH.1 (by rw[e];simp);refine⟨k,d,b,λk' f=>c k' ?_⟩;have hm:k'∈List.range T:=zH.2 (by omega);have a:(List.range T).Pairwise (·<·):=List.pairwise_lt_range;rw[e]at hm a;rcases aan.1 hm with hm|hm
 . exact hm
 exfalso;rcases aaw.1 hm with rfl|hm
 . omega
 have:=(aaK.1 (List.pairwise_append.1 a).2.1).1 k' hm;omega
theorem Lj{l' l:afg}(h:iX l' l)(c:iX l l'):br l'=br l:=by
 funext t a b;exact Int.le_antisymm (h.Ik (aat _)) (c.Ik (aat _))
section
variable{w:cC}{l:afg}
theorem F7(h:br l=br w.ways):cQ l=cQ w.ways:=by
 have c:fM l=fM w.ways:=by funext a b t;unfold fM;rw[h]
 have d:od l=od w.ways:=by funext n a t;unfold od;rw[c]
 have e:pass l=pass w.ways:=by funext n t;unfold pass;rw[d]
 have f:∀n k t,bV l n k t=bV w.ways n k t:=λn k=>by
  induction k with
  |zero=>exact λt=>rfl
  |succ k g=>intro t;unfold bV;rw[e,g]
 funext n town hour
 exact f n _ _
theorem wY(h:br l=br w.ways):ba (w.by l)=ba w:=by
 funext c
 have:F8 (w.by l)=F8 w:=by
  funext x;show(cQ l w.aF.toNat x.town x.hour).getD 0 0=_;rw[F7 h];rfl
 unfold ba;show(match w.aj[c]? with|some c=>F8 (w.by l) c|none=>0)=_;rw[this];rfl
theorem Il(h:br l=br w.ways)(c:Nat)(a:BC):ia (w.by l) c a=ia w c a:=by
 have d:qo (w.by l)=qo w:=by
  funext r k;show(decide (br l r.2 (lastT r.1) k<1048576) && !decide ((k:Int)∈r.1))=_;rw[h];rfl
 have e:iW (w.by l)=iW w:=by
  funext r n;unfold iW;rw[d];show((List.range n).filter (qo w r)).map (λ(k:Nat)=>(r.1++[(k:Int)],br l r.2 (lastT r.1) k))=_;rw[h]
 have f:gM (w.by l)=gM w:=by funext r;unfold gM;rw[e];rfl
 have g:∀r k,gi (w.by l) r k=gi w r k:=λr k=>by
  induction k with
  |zero=>rfl
  |succ k i=>unfold gi;rw[i,f]
 have j:∀b,oD (w.by l) b=oD w b:=λb=>rfl
 unfold ia;rw[wY h,j];congr 1;show(List.range w.aF.toNat).flatMap _=_;rw[show gi (w.by l) ([a.town],a.hour)=gi w ([a.town],a.hour)from funext λk=>g _ k]
theorem Ll(h:br l=br w.ways)(t i:Int):qE (w.by l) t i=qE w t i:=by
 have a:∀t,dv (w.by l) t=dv w t:=λt=>by unfold dv pC;rw[wY h];rfl
 have b:∀c,il (w.by l) t i c=il w t i c:=λc=>by unfold il kC;rw[a];rfl
 unfold qE;show(m8 w.aj.length).filter _=_;exact ads λc _=>by rw[b]
theorem Im(h:br l=br w.ways)(k:Nat):iB (w.by l) k=iB w k:=by
 have a:∀t i,sP (w.by l) t i=sP w t i:=λt i=>by unfold sP;rw[Ll h]
 have b:∀i n,bZ (w.by l) i n=bZ w i n:=λi n=>by
  induction n with
  |zero=>rfl
  |succ n c=>unfold bZ;rw[a,c]
 have d:∀i,cR (w.by l) i=cR w i:=λi=>by unfold cR;rw[b]
 unfold iB;exact congrArg (λf=>(List.range k).foldl f 0) (funext λn=>funext λi=>by rw[d])
end
def Way.sc(x:Way):Way:=⟨x.b,x.a,x.aQ,x.aU,x.dD⟩
theorem Ar{x:Way}{a b:Int}:eu x.sc a b↔eu x a b:=by
 unfold eu Way.sc;simp only;constructor<;>rintro(⟨c,d⟩|⟨c,d⟩)
 . exact .inr ⟨d,c⟩
 . exact .inl ⟨d,c⟩
 . exact .inr ⟨d,c⟩
 . exact .inl ⟨d,c⟩
theorem Lm{T:Int}{x:Way}(h:kF T x=0):kF T x.sc=0:=by
 unfold kF at h;split at h
 . cases h
 next a=>
 split at h
 . cases h
 next b=>
 split at h
 . cases h
 next c=>
 split at h
 . cases h
 next d=>
 split at h
 . cases h
 next f=>
 split at h
 . cases h
 next g=>
 split at h
 . cases h
 next i=>
 unfold kF Way.sc;rw[KD b,KD a,KD (λe=>c e.symm),KD d,KD f,KD g,KD i]
theorem Ln{l l':afg}{o:afe}(m:oV l.length o)(s:l'.length=l.length)(h:∀(i:Nat) (j:Int) x,o[i]?=some j->l[i]?=some x->l'[j.toNat]?=some x.sc):iX l' l/\iX l l'/\∀T,(∀x∈l,kF T x=0)->∀x∈l',kF T x=0:=by
 have n:=m.len
 have c:∀x∈l',∃y∈l,x=y.sc:=λx d=>by
  obtain⟨j,p,rfl⟩:=List.getElem_of_mem d;have f:(j:Int)∈o:=m.mem.2 ⟨by omega,by omega⟩;obtain⟨i,g,e⟩:=List.getElem_of_mem f;have:=h i j l[i] (by rw[zA g,e]) (zA (by omega));rw[adq,zA p]at this;exact⟨l[i],ys _,aax this⟩
 refine⟨λx d=>?_,λx d=>?_,λT r x d=>?_⟩
 . obtain⟨i,g,rfl⟩:=List.getElem_of_mem d
   have:=h i o[i] l[i] (zA (by omega)) (zA g);exact⟨_,aeb this,λa b q=>Ar.2 q,aat _,aat _,aat _⟩
 . obtain⟨y,k,rfl⟩:=c x d
   exact⟨y,k,λa b q=>Ar.1 q,aat _,aat _,aat _⟩
 . obtain⟨y,k,rfl⟩:=c x d
   exact Lm (r y k)
end
open Go.bN Go.Conc
variable{m:Mo}{σ:ab}{KF:aeQ}
abbrev Lp:afk:=[.lit (.slice none 0 0),.lit (.slice none 0 0),int 0,int 0,int 0,int 0,int 0,.lit (.slice none 0 0),.lit (.slice none 0 0)]
abbrev vF(w:cC)(a b:AV):afk:=[kq w.fair.az,rows w.fair.roads,int w.fair.aU,int w.fair.dD,int w.fair.cJ,int w.fair.aX,int w.aF,a,b]
theorem vG{w}(hg:w.fair.Good)(hm:∀e∈w.fair.az,e.marks.length<=1000000000)(R:w.fair.roads.length<=1000000)(S:∀r∈w.fair.roads,r.length<=1000000000)(a8:w.ways.length<=6)(hc:∀c∈w.aj,c.lost.marks.length<=1000000000)(a9:w.aj.length<=3)(h:∀a σ',bo σ σ' a 5 (w.ways.map eM)->KF (.val (.agg (vF w a (gS w.aj)))) σ'):aB Tryz.prog m 12 [bS w] σ KF:=by
 refine aB.start lay [] ZR 1 Tryz.func12 rfl rfl (by rfl) (by kernel_rfl) ?_
 simp[Tryz.f12];refine bO.intro λk L=>?_
 simp;obtain⟨J,T⟩:∃J:aeO,J=λenv σ'=>∃g a,σ g=none/\g≠k/\env 1=.cp (bS w) 0/\env 2=.ref k 0/\env 3=.ref g 0/\σ' k=some (.cells Lp)/\σ' g=some (.cells (vF w a (.lit (.slice none 0 0))))/\bo σ σ' a 5 (w.ways.map eM)/\bJ a≠some k/\bJ a≠some g:=⟨_,rfl⟩
 have hlen:([]:afk).length+(w.ways.map eM).length<=1073741824:=by simp;omega
 refine Lq (P:=?P2) (λkey=>?f2) ?p2
 case f2=>
  repeat' (first
            |apply And.intro
            | (refine ak Tryz.func35 rfl rfl (Ii hg hm R S ?_)
               refine aK.go lay [] ?_
               first|simp[d.1,d.2,u3,aI]|simp[d.1,d.2,aI]|simp[aI])
            | (refine fU lay rfl rfl rfl Ow rfl Ow rfl UO (by decide) hlen (es:=[]) (xs:=w.ways.map eM) (.empty _ 5) (.inl (.inr ⟨_,rfl⟩)) (by simp) λa n v=>?_
               have d:=v.cells;refine aK.go lay [] ?_
               first|(have u3:=v.1 g _ (ab.ai _ _ _);simp[d.1,d.2,u3,aI])|simp[d.1,d.2,aI])
            | (refine nH.intro λg E=>?_
               first|simp[d.1,d.2,aI]|simp[aI]))
  all_goals first
   | (obtain⟨I,M,K⟩:=ab.aS E
      have hx:σ.Le ((σ.set k (.cells Lp)).set g (.cells Lp)):=ab.jW (ab.jW (ab.le_refl _) L) E;have F:bJ a≠some g:=λe=>by have:=(v.cS e).1;rw[ab.ai]at this;cases this
      have N:bJ a≠some k:=λe=>by have:=(v.cS e).1;rw[ab.ah _ _ M,ab.ai]at this;cases this
      have O:n k=some (.cells Lp):=v.1 _ _ (by rw[ab.ah _ _ M];exact ab.ai _ _ _)
      refine aa.gN J (by rw[T];exact⟨g,a,K,I,by simp,by simp,by simp,by rw[ab.ah _ _ M];exact O,ab.ai _ _ _,(v.base hx).beside K F,N,F⟩) ?_
      exact key)
   | (have U:σ.Le n:=ab.le_trans (ab.jW (ab.le_refl _) L) v.1
      have K:=U.none E;have F:bJ a≠some g:=λe=>by obtain⟨l,q⟩:=(v.cS e).2;rw[E]at q;cases q
      have N:bJ a≠some k:=λe=>by have:=(v.cS e).1;rw[ab.ai]at this;cases this
      have O:n k=some (.cells Lp):=v.1 _ _ (ab.ai _ _ _);have I:g≠k:=λe=>by subst e;rw[E]at O;cases O
      refine aa.gN J (by rw[T];exact⟨g,a,K,I,by simp,by simp,by simp,by rw[ab.ah _ _ (zs I)];exact O,by first|exact ab.ai _ _ _|(rw[ab.set_set];exact ab.ai _ _ _),by first|exact(v.base (ab.jW (ab.le_refl _) L)).beside K F|(rw[ab.set_set];exact(v.base (ab.jW (ab.le_refl _) L)).beside K F),N,F⟩) ?_
      exact key)
 case p2=>
  rw[T]
  rintro env σ' ⟨g,a,E,I,o,p,t,z,A,j,N,F⟩
  have M:k≠g:=zs I;refine aa.run lay [] ?_;simp[o,p,t];refine aa.loop w.aj.length (λi s=>∃env σ' b,s=⟨env,σ',[],.no⟩/\env 1=.cp (bS w) 0/\env 2=.ref k 0/\env 3=.ref g 0/\env 4=int i/\σ' k=some (.cells Lp)/\σ' g=some (.cells (vF w a b))/\bo σ σ' a 5 (w.ways.map eM)/\Go.bN.Tok σ σ' b 8 ((w.aj.take i).map iC)) ⟨_,_,.lit (.slice none 0 0),rfl,by simp[o,p,t],by simp[o,p,t],by simp[o,p,t],by simp,z,A,j,⟨j.1,.inl ⟨rfl,rfl⟩⟩⟩ ?_
  clear o p t z A j env σ'
  rintro c0 i _ hi ⟨env,σ',b,rfl,o,p,t,G,z,A,j,u⟩ ih
  have f:=u.cells;have d:=j.cells
  rcases aaA i w.aj.length with g1|g1
  . have ad:(i:Int)<w.aj.length:=by omega
    have f1:-9223372036854775808<=(i:Int)+1/\(i:Int)+1<=9223372036854775807:=by omega
    refine aa.run lay [] ?_;simp[o,p,t,G,z,A,d.1,d.2,f.1,f.2,g1]
    repeat' (first
              |apply And.intro
              | (refine ak Tryz.func36 rfl rfl (xU (hc _ (ys g1)) ?_)
                 refine aK.go lay [] ?_;simp[o,p,t,G,z,A,d.1,d.2,f.1,f.2,g1,aI])
              | (refine aN lay rfl rfl rfl Lr rfl Lr rfl UQ (by decide) (by simp;omega) (σ0:=σ'.off b) (es:=(w.aj.take i).map iC) (xs:=[iC w.aj[i]]) (by simpa using u.here.1) (.inr ⟨_,by simp[aI];rfl⟩) λV n C=>?_
                 have H:=C.cells;have X:∀y l,σ' y=some (.cells l)->n y=some (.cells l):=λy l hy=>C.1 _ _ (by rw[ab.dF (λe=>by obtain⟨_,_,q⟩:=u.aV e;rw[hy]at q;cases q)];exact hy)
                 have t3:=X _ _ A;have t2:=X _ _ z;refine aK.go lay [] ?_;simp[o,p,t,G,t2,t3,d.1,d.2,H.1,H.2,aI]))
    all_goals (
     refine aa.run lay [] ?_;simp[G,f1.1,f1.2];have kb:∀bk,bJ a=some bk->n bk=σ' bk/\bk≠g:=λbk hb=>⟨by obtain⟨_,l,q⟩:=j.cS hb;rw[q];exact X _ _ q,λe=>F (by rw[hb,e])⟩
     have Q:=C.base u.here.2;have Y:bt V≠some g:=λe=>by obtain⟨_,_,q⟩:=C.aV e;rw[t3]at q;cases q
     refine ih _ g1 ⟨_,_,V,rfl,by simp[o,p,t,G,z,A,d.1,d.2,f.1,f.2],by simp[o,p,t,G,z,A,d.1,d.2,f.1,f.2],by simp[o,p,t,G,z,A,d.1,d.2,f.1,f.2],by simp,by rw[ab.ah _ _ M];exact t2,ab.ai _ _ _,j.keep (ab.fK Q.1 E) (λbk hb=>⟨by rw[ab.ah _ _ (kb bk hb).2];exact(kb bk hb).1,(j.cS hb).1⟩),?_⟩
     have:=Q.beside (x:=.cells (vF w a V)) E Y;rw[za g1,aaq];simpa using this)
  have Z:i=w.aj.length:=by omega
  subst Z;rw[aar]at u
  have a7:(AV.agg (vF w a b)).W (.agg (vF w a (gS w.aj))):=nY rfl λi x y B D=>by
   match i with
   |0=>cases B;cases D;exact .refl _
   |1=>cases B;cases D;exact .refl _
   |2=>cases B;cases D;exact .refl _
   |3=>cases B;cases D;exact .refl _
   |4=>cases B;cases D;exact .refl _
   |5=>cases B;cases D;exact .refl _
   |6=>cases B;cases D;exact .refl _
   |7=>cases B;cases D;exact .refl _
   |8=>cases B;cases D;exact u.W
   |i+9=>cases B
  refine aa.run lay [] ?_;simp[o,p,t,G,z,A,d.1,d.2,f.1,f.2,aI];exact .px a7 (.done (h a _ (j.beside L N)))
theorem XE{P:afn}{m:Mo}{fid n:Nat}{ro:aeX}{hold:aeV}{K:bN.Exit->St->Prop}{todo:afb}{env:Env}{σ0 σ:ab}{D:List zv}{rc:Rec}{kk d i:Nat}{a:AV}{cs es:afk}(hd:bJ a≠some d)(h:bo σ0 σ a kk es)(l:σ d=some (.cells cs))(hi:cs[i]?=some a)
 (o:∀g σ',σ' d=some (.cells (cs.set i g))->g.W (.sl kk es .any)->g.cells=[g]/\g.flat=true->aa P m fid n ro hold todo ⟨env,σ',D,rc⟩ K):aa P m fid n ro hold todo ⟨env,σ,D,rc⟩ K:=by
 have p:=(aas.1 hi).1
 have c:cs.set i a=cs:=by rw[<-(aas.1 hi).2];exact List.set_getElem_self ..
 rcases h.2 with⟨rfl,e|e⟩|⟨b,cap,rest,e,E,z,t,A,B⟩
 . exact o a σ (by rw[c];exact l) (by rw[e];exact dR kk) h.cells
 . exact o a σ (by rw[c];exact l) (by rw[e];exact eZ kk [] .exact) h.cells
 subst e;have C:=aY t;have r:d≠b:=λq=>hd (by rw[q];rfl)
 refine aa.freeze b _ A (λu=>.refl _) (σ':=(σ.del b).set d (.cells (cs.set i (.sl kk es .any)))) (λy x f=>?_) (o (.sl kk es .any) _ (ab.ai _ _ _) (.refl _) ⟨rfl,rfl⟩)
 by_cases e:y=d
 . subst e
   rw[ab.ai]at f;cases f;refine⟨r,.inr ⟨_,_,l,rfl,by simp,λj x F s k=>?_⟩⟩
   by_cases v:j=i
   . subst v
     rw[hi]at s;cases s;rw[acn p]at k;cases k;refine .sl 0 cap kk es .any z ?_ t (λj x w=>?_) (.inl rfl)
     . have:cap*kk=es.length*kk+(cap-es.length)*kk:=by rw[<-Nat.add_mul];congr 1;omega
       simp only[aam,C,B];omega
     rw[adn,aaX (aas.1 w).1];exact w
   rw[ach (zs v)]at k;rw[s]at k;cases k;exact .refl _
 rw[ab.ah _ _ e]at f;unfold ab.del at f;split at f
 . cases f
 next q=>exact⟨q,.inl f⟩
structure Nf(c e:Nat)(nums:afe)(k:Nat)(w:cC)(a:AV)(l:afg)(σ:ab):Prop where
 bag:bg c nums k σ
 cells:σ e=some (.cells (vF w a (gS w.aj)))
 tok:bo (λ_=>none) σ a 5 (l.map eM)
 ne:e≠c
 nc:bJ a≠some c
 nx:bJ a≠some e
theorem Nf.row{c e:Nat}{nums:afe}{k:Nat}{w:cC}{a:AV}{l:afg}{σ:ab}(h:Nf c e nums k w a l σ){b n cap:Nat}(d:a=.gK b 0 n cap):n=l.length/\n<=cap/\b≠e/\b≠c/\∃rest,σ b=some (.cells (flatten (l.map eM)++rest))/\rest.length=(cap-n)*5:=by
 rcases h.tok.2 with⟨_,q|q⟩|⟨r,g,rest,q,s,j,t,m,i⟩
 . rw[d]at q;cases q
 . rw[d]at q;cases q
 rw[d]at q;injection q with o u f p;subst o;subst p;rw[aac]at f j i;exact⟨f,by omega,λq=>h.nx (by rw[d,q];rfl),λq=>h.nc (by rw[d,q];rfl),rest,m,by rw[i,f]⟩
theorem Nf.put{c e:Nat}{nums:afe}{k:Nat}{w:cC}{a:AV}{l l':afg}{σ:ab}(h:Nf c e nums k w a l σ){b n cap:Nat}(i:a=.gK b 0 n cap)(d:l'.length=l.length){rest:afk}(j:rest.length=(cap-n)*5):Nf c e nums k w a l' (σ.set b (.cells (flatten (l'.map eM)++rest))):=by
 obtain⟨f,m,o,p,g,z,A⟩:=h.row i;obtain⟨r,s,t,u⟩:=h.bag;refine⟨⟨r,s,t,by rw[ab.ah _ _ (zs p)];exact u⟩,by rw[ab.ah _ _ (zs o)];exact h.cells,⟨(λ_ _ q=>by cases q),.inr ⟨b,cap,rest,by rw[i,aac,d,f],rfl,by rw[aac,d,<-f];exact m,λx v=>?_,ab.ai _ _ _,by rw[aac,d,<-f];exact j⟩⟩,h.ne,h.nc,h.nx⟩;obtain⟨y,_,rfl⟩:=aab.1 v;rfl
theorem Se(l:afg)(rest:afk):(flatten (l.map eM)++rest).length=l.length*5+rest.length:=by rw[aam,aY (kk:=5) λe a=>by obtain⟨y,_,rfl⟩:=aab.1 a;rfl,aac]
theorem US{w:cC}(a:fJ w=0):∀x∈w.ways,kF w.aF x=0:=by
 unfold fJ at a;split at a
 . cases a
 split at a
 . cases a
 split at a
 . next q=>exact absurd a q
 next q=>
 exact oW _ (by simpa using q)
theorem F9{k:Nat}{e':AV}(c:e'.cells.length=k):∀(es:afk) (i:Nat) (_:i<es.length),(∀e∈es,e.cells.length=k)->(flatten es).take (i*k)++(e'.cells++(flatten es).drop (i*k+k))=flatten (es.set i e')
 | e::es,0,_,a=>by
   have b:=a e (by simp);rw[List.set_cons_zero,flatten_cons,flatten_cons,Nat.zero_mul,List.take_zero,adC,adn,<-b,List.drop_left]
 | e::es,i+1,d,a=>by
   have b:=a e (by simp);rw[List.set_cons_succ,flatten_cons,flatten_cons,<-F9 c es i (by simpa using d) (λx f=>a x (by simp[f])),show(i+1)*k=e.cells.length+i*k by rw[b,adK];omega,Nat.add_assoc,List.take_length_add_append,List.drop_length_add_append,adr]
theorem Sf{l:afg}{K:Nat}(d:K<l.length)(b:Way)(rest:afk):(flatten (l.map eM)++rest).take (K*5)++((eM b).cells++(flatten (l.map eM)++rest).drop (K*5+5))=flatten ((l.set K b).map eM)++rest:=by
 have c:∀e∈l.map eM,e.cells.length=5:=λe f=>by obtain⟨y,_,rfl⟩:=aab.1 f;rfl
 have a:=aY c;rw[aac]at a;have g:K*5+5<=(flatten (l.map eM)).length:=by rw[a];omega
 rw[List.take_append_of_le_length (by omega),List.drop_append_of_le_length g,<-List.append_assoc,<-List.append_assoc,adr (List.take _ _),F9 (k:=5) (e':=eM b) rfl (l.map eM) K (by simpa using d) c,adF]
def Ep(l:afg)(o:afe)(k:Nat)(X:afg):Prop:=X.length=l.length/\∀i:Nat,i<k->∀(j:Int) x,o[i]?=some j->l[i]?=some x->X[j.toNat]?=some x.sc
theorem Ep.put{l:afg}{o:afe}{k:Nat}{X:afg}(d:oV l.length o)(h:Ep l o k X)(r:k<l.length)(a:k<o.length):Ep l o (k+1) (X.set (o[k]).toNat l[k].sc):=by
 refine⟨by rw[ada];exact h.1,λi v j x m f=>?_⟩
 have hb:=d.mem.1 (ys a);have b:(o[k]).toNat<X.length:=by rw[h.1];omega
 obtain⟨c,n⟩:=aas.1 m;have s:=d.mem.1 (n ▸ ys c)
 by_cases e:i=k
 . subst e
   rw[n]at b ⊢;rw[acn b];rw[zA r]at f;rw[aax f]
 have g:(o[k]).toNat≠j.toNat:=λq=>by
  have t:o[k]=o[i]:=by omega
  have p:=d.nodup.idxOf_getElem k a;have u:=d.nodup.idxOf_getElem i c;rw[t,u]at p;exact e p
 rw[ach g];exact h.2 i (by omega) j x m f
theorem Ls{w:cC}(b:w.Valid){c:Nat}(d:c<w.aj.length){r:afe × Int}(h:ia w c w.aj[c]=some r):r.1.length<=5:=by
 have g:=b.ov.2 _ (ys d);have i:=b.aF;unfold ia at h;obtain⟨k,j,f,_⟩:=rk h;obtain⟨u,e,l,_⟩:=wX (w:=w) (a:=w.aj[c].town) (h:=w.aj[c].hour) (by omega) k r (List.mem_of_find?_eq_some f);rw[e,aaI];omega
theorem bg.le{c:Nat}{nums:afe}{k:Nat}{σ σ':ab}(h:bg c nums k σ)(a:σ.Le σ'):bg c nums k σ':=by obtain⟨n,z,b,d⟩:=h;exact⟨n,z,b,a _ _ d⟩
theorem bg.at{c:Nat}{nums:afe}{k:Nat}{σ:ab}(h:bg c nums k σ):∃x,σ c=some x:=by obtain⟨n,z,b,a⟩:=h;exact⟨_,a⟩
theorem bg.put{c e:Nat}{nums:afe}{k:Nat}{σ:ab}(h:bg c nums k σ)(a:e≠c)(x:uq):bg c nums k (σ.set e x):=by obtain⟨n,z,b,d⟩:=h;exact⟨n,z,b,by rw[ab.ah _ _ (zs a)];exact d⟩
theorem Nf.make{c e:Nat}{nums:afe}{k:Nat}{w:cC}{a:AV}{σ0 σ σ':ab}(hb:bg c nums k σ')(f:bo σ0 σ a 5 (w.ways.map eM))(h:∀b,bJ a=some b->σ' b=σ b)(i:∃x,σ0 c=some x)(d:e≠c)(g:bJ a≠some e):Nf c e nums k w a w.ways (σ'.set e (.cells (vF w a (gS w.aj)))):=
 ⟨hb.put d _,ab.ai _ _ _,f.keep (λ_ _ q=>by cases q) λb q=>⟨by rw[ab.ah _ _ λz=>g (by rw[q,z])];exact h b q,rfl⟩,d,(λq=>by have:=(f.cS q).1;obtain⟨x,z⟩:=i;rw[z]at this;cases this),g⟩
theorem Er(G:m.solo=true){nums:afe}(hn:nums.length<1152921504606846976)(h:∀σ',KF (.val (bool true)) σ'):pS Tryz.prog lay m 8 [ints nums] σ KF:=by
 refine pS.start lay [] pl8 1 Tryz.func8 rfl rfl (by rfl) (by kernel_rfl) ?_
 simp[Tryz.f8];refine ak Tryz.func10 rfl rfl (wx λc cb hc hb a8=>?_)
 refine aa.run lay [] ?_;simp;refine ak Tryz.func11 rfl rfl (WA.uo (by omega) hn ⟨by omega,by omega⟩ hb λw own lost b6 Z hd=>?_)
 refine aa.runN lay [] 8 ?_;simp;refine bO.intro λd aC=>?_
 simp[aI]
 change aa _ _ _ _ _ _ _ _ _
 refine aa.bf 4 (b:=d) (bS w) (ab.ai _ _ _) (by simp) rfl ?_
 rw[dH aC];have E:=Z.valid;have hk:=Z.yl;have c3:=E.ov.1;have h6:=E.mT;have hO:=E.open;have U:bg c nums 600 b6:=hd.1;have h5:=Z.ZT;have b7:=US hk;have H:w.fair.Good:=Fr.pw E.jA.fits E.jA.yl;have o1:∀e∈w.fair.az,e.marks.length<=1000000000:=λe q=>by have:=Z.XF e q;omega
 have o2:w.fair.roads.length<=1000000:=by have:=Z.rows.1;omega
 have o3:∀r∈w.fair.roads,r.length<=1000000000:=λr q=>by have:=Z.rows.2 r q;omega
 have o4:w.ways.length<=6:=by omega
 have o5:∀c∈w.aj,c.lost.marks.length<=1000000000:=λx q=>by have:=Z.XG x q;omega
 have k6:600+w.ways.length<1000000:=by omega
 have V:w.ways.length<=1000:=by omega
 obtain⟨J,hJ⟩:∃J:aeO,J=λenv σ'=>env 4=.cp (bS w) 0/\env 9=int 0/\∃e a o k,env 7=.ref e 0/\env 8=ints o/\oV w.ways.length o/\Nf c e nums k w a w.ways σ':=⟨_,rfl⟩
 have f:=U.at
 refine Lq (P:=?P2) (λkey=>?f2) ?p2
 case f2=>
  refine aa.run lay [] ?_;simp;refine⟨?_,?_⟩
  . refine ak Tryz.func12 rfl rfl (vG H o1 o2 o3 o4 o5 c3 λa t B=>?_)
    have X:=B.cells;have I:=U.le B.1;refine aK.go lay [] ?_;simp;refine⟨?_,?_⟩
    . refine ak Tryz.func29 rfl rfl (Aq k6 hn V I λo aE Q g=>?_)
      refine aK.go lay [] ?_;simp;refine nH.intro λe S=>?_
      have u:∀b,bJ a=some b->b≠c/\∃l,t b=some l:=λb q=>⟨(λz=>by
       obtain⟨x,y⟩:=f;have:=(B.cS q).1;rw[z,y]at this;cases this),by
       obtain⟨l,y⟩:=(B.cS q).2;exact⟨_,y⟩⟩
      have n:e≠c:=λq=>by obtain⟨x,z⟩:=g.1.at;rw[q,z]at S;cases S
      have hx:bJ a≠some e:=λq=>by obtain⟨z1,l,z2⟩:=u e q;rw[<-g.2 e z1,S]at z2;cases z2
      have HX:=Nf.make g.1 B (λb q=>g.2 b (u b q).1) f n hx
      simp[X.2,aI];refine aa.run lay [] ?_;simp;refine aa.gN J (by rw[hJ];exact⟨by simp,by simp,e,a,o,600+w.ways.length,by simp,by simp,Q,HX⟩) ?_
      exact key
    refine nH.intro λe S=>?_
    have u:∀b,bJ a=some b->b≠c/\∃l,t b=some l:=λb q=>⟨(λz=>by
     obtain⟨x,y⟩:=f;have:=(B.cS q).1;rw[z,y]at this;cases this),by
     obtain⟨l,y⟩:=(B.cS q).2;exact⟨_,y⟩⟩
    have n:e≠c:=λq=>by obtain⟨x,z⟩:=I.at;rw[q,z]at S;cases S
    have hx:bJ a≠some e:=λq=>by obtain⟨z1,l,z2⟩:=u e q;rw[S]at z2;cases z2
    simp;refine ak Tryz.func29 rfl rfl (Aq k6 hn V (I.put n _) λo aE Q g=>?_)
    have HX:=Nf.make g.1 B (λb q=>by rw[g.2 b (u b q).1,ab.ah _ _ (λz=>hx (by rw[q,z]))]) f n hx
    have qe:=(g.2 e n).trans (ab.ai _ _ _);refine aK.go lay [] ?_;simp[X.2,qe,aI];refine aa.run lay [] ?_;simp;refine aa.gN J (by rw[hJ];exact⟨by simp,by simp,e,a,o,600+w.ways.length,by simp,by simp,Q,HX⟩) ?_
    exact key
  refine nH.intro λe S=>?_
  have n:e≠c:=λq=>by obtain⟨x,z⟩:=f;rw[q,z]at S;cases S
  simp;refine ak Tryz.func12 rfl rfl (vG H o1 o2 o3 o4 o5 c3 λa t B=>?_)
  have X:=B.cells;have I:=(U.put n _).le B.1
  have u:∀b,bJ a=some b->b≠c/\b≠e:=λb q=>⟨(λz=>by
   obtain⟨x,y⟩:=f;have:=(B.cS q).1;rw[z,ab.ah _ _ (zs n),y]at this;cases this),(λz=>by
   have:=(B.cS q).1;rw[z,ab.ai]at this;cases this)⟩
  have q3:=B.1 e _ (ab.ai _ _ _);refine aK.go lay [] ?_;simp;refine ak Tryz.func29 rfl rfl (Aq k6 hn V I λo aE Q g=>?_)
  have qe:=(g.2 e n).trans q3;have HX:=Nf.make g.1 B (λb q=>g.2 b (u b q).1) (by obtain⟨x,y⟩:=f;exact⟨x,by rw[ab.ah _ _ (zs n)];exact y⟩) n (λq=>(u e q).2 rfl)
  refine aK.go lay [] ?_;simp[X.2,qe,aI];refine aa.run lay [] ?_;simp;refine aa.gN J (by rw[hJ];exact⟨by simp,by simp,e,a,o,600+w.ways.length,by simp,by simp,Q,HX⟩) ?_
  exact key
 case p2=>
  rw[hJ];clear hJ J f U Z hd hb a8 hc aC o1 o2 o3 o5 k6 V
  rintro env t ⟨v,e9,e,a,o,kk,p,e8,Q,L⟩
  have b8:=Q.len;refine aa.loop w.ways.length (λi s=>∃env σ' l,s=⟨env,σ',[],.no⟩/\(env 4=.cp (bS w) 0/\env 7=.ref e 0/\env 8=ints o/\env 9=int i)/\Nf c e nums kk w a l σ'/\Ep w.ways o i l) ⟨env,t,w.ways,rfl,⟨v,p,e8,e9⟩,L,⟨rfl,λi q=>absurd q (aee _)⟩⟩ ?_
  clear v p e8 e9 L env t
  rintro c0 i _ hi ⟨env,t,l,rfl,⟨v,p,e8,e9⟩,L,hU⟩ ih
  refine aa.runN lay [] 32 ?_;simp[e8,e9,b8];refine aG.intro (λg1=>?_) (λg1=>?_)<;>(try simp[-Int.not_lt,-Int.not_le,-Nat.not_lt,-Nat.not_le]at g1)<;>(try simp[v,e9,g1])
  . refine bO.intro λd hd=>?_
    simp[aI]
    change aa _ _ _ _ _ _ _ _ _
    refine aa.bf 10 (b:=d) (eM w.ways[i].sc) (ab.ai _ _ _) (by simp) rfl ?_
    rw[dH hd];have a9:i<o.length:=by omega
    have cg:=Q.mem.1 (ys a9);obtain⟨K,hK⟩:∃K:Nat,(K:Int)=o[i]:=⟨(o[i]).toNat,by omega⟩
    have b9:o[i]?=some (K:Int):=by rw[hK];exact zA a9
    have M:K<l.length:=by rw[hU.1];omega
    have aL:=hU.put Q g1 a9;rw[<-hK,adq]at aL
    rcases id L.tok.2 with⟨bm,ha⟩|⟨b,cap,bq,ad,h0,h1,h2,h3,h4⟩
    . rw[List.map_eq_nil_iff.1 bm]at M
      exact absurd M (aee _)
    obtain⟨qn,qc,qe,cm,rest,a7,aO⟩:=L.row ad;have hq:=L.cells;rw[ad]at hq;have al:=L.put ad (l':=l.set K w.ways[i].sc) (by rw[ada]) aO
    rw[<-Sf M]at al;have f5:K*5+5<=(flatten (l.map eM)++rest).length:=by rw[Se];omega
    obtain⟨R,hR⟩:∃R,R=flatten (l.map eM)++rest:=⟨_,rfl⟩;rw[<-hR]at a7 al f5;have cr:K<(l.map eM).length:=by rw[aac];exact M
    refine aa.run lay [] ?_;simp[p,e8,e9,hq,b9,a7,aI];refine⟨M,?_⟩;simp[f5];refine aa.run lay [] ?_;simp[e9];refine⟨by omega,ih _ g1 ⟨_,_,l.set K w.ways[i].sc,rfl,⟨by simp[v],by simp[p],by simp[e8],by simp⟩,al,aL⟩⟩
  have ei:i=w.ways.length:=by omega
  subst ei;obtain⟨f1,f2,f3⟩:=Ln Q hU.1 λi j x h1 h2=>hU.2 i (aas.1 h2).1 j x h1 h2
  have av:=f3 w.aF b7;have b0:l.length<=6:=by rw[hU.1];exact o4
  have C:=Ov E hk b0 av;have b1:=Ou E hk b0 av;have ax:=Lj f1 f2;have ay:=wY ax;have bw:=Il ax;have bA:=Im ax;have bB:=C.open;have c5:dI w [] [] []=0:=nI hk (by simp) (by simp) (by simp)
  have c6:dI (w.by l) [] [] []=0:=nI b1 (by simp) (by simp) (by simp)
  refine XE L.nx L.tok L.cells (i:=7) rfl λa2 cv q7 c7 b2=>?_
  refine aa.bf 7 (b:=e) (.agg (vF w a2 (gS w.aj))) q7 (by simp[p]) (by simp) ?_
  refine aa.gN (λenv _=>env 4=.cp (bS w) 0/\env 7=.cp (.agg (vF w a2 (gS w.aj))) 0/\env 11=int 0) ⟨by simp[v],by simp,by simp⟩ ?_
  have b3:(AV.agg (vF w a2 (gS w.aj))).W (bS (w.by l)):=nY rfl λi x y T Y=>by
   match i with
   |0=>cases T;cases Y;exact .refl _
   |1=>cases T;cases Y;exact .refl _
   |2=>cases T;cases Y;exact .refl _
   |3=>cases T;cases Y;exact .refl _
   |4=>cases T;cases Y;exact .refl _
   |5=>cases T;cases Y;exact .refl _
   |6=>cases T;cases Y;exact .refl _
   |7=>cases T;cases Y;exact c7
   |8=>cases T;cases Y;exact .refl _
   |i+9=>cases T
  have dj:=b2.1;have dm:=b2.2;clear v p e8 e9 env L q7 hU f1 f2 f3 av t
  rintro env b4 ⟨v,p,bH⟩
  refine aa.loop w.aj.length (λc s=>∃env σ',s=⟨env,σ',[],.no⟩/\env 4=.cp (bS w) 0/\env 7=.cp (.agg (vF w a2 (gS w.aj))) 0/\env 11=int c) ⟨env,b4,rfl,v,p,bH⟩ ?_
  clear v p bH env b4
  rintro c1 c _ dr ⟨env,dx,rfl,v,p,bH⟩ b5
  refine aa.run lay [] ?_;simp[v,bH];refine aG.intro (λg2=>?_) (λg2=>?_)<;>(try simp[-Int.not_lt,-Int.not_le,-Nat.not_lt,-Nat.not_le]at g2)<;>(try simp[v,bH,g2])
  . have oc:dI w [] [] [(c:Int)]=0:=nI hk (by simp) (by simp) (by simp;omega)
    have ox:dI (w.by l) [] [] [(c:Int)]=0:=nI b1 (by simp) (by simp) (λx q=>by rw[lb.1 q];show 0<=(c:Int)/\(c:Int)<w.aj.length;omega)
    have D:c<w.aj.length:=by omega
    have A:c<3:=by omega
    have hW:Wl [AV.agg (vF w a2 (gS w.aj)),int c] [bS (w.by l),int c]:=.cons b3 (.cons (.refl _) .nil)
    have N:=λz=>rf E D z
    have F:=λz=>rf C (c:=c) D z
    have c9:Wl [AV.lit (.slice none 0 0),AV.lit (.slice none 0 0)] [ints [],ints []]:=.cons (dR 1) (.cons (dR 1) .nil)
    by_cases hl:72<ba w c
    . have O:72<ba (w.by l) c:=by rw[ay];exact hl
      refine ak Tryz.func15 rfl rfl (ja G E.jA A oc ?_);rw[Rp hl];refine aa.run lay [] ?_;simp[p,bH];refine bp Tryz.func15 rfl rfl hW (ja G C.jA A ox ?_);rw[Rp O];refine aa.run lay [] ?_;simp[v,bH];refine ak Tryz.func28 rfl rfl (lE G E.jA A D oc ?_ N);rw[Rp hl];refine aa.run lay [] ?_;simp[p,bH];refine bp Tryz.func28 rfl rfl hW (lE G C.jA A D ox ?_ F);rw[Rp O];refine aa.run lay [] ?_;simp;refine bp Tryz.func18 rfl rfl c9 (kg (by simp) (by simp) ?_)
      refine aa.run lay [] ?_;simp[bH];refine⟨by omega,b5 _ g2 ⟨_,_,rfl,by simp[v,p]⟩⟩
    have O:¬72<ba (w.by l) c:=by rw[ay];exact hl
    refine ak Tryz.func15 rfl rfl (ja G E.jA A oc ?_);rw[KD hl];refine aa.run lay [] ?_;simp[p,bH];refine bp Tryz.func15 rfl rfl hW (ja G C.jA A ox ?_);rw[KD O,ay];refine aa.run lay [] ?_;simp[v,bH];refine ak Tryz.func28 rfl rfl (lE G E.jA A D oc ?_ N);rw[KD hl];intro r hr;have aO:=Ls E D hr;refine aa.run lay [] ?_;simp[p,bH];refine bp Tryz.func28 rfl rfl hW (lE G C.jA A D ox ?_ F);rw[KD O];intro r' ca
    obtain rfl:r=r':=by
     have e:ia (w.by l) c w.aj[c]=some r':=ca
     rw[bw,hr]at e;exact aax e
    refine aa.run lay [] ?_;simp;refine ak Tryz.func18 rfl rfl (kg (by omega) (by omega) ?_)
    refine aa.run lay [] ?_;simp[bH];refine⟨by omega,b5 _ g2 ⟨_,_,rfl,by simp[v,p]⟩⟩
  have hW:Wl [AV.agg (vF w a2 (gS w.aj))] [bS (w.by l)]:=.cons b3 .nil
  refine ak Tryz.func30 rfl rfl (wZ G E.jA hO c5 ?_);refine aa.run lay [] ?_;simp[p];refine bp Tryz.func30 rfl rfl hW (wZ G C.jA bB c6 ?_);rw[bA,show (w.by l).fair.az.length=w.fair.az.length from rfl]
  refine aa.run lay [] ?_;simp;refine ak Tryz.func14 rfl rfl (zk G ?_);refine aa.run lay [] ?_;simp;exact .done (h _)

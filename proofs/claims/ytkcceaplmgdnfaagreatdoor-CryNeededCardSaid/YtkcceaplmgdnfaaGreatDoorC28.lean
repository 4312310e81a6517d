import Derived.Test.YtkcceaplmgdnfaaGreatDoorC27
set_option linter.all false
set_option maxHeartbeats 1000000
set_option maxRecDepth 4000
namespace Go.Proofs.YtkcceaplmgdnfaaGreatDoor
open Go.Proofs.Tryz (prog)
open Go.bQ Go.Conc
abbrev acC:=List mN
variable{m:Mo}{σ:aa}{KF:abT}
theorem rl(first:acp)(others:abG)(k:Nat)(h:k<first.length):iI (first.take (k+1)) others=iI (first.take k) others++if others.all (λl=>decide (first[k]∈l))then[first[k]]else[]:=by
 unfold iI;rw[zs h,aar]
 grind
theorem BM(first:acp)(others:abG):(iI first others).length<=first.length:=aas _ _
theorem Iw{first:acp}{others:abG}{sp f:cT}(B:first.length<=1000000000)(C:others.length<1152921504606846976)(u:∀l∈others,l.length<1152921504606846976)(h:KF (.val (ints (iI first others))) σ):aA prog m 253 [.sl 1 (first.map int) sp,.sl 1 (others.map ints) f] σ KF:=by
 refine fs [] 2 Tryz.func253 rfl rfl (by rfl) (by kernel_rfl) ?_;simp[Tryz.f253];refine ab.loop first.length (λk s=>∃env e,s=⟨env,e,[],.no⟩/\env 0=.sl 1 (first.map int) sp/\env 1=.sl 1 (others.map ints) f/\env 10=.sl 1 (first.map int) sp/\env 11=int first.length/\env 12=int k/\Tok σ e (env 5) 1 ((iI (first.take k) others).map int)) ⟨_,_,rfl,by simp,by simp,by simp,by simp,by simp,.nil σ 1⟩ ?_
 rintro D k _ E ⟨env,e,rfl,o,g,c,d,b,a⟩ y;refine rn ?_;simp[d,b];have hlen:=BM (first.take k) others;rw[aai]at hlen;refine aG.intro (λi=>?_) (λi=>?_)<;>(try simp[-Int.not_lt,-Int.not_le,-Nat.not_lt,-Nat.not_le]at i)<;>(try simp[g,c,b,i])
 . refine ab.loop others.length (λj s=>∃env,s=⟨env,e,[],.no⟩/\env 0=.sl 1 (first.map int) sp/\env 1=.sl 1 (others.map ints) f/\env 10=.sl 1 (first.map int) sp/\env 11=int first.length/\env 12=int k/\Tok σ e (env 5) 1 ((iI (first.take k) others).map int)/\env 7=int first[k]/\env 16=.sl 1 (others.map ints) f/\env 17=int others.length/\env 18=int j/\∀l∈others.take j,first[k]∈l) ⟨_,rfl,by simp[o,g,c,d,b,a]⟩ ?_
   clear o g c d b a;rintro F j _ G ⟨env,rfl,o,g,c,d,b,a,z,q,r,n,t⟩ v;refine rn ?_;simp[r,n];refine aG.intro (λp=>?_) (λp=>?_)<;>(try simp[-Int.not_lt,-Int.not_le,-Nat.not_lt,-Nat.not_le]at p)<;>(try simp[z,q,n,p])
   . refine cf Tryz.func66 rfl (mO (u _ (zD p)) ?_)
     refine rn ?_;simp;refine aG.intro (λw=>?_) (λw=>?_)<;>(try simp[-Int.not_lt,-Int.not_le,-Nat.not_lt,-Nat.not_le]at w)<;>(try simp[b,n,w])
     . refine⟨by omega,v _ p ⟨_,rfl,by simp[o],by simp[g],by simp[c],by simp[d],by simp[b],by simpa using a,by simp[z],by simp[q],by simp[r],by simp,λl u=>?_⟩⟩
       rw[zs p,aaG,lb]at u
       grind
     . refine⟨by omega,y _ i ⟨_,_,rfl,by simp[o],by simp[g],by simp[c],by simp[d],by simp,?_⟩⟩
       have:others.all (λl=>decide (first[k]∈l))=false:=by grind
       rw[rl _ _ _ i,this];simpa using a
   . have:j=others.length:=by omega
     subst this;rw[ZG]at t;refine aK lay rfl rfl rfl dh rfl dh rfl qM (by decide) (by simp;omega) (σ0:=σ) (es:=(iI (first.take k) others).map int) (xs:=[int first[k]]) (by simpa using a) (.inr ⟨_,rfl⟩) λH A x=>?_
     refine rn ?_;simp[b];refine⟨by omega,y _ i ⟨_,_,rfl,by simp[o],by simp[g],by simp[c],by simp[d],by simp,?_⟩⟩;have:others.all (λl=>decide (first[k]∈l))=true:=by grind
     rw[rl _ _ _ i,this];simpa using x
 . have:k=first.length:=by omega
   subst this;rw[ZG]at a;exact .n8 a.W (.less a.1 (.done h))
structure Fr.Good(f:Fr):Prop where
 fits:f.Fits
 fr:0<=f.aR/\f.aR<=3
 to:0<=f.eS/\f.eS<=3
 le:f.aR<=f.eS
 cQ:1<=f.cQ/\f.cQ<=6
 aX:1<=f.aX/\f.aX<=6
 qB:f.aD.length<=6
 te:∀e∈f.aD,cM f.roads.length e=0
 JN:fT f.roads=0
theorem rp(g:mN->Int):∀{l:acC},fS g l=0->∀e∈l,g e=0
 |[],_,e,he=>by simp at he
 | a ::l,h,e,he=>by
   unfold fS at h;split at h
   . next b=>
     rcases List.mem_cons.1 he with rfl|he
     . exact b
     . exact rp g h e he
   omega
theorem Fr.qO{f:Fr}(c:f.Fits)(h:check f=0):f.Good:=by
 unfold check at h;split at h
 . omega
 next d=>
 split at h
 . cases h
 next a=>
 split at h
 . cases h
 next e=>
 split at h
 . cases h
 next b=>
 split at h
 . cases h
 next g=>
 simp only[Bool.not_eq_false,zj]at a b;exact⟨c,dC a.1,dC a.2,by omega,dC b.1,dC b.2,by omega,rp _ h,by omega⟩
theorem o6{p:Int}{e:mN}(h:cM p e=0):(0<=e.hour/\e.hour<=72)/\(0<=e.place/\e.place<=p-1)/\(0<=e.cW/\e.cW<=5)/\(0<=e.bq/\e.bq<=30)/\(0<=e.jG/\e.jG<=2)/\sZ none e.marks=0:=by
 unfold cM at h;split at h
 . cases h
 next a=>
 split at h
 . cases h
 next b=>
 split at h
 . cases h
 next c=>
 split at h
 . omega
 next g=>
 split at h
 . cases h
 next d=>
 split at h
 . cases h
 next f=>
 simp only[Bool.not_eq_false]at a b c d f;exact⟨dC a,dC b,dC c,dC d,dC f,by omega⟩
theorem Aj{f:Fr}(a:f.Good)(e:mN):(iX f e).length<=4:=by
 unfold iX;have:=a.fr;have:=a.to
 grind
theorem Ak{f:Fr}(a:f.Good)(e:mN):(bV f e).length<=5:=by
 unfold bV;have:=Aj a e
 grind
theorem LL{f:Fr}{e:mN}(h:e.jG≠0):iX f e=(List.range (f.eS-f.aR+1).toNat).map λi:Nat=>e.bq-f.eS+(i:Int):=if_pos h
theorem Fx{b mb:Nat}{f:Fr}{l:acp}(H:f.Good)(Y:l≠[])(hl:l.length<=1000000)(hb:∀n∈l,0<=n/\n<f.aD.length)(h:KF (.val (ints (fZ f l))) σ):aA prog m 252 [lR b mb f 0,ints l] σ KF:=by
 have h6:=H.qB;have al:=H.fr;have av:=H.to;have ax:=H.le;refine fs UG 2 Tryz.func252 rfl rfl (by rfl) (by kernel_rfl) ?_
 simp[Tryz.f252];refine ab.loop l.length (λk s=>∃env A,s=⟨env,A,[],.no⟩/\env 0=lR b mb f 0/\env 11=ints l/\env 12=int l.length/\env 13=int k/\Tok σ A (env 5) 1 ((l.take k).map λn=>ints (bV f (aQ f n)))) ⟨_,_,rfl,by simp,by simp,by simp,by simp,.nil σ 1⟩ ?_
 rintro c0 k _ hk ⟨env,A,rfl,C,p,g,o,d⟩ S
 rcases ZU k l.length with g1|g1
 . obtain ⟨L,n1⟩:=hb _ (zD g1)
   have n2:l[k].toNat<f.aD.length:=by omega
   obtain⟨e,he⟩:∃e,e=f.aD[l[k].toNat]:=⟨_,rfl⟩;have Z:aQ f l[k]=e:=by simp[aQ,zA,n2,he]
   have ay:=o6 (H.te e (by simp_all))
   have t:(l.take (k+1)).map (λn=>ints (bV f (aQ f n)))=(l.take k).map (λn=>ints (bV f (aQ f n)))++[ints (bV f e)]:=by rw[zs g1,ZI];simp[Z]
   refine rn ?_;simp[C,p,g,o,g1,L,n2,<-he];refine bR.intro λc hc=>?_
   simp
   have a7:σ c=none:=by
    cases q:σ c with
    |none=>rfl
    |some x=>rw[d.1 c x q]at hc;cases hc
   have B:Tok σ (A.set c (.cells [int e.hour,int e.place,int e.cW,ints e.marks,int e.bq,int e.jG])) (env 5) 1 ((l.take k).map λn=>ints (bV f (aQ f n))):=d.beside a7 (λq=>by obtain⟨_,x,hx⟩:=d.aV q;grind)
   have G:(A.set c (.cells [int e.hour,int e.place,int e.cW,ints e.marks,int e.bq,int e.jG])) c=some (.cells [int e.hour,int e.place,int e.cW,ints e.marks,int e.bq,int e.jG]):=aa.ak _ _ _;generalize A.set c (.cells [int e.hour,int e.place,int e.cW,ints e.marks,int e.bq,int e.jG])=D at B G;refine aG.intro (λM=>?_) (λM=>?_)<;>simp at M<;>simp[M]
   . have f1:-9223372036854775808<=f.eS-f.aR/\f.eS-f.aR<=9223372036854775807:=by omega
     have f2:-9223372036854775808<=f.eS-f.aR+1/\f.eS-f.aR+1<=9223372036854775807:=by omega
     simp[C,f1.1,f1.2,f2.1,f2.2];refine rn ?_;simp;obtain⟨a5,I⟩:∃a,a=env 5:=⟨_,rfl⟩;rw[<-I]at B;obtain⟨cnt,O⟩:∃cnt:Nat,(cnt:Int)=f.eS-f.aR+1:=⟨(f.eS-f.aR+1).toNat,by omega⟩
     have aC:cnt<=4:=by omega
     have a8:iX f e=(List.range cnt).map λi:Nat=>e.bq-f.eS+(i:Int):=by rw[LL M];grind
     refine ab.loop cnt (λj s=>∃env J,s=⟨env,J,[],.no⟩/\env 0=lR b mb f 0/\env 11=ints l/\env 12=int l.length/\env 13=int k/\env 5=a5/\env 8=.ref c 0/\env 41=int cnt/\env 42=int j/\Tok D J (env 9) 1 (((List.range j).map λi:Nat=>e.bq-f.eS+(i:Int)).map int)) ⟨_,_,rfl,by simp[C,p,g,o,<-I,O,Tok.nil]⟩ ?_
     clear C p g o d I
     rintro c1 j _ hj ⟨env,J,rfl,C,p,g,o,T,N,E,F,u⟩ a9
     have v:=u.1 _ _ G
     rcases ZU j cnt with g3|g3
     . have f3:-9223372036854775808<=e.bq-f.eS/\e.bq-f.eS<=9223372036854775807:=by omega
       have f4:-9223372036854775808<=e.bq-f.eS+j/\e.bq-f.eS+j<=9223372036854775807:=by omega
       refine rn ?_;simp[C,N,E,F,g3,v,f3.1,f3.2,f4.1,f4.2];refine aK lay rfl rfl rfl dh rfl dh rfl qM (by decide) (by simp only[ZE,aaw,ZQ,aam];omega) (σ0:=D) (es:=((List.range j).map λi:Nat=>e.bq-f.eS+(i:Int)).map int) (xs:=[int (e.bq-f.eS+j)]) (by simpa using u) (.inr ⟨_,rfl⟩) λa' P w=>?_
       refine pg ?_;simp;refine rn ?_;simp[F];refine⟨by omega,a9 _ g3 ⟨_,_,rfl,by simp[C],by simp[p],by simp[g],by simp[o],by simp[T],by simp[N],by simp[E],by simp,?_⟩⟩
       rw[ZN,ZI,ZI];simpa using w
     . have:j=cnt:=by omega
       subst this;rw[<-a8]at u;have aE:=Aj H e;have U:Wl [env 9,int e.bq] [ints (iX f e),int e.bq]:=.cons u.W (.cons (.refl _) .nil)
       by_cases V:e.jG=1
       . refine ab.Ew 9 u.W ?_
         have y:bV f e=iX f e:=if_neg λq=>q.1 V
         refine rn ?_;simp[T,N,E,F,v,V];refine aK lay rfl rfl rfl nf rfl nf rfl dh (by decide) (by simp;omega) (σ0:=σ) (es:=(l.take k).map λn=>ints (bV f (aQ f n))) (xs:=[ints (bV f e)]) (by simpa using B.up u.1) (.inr ⟨_,by rw[y];simp;rfl⟩) λa4 K z=>?_
         refine rn ?_;simp[o];refine⟨by omega,S _ g1 ⟨_,_,rfl,by simp[C],by simp[p],by simp[g],by simp,?_⟩⟩
         rw[t];simpa using z
       . have Q:(e.jG !=1)=true:=by simp[V]
         by_cases X:e.bq∈iX f e
         . have y:bV f e=iX f e:=if_neg λq=>q.2 X
           refine rn ?_;simp[N,E,F,v,Q];refine cu Tryz.func66 rfl rfl U (mO (by omega) ?_)
           refine ab.Ew 9 (a':=ints (iX f e)) (by simpa using u.W) ?_
           refine rn ?_;simp[T,X];refine aK lay rfl rfl rfl nf rfl nf rfl dh (by decide) (by simp;omega) (σ0:=σ) (es:=(l.take k).map λn=>ints (bV f (aQ f n))) (xs:=[ints (bV f e)]) (by simpa using B.up u.1) (.inr ⟨_,by rw[y];simp;rfl⟩) λa4 K z=>?_
           refine rn ?_;simp[o];refine⟨by omega,S _ g1 ⟨_,_,rfl,by simp[C],by simp[p],by simp[g],by simp,?_⟩⟩
           rw[t];simpa using z
         . have y:bV f e=iX f e++[e.bq]:=if_pos ⟨V,X⟩
           refine rn ?_;simp[N,E,F,v,Q];refine cu Tryz.func66 rfl rfl U (mO (by omega) ?_)
           refine rn ?_;simp[N,X,v];refine aK lay rfl rfl rfl dh rfl dh rfl qM (by decide) (by simp;omega) (σ0:=D) (es:=(iX f e).map int) (xs:=[int e.bq]) (by simpa using u) (.inr ⟨_,rfl⟩) λa' P w=>?_
           refine ab.Ew 74 (a':=AV.sl 1 ((iX f e).map int++[int e.bq]) .any) (by simpa using w.W) ?_
           refine rn ?_;simp[T];refine aK lay rfl rfl rfl nf rfl nf rfl dh (by decide) (by simp;omega) (σ0:=σ) (es:=(l.take k).map λn=>ints (bV f (aQ f n))) (xs:=[ints (bV f e)]) (by simpa using B.up w.1) (.inr ⟨_,by rw[y];simp;rfl⟩) λa4 K z=>?_
           refine rn ?_;simp[o];refine⟨by omega,S _ g1 ⟨_,_,rfl,by simp[C],by simp[p],by simp[g],by simp,?_⟩⟩
           rw[t];simpa using z
   . have y:bV f e=[e.bq]:=by
      simp[bV,iX,M]
     simp[G,M];have U:Wl [AV.lit (.slice none 0 0),int e.bq] [ints [],int e.bq]:=.cons (fQ 1) (.cons (.refl _) .nil);refine cu Tryz.func66 rfl rfl U (mO (by simp) ?_)
     refine rn ?_;simp[G];refine aK lay rfl rfl rfl dh rfl dh rfl qM (by decide) (by simp) (σ0:=D) (es:=[]) (xs:=[int e.bq]) (by simpa using Tok.nil D 1) (.inr ⟨_,rfl⟩) λa' P w=>?_
     refine ab.Ew 74 (a':=AV.sl 1 [int e.bq] .any) (by simpa using w.W) ?_
     refine rn ?_;simp;refine aK lay rfl rfl rfl nf rfl nf rfl dh (by decide) (by simp;omega) (σ0:=σ) (es:=(l.take k).map λn=>ints (bV f (aQ f n))) (xs:=[ints (bV f e)]) (by simpa using B.up w.1) (.inr ⟨_,by rw[y];simp;rfl⟩) λa4 K z=>?_
     refine rn ?_;simp[o];refine⟨by omega,S _ g1 ⟨_,_,rfl,by simp[C],by simp[p],by simp[g],by simp,?_⟩⟩
     rw[t];simpa using z
 . have:k=l.length:=by omega
   subst this;rw[ZG]at d;refine ab.Ew 5 d.W ?_;have R:0<l.length:=List.length_pos_iff.2 Y;refine rn ?_;simp[g,o,R];refine wT lay rfl nf rfl dh (es:=l.map λn=>ints (bV f (aQ f n))) (sp:=.any) (l:=1) (h:=l.length) ?_ (λcap ad=>⟨rfl,⟨rfl,by simp⟩,⟨_,rfl⟩,by omega⟩) (by simp) ?_
   . simp
   obtain⟨L,r,rfl⟩:∃L r,l=L::r:=by
    cases l with
    |nil=>simp_all
    |cons a r=>simp_all
   refine pg ?_;simp
   have e:List.take r.length (List.map (λn=>ints (bV f (aQ f n))) r)=(r.map λn=>bV f (aQ f n)).map ints:=by
    rw[aag (by simp)]
    simp
   rw[e];have hlen:=Ak H (aQ f L);refine cf Tryz.func253 rfl (Iw (first:=bV f (aQ f L)) (others:=r.map λn=>bV f (aQ f n)) (by omega) (by grind) (λx hx=>?_) ?_)
   . obtain⟨n,_,rfl⟩:=List.mem_map.1 hx
     have:=Ak H (aQ f n);omega
   refine pg ?_;simp;refine rn ?_;simp;refine .less d.1 (.done ?_);simpa[fZ]using h
theorem DC{f:Fr}(h:check f=0):ig f []=0:=by unfold ig;simp_all
theorem Fy{f:Fr}{l:acp}(h:check f=0)(a:∀n∈l,0<=n/\n<f.aD.length):ig f l=0:=by
 unfold ig;rw[if_neg (by simp[h]),if_pos];rw[ZP];intro n b;have:=a n b;simp[bD];omega
theorem vY.le{σ σ':aa}{b mb:Nat}(h:vY σ b mb σ'):σ.Le σ':=by rw[h.eq];exact aa.rH (aa.rH (aa.le_refl _) h.Ce) (by rw[aa.ai _ _ h.ne];exact h.hb)
theorem BN{a n:Int}(b:0<=n)(h:KF (.val (u8 (bU a n))) σ):aA prog m 257 [u8 a,int n] σ KF:=by
 refine fs [] 2 Tryz.func257 rfl rfl (by rfl) (by kernel_rfl) ?_;simp[Tryz.f257];refine⟨b,?_⟩;simp[s8];exact .done h
theorem oD{l:acp}(o:l.length<1152921504606846976)(f:∀n∈l,0<=n)(h:KF (.val (u8 (aY l))) σ):aA prog m 255 [ints l] σ KF:=by
 refine fs [] 1 Tryz.func255 rfl rfl (by rfl) (by kernel_rfl) ?_;simp[Tryz.f255];refine ab.loop l.length (λk s=>∃env,s=⟨env,σ,[],.no⟩/\env 3=u8 (aY (l.take k))/\env 4=.fn (.func 257) [u8 (aY (l.take k))] []/\env 9=ints l/\env 10=int l.length/\env 11=int k) ⟨_,rfl,by simp[aY]⟩ ?_;rintro p k _ q ⟨env,rfl,g,i,d,c,a⟩ j;refine rn ?_;simp[c,a];refine aG.intro (λb=>?_) (λb=>?_)<;>(try simp[-Int.not_lt,-Int.not_le,-Nat.not_lt,-Nat.not_le]at b)<;>(try simp[g,i,d,a,b])
 . have e:aY (l.take (k+1))=bU (aY (l.take k)) l[k]:=by
    unfold aY;rw[zs b,aae];rfl
   refine dZ Tryz.func257 rfl rfl rfl (BN (f _ (zD b)) ?_);rw[<-e];refine rn ?_;simp[a];exact⟨by omega,j _ b ⟨_,rfl,by simp,by simp,by simp[d],by simp[c],by simp⟩⟩
 . have:k=l.length:=by omega
   subst this;rw[ZG];exact .done h
def BO(x:Int):Int:=Dx x (Ql x 1)
def tg:Nat->Int->Int
 |0,x=>x
 |n+1,x=>BO (tg n x)
def Ix:Nat->Int->Int
 |0,_=>0
 |n+1,x=>if x=0 then 0 else 1+Ix n (BO x)
def bM(a b:Int):Int:=Ix 8 (xX a b)
theorem xY{a b:Int}(l:tg 8 (xX a b)=0)(h:KF (.val (int (bM a b))) σ):aA prog m 256 [u8 a,u8 b] σ KF:=by
 refine fs [] 2 Tryz.func256 rfl rfl (by rfl) (by kernel_rfl) ?_
 simp[Tryz.f256,Iu];refine ab.loop 8 (λk s=>∃env,s=⟨env,σ,[],.no⟩/\env 5=int k/\env 6=u8 (tg k (xX a b))/\bM a b=k+Ix (8-k) (tg k (xX a b))) ⟨_,rfl,by simp,by simp;rfl,by simp[tg,bM]⟩ ?_
 rintro n k _ o ⟨env,rfl,g,f,c⟩ i
 refine rn ?_;simp[f];refine aG.intro (λd=>?_) (λd=>?_)<;>(try simp[-Int.not_lt,-Int.not_le,-Nat.not_lt,-Nat.not_le]at d)<;>(try simp[g,f,d])
 . have j:k<8:=by
    grind
   refine⟨by omega,?_⟩
   simp[uv,Iv];refine i _ j ⟨_,rfl,by simp,by simp[tg,BO],?_⟩
   have e:8-k=(8-(k+1))+1:=by omega
   rw[e,Ix,if_neg d]at c;rw[c];simp only[tg];omega
 . rw[d]at c
   have e:Ix (8-k) 0=0:=by cases 8-k<;>simp[Ix]
   rw[e]at c;rw[c]at h;exact .done (by grind)
abbrev xZ(x:Int):AV:=.agg [u8 x]
theorem Pe{x n:Int}(a:0<=n)(h:KF (.val (xZ (bU x n))) σ):aA prog m 187 [xZ x,int n] σ KF:=by
 refine aA.start lay [2] Ux 2 Tryz.func187 rfl rfl (by rfl) (by kernel_rfl) ?_;simp[Tryz.f187];refine bR.intro λc f=>?_
 simp;refine bR.intro λd hd=>?_
 obtain⟨b,e,hd⟩:=aa.aN hd;simp[e,aa.ai,s8,a];refine ab.run lay [2] ?_;simp[b,aa.ai];exact .less (by repeat (first|exact aa.le_refl _|assumption|refine aa.fj ?_ (by assumption)|refine aa.lD ?_ (by assumption))) (.done h)
theorem LM{x:Int}(h:KF (.val (ints (aB x))) σ):aA prog m 205 [xZ x] σ KF:=by
 refine fs [] 1 Tryz.func205 rfl rfl (by rfl) (by kernel_rfl) ?_;simp[Tryz.f205];refine ab.loop 6 (λk s=>∃env b,s=⟨env,b,[],.no⟩/\env 1=.cp (xZ x) 0/\env 5=int k/\Tok σ b (env 3) 1 ((((List.range k).map λn:Nat=>(n:Int)).filter λn=>fM x n).map int)) ⟨_,_,rfl,by simp,by simp,.nil σ 1⟩ ?_;rintro l k _ o ⟨env,b,rfl,d,c,a⟩ f;rcases ZU k 6 with g1|g1
 . have e:(k:Int)<6:=by omega
   have p:(((List.range k).map λn:Nat=>(n:Int)).filter λn=>fM x n).length<=k:=by grind
   have q:(((List.range (k+1)).map λn:Nat=>(n:Int)).filter λn=>fM x n)=(((List.range k).map λn:Nat=>(n:Int)).filter λn=>fM x n)++if fM x k then[(k:Int)]else[]:=by
    rw[ZN,ZI,aar]
    grind
   refine rn ?_;simp[d,c,e,uv];have g:fM x k=(Dx (x.fdiv (2 ^ min k IntKind.u8.bits)) 1==1):=by simp[fM]
   rw[<-g];cases hb:fM x k
   . simp[c]
     refine⟨by omega,f _ g1 ⟨_,_,rfl,by simp[d],by simp,?_⟩⟩
     simp_all
   . simp
     refine aK lay rfl rfl rfl dh rfl dh rfl qM (by decide) (by grind) (σ0:=σ) (es:=(((List.range k).map λn:Nat=>(n:Int)).filter λn=>fM x n).map int) (xs:=[int k]) (by simp_all) (.inr ⟨_,rfl⟩) λr i j=>?_
     refine rn ?_;simp[c];refine⟨by omega,f _ g1 ⟨_,_,rfl,by simp[d],by simp,?_⟩⟩
     simp_all
 . have:k=6:=by omega
   subst this;refine rn ?_;simp[c];exact .n8 a.W (.less a.1 (.done h))
def ln(a b:Int):Int:=if 0<a/\a<b then 3 else if a=b then 1 else 2
theorem FA{a b:Int}(h:KF (.val (int (ln a b))) σ):aA prog m 202 [int a,int b] σ KF:=by
 unfold ln at h;refine fs [] 2 Tryz.func202 rfl rfl (by rfl) (by kernel_rfl) ?_;simp[Tryz.f202];refine uX.intro (λd=>?_) (λd=>?_)<;>(try simp[-Int.not_lt,-Int.not_le,-Nat.not_lt,-Nat.not_le]at d)<;>(try simp[d]at h)<;>(try simp[d])<;>(try exact .done h)
 . refine aG.intro (λe=>?_) (λe=>?_)<;>(try simp[-Int.not_lt,-Int.not_le,-Nat.not_lt,-Nat.not_le]at e)<;>(try simp[e]at h)<;>(try simp[e])<;>(try exact .done h)
   . have:a≠b:=by omega
     refine aG.intro (λc=>?_) (λc=>?_)<;>(try simp[-Int.not_lt,-Int.not_le,-Nat.not_lt,-Nat.not_le]at c)<;>(try simp[c])
     . omega
     . exact .done h
   . refine aG.intro (λc=>?_) (λc=>?_)<;>(try simp[-Int.not_lt,-Int.not_le,-Nat.not_lt,-Nat.not_le]at c)<;>(try simp[c]at h)<;>(try simp[c])<;>(try exact .done h)
 . refine aG.intro (λc=>?_) (λc=>?_)<;>(try simp[-Int.not_lt,-Int.not_le,-Nat.not_lt,-Nat.not_le]at c)<;>(try simp[c]at h)<;>(try simp[c])<;>(try exact .done h)
theorem Iy{l:acp}(b:l≠[])(c:l.length<=1000000000)(h:∀a σ',cq σ σ' a 1 (l.map int)->KF (.val a) σ'):aA prog m 80 [ints l] σ KF:=by
 refine fs [] 1 Tryz.func80 rfl rfl (by rfl) (by kernel_rfl) ?_;simp[Tryz.f80];refine Cn lay rfl dh rfl rfl (.inr (.inl ⟨rfl,by simp_all,rfl⟩)) (.inl ⟨rfl,rfl⟩) ?_;refine rn ?_;simp;refine jj lay rfl rfl rfl dh rfl dh rfl qM (by decide) (by simp;omega) (σ0:=σ) (es:=[]) (xs:=l.map int) (.empty σ 1) (.inl (.inr ⟨_,rfl⟩)) (by simp) λd σ' e=>?_
 refine rn ?_;simp;exact .done (h _ _ (by simp_all))
def eG(lt:abM)(x:Int):acp->acp
 |[]=>[x]
 |y::r=>if lt x y then y::eG lt x r else x::y::r
def eU(lt:abM)(l:acp):acp:=l.foldl (λr x=>eG lt x r) []
theorem DD(lt:abM)(x:Int):∀r,(eG lt x r).length=r.length+1
 |[]=>rfl
 |y::r=>by unfold eG;split<;>simp[DD lt x r]
theorem lq(lt:abM)(l:acp):(eU lt l).length=l.length:=by
 have key:∀(l r:acp),(l.foldl (λr x=>eG lt x r) r).length=r.length+l.length:=by
  intro l;induction l with
  |nil=>intro r;rfl
  |cons a l b=>intro r;rw[aal,b,DD];simp;omega
 rw[eU,key];simp
theorem DF(lt:abM)(x:Int):∀(r:acp) (y:Int),y∈eG lt x r↔y=x\/y∈r
 |[],y=>by simp[eG]
 | z ::r,y=>by
   unfold eG;split
   . rw[aax,DF lt x r y,aax]
     grind
   . simp
theorem uw(lt:abM)(l:acp)(y:Int):y∈eU lt l↔y∈l:=by
 have key:∀(l r:acp),y∈l.foldl (λr x=>eG lt x r) r↔y∈r\/y∈l:=by
  intro l;induction l with
  |nil=>grind
  | cons a l b=>
    intro r;rw[aal,b,DF,aax]
    grind
 rw[eU,key];simp
def DG(m:Mo)(y:AV)(c:abS)(In:Int->Prop):Prop:=∀(a b:Int) (σ:aa) (KF:abT),In a->In b->KF (.val (int (c a b))) σ->bZ prog m y [int a,int b] σ KF
theorem Wh{α:Type}{A B:List α}{x y:α}{n:Nat}(a:A.length=n):(A++y::x::B)[n]?=some y/\(A++y::x::B)[n+1]?=some x/\((A++y::x::B).set n x).set (n+1) y=A++x::y::B/\((A++y::x::B).set (n+1) y).set n x=A++x::y::B:=by simp_all
theorem FB{y:AV}{c:abS}{In:Int->Prop}{l:acp}{b cap:Nat}{rest:acw}(W:DG m y c In)(J:∀x∈l,In x)(hl:l.length<=1000000)(hb:σ b=some (.cells (l.map int++rest)))
 (h:KF (.val (.cB [])) (σ.set b (.cells ((eU (λa b=>decide (c a b<0)) l).reverse.map int++rest)))):aA prog m 209 [.gW b 0 l.length cap,int 0,int l.length,y] σ KF:=by
 refine fs UB 4 Tryz.func209 rfl rfl (by rfl) (by kernel_rfl) ?_
 simp[Tryz.f209];obtain⟨lt,D⟩:∃lt,lt=λa b=>decide (c a b<0):=⟨_,rfl⟩
 rw[<-D]at h;refine ab.loop l.length (λi s=>∃env g,s=⟨env,g,[],.no⟩/\env 0=.gW b 0 l.length cap/\env 1=int 0/\env 2=int l.length/\env 3=y/\env 8=int ((i:Int)+1)/\g=σ.set b (.cells ((eU lt (l.take (i+1))).reverse.map int++((l.drop (i+1)).map int++rest)))) ⟨_,_,rfl,by simp,by simp,by simp,by simp,by simp,?_⟩ ?_
 . have e:(eU lt (l.take 1)).reverse.map int++((l.drop 1).map int++rest)=l.map int++rest:=by
    cases l with
    |nil=>simp[eU]
    |cons a l=>simp[eU,eG]
   rw[e]
   funext d
   by_cases q:d=b
   . simp_all
   . rw[aa.ai _ _ q]
 rintro c0 i _ hi ⟨env,g,rfl,t,u,v,E,w,j⟩ X
 rcases ZU (i+1) l.length with g1|g1
 . have Q:(i:Int)+1<l.length:=by omega
   obtain⟨S,M⟩:∃S,S=eU lt (l.take (i+1)):=⟨_,rfl⟩;have R:S.length=i+1:=by rw[M,lq,aai];omega
   have T:∀x∈S,In x:=λx N=>J x (aaV ((uw lt _ x).1 (M ▸ N)))
   have F:eU lt (l.take (i+1+1))=eG lt l[i+1] S:=by rw[M,eU,zs g1,aae];rfl
   obtain⟨x,N⟩:∃x,x=l[i+1]:=⟨_,rfl⟩;have K:In x:=J x (by simp_all)
   have U:l.drop (i+1)=x::l.drop (i+2):=by rw[N];exact ZW g1
   rw[<-M,U]at j;rw[<-N]at F;refine rn ?_;simp[v,w,Q]
   refine ab.loop (i+1) (λk s=>∃env g r f,s=⟨env,g,[],.no⟩/\env 0=.gW b 0 l.length cap/\env 1=int 0/\env 2=int l.length/\env 3=y/\env 8=int ((i:Int)+1)/\env 9=int f.length/\S=r++f/\f.length+k=i+1/\eG lt x S=r++eG lt x f/\
    g=σ.set b (.cells ((f.reverse.map int)++int x::(r.reverse.map int++((l.drop (i+2)).map int++rest))))) ⟨_,_,[],S,rfl,by simp[t],by simp[u],by simp[v],by simp[E],by simp[w],by simp[R],rfl,by omega,rfl,by grind⟩ ?_
   clear t u v E w j
   rintro c1 k _ hk ⟨env,g,r,f,rfl,t,u,v,E,w,O,G,hlen,p,j⟩ V
   cases f with
   | nil=>
     simp only[aam,aaz]at hlen;simp only[aab]at G;subst G
     have o:g=σ.set b (.cells ((eU lt (l.take (i+1+1))).reverse.map int++((l.drop (i+1+1)).map int++rest))):=by rw[j,F,p];simp[eG]
     refine rn ?_;simp[u,O];refine⟨?_,?_⟩
     all_goals
      refine rn ?_;simp[w];refine⟨by omega,X _ (by omega) ⟨_,_,rfl,by simp[t],by simp[u],by simp[v],by simp[E],by simp,o⟩⟩
   | cons z f=>
     obtain⟨e1,e2,e3,e4⟩:=Wh (A:=f.reverse.map int) (B:=r.reverse.map int++((l.drop (i+2)).map int++rest)) (x:=int x) (y:=int z) (n:=f.length) (by simp)
     have C:g b=some (.cells (f.reverse.map int++int z::int x::(r.reverse.map int++((l.drop (i+2)).map int++rest)))):=by rw[j,aa.ak];simp
     have L:In z:=T z (by grind)
     have f1:(0:Int)<(f.length:Int)+1:=by omega
     have Y:(f.length:Int)+1<l.length:=by grind
     have Z:(f.length:Int)<l.length:=by omega
     have f4:(0:Int)<=(f.length:Int)+1:=by omega
     have f5:((f.length:Int)+1).toNat=f.length+1:=by omega
     have I:-9223372036854775808<=(f.length:Int)/\(f.length:Int)<=9223372036854775807:=by omega
     refine rn ?_;simp[t,u,E,O,f1,Y,Z,f4,f5,I.1,I.2,C];refine⟨W _ _ _ _ K L ?_,W _ _ _ _ K L ?_⟩
     all_goals
      refine pg ?_;simp;refine rn ?_;simp
      by_cases P:c x z<0
      . have f7:f.length+1+1<=f.length+(r.length+(l.length-(i+2)+rest.length)+1+1):=by omega
        have f8:f.length+1<=f.length+(r.length+(l.length-(i+2)+rest.length)+1+1):=by omega
        have H:eG lt x (z::f)=z::eG lt x f:=by rw[D];simp[eG,P]
        simp[t,O,P,f5,I.1,I.2,Y,Z,f4,C,f7,f8];refine rn ?_;simp[O,I.1,I.2];refine V _ (by simp at hlen;omega) ⟨_,_,r++[z],f,rfl,by simp[t],by simp[u],by simp[v],by simp[E],by simp[w],by simp,by rw[G];simp,by simp at hlen;omega,by rw[p,H];simp,?_⟩
        rw[j];simp
      . have H:eG lt x (z::f)=x::z::f:=by rw[D];simp[eG,P]
        have o:g=σ.set b (.cells ((eU lt (l.take (i+1+1))).reverse.map int++((l.drop (i+1+1)).map int++rest))):=by rw[j,F,p,H];simp
        simp[w,P];exact⟨by omega,X _ (by omega) ⟨_,_,rfl,by simp[t],by simp[u],by simp[v],by simp[E],by simp,o⟩⟩
 . have o:(eU lt (l.take (i+1))).reverse.map int++((l.drop (i+1)).map int++rest)=(eU lt l).reverse.map int++rest:=by
    rw[aag (by omega),List.drop_of_length_le (by omega)];simp
   rw[o]at j;have g2:¬(i:Int)+1<l.length:=by omega
   refine rn ?_;simp[v,w,g2];rw[j];exact .done h
theorem BP{y:AV}{c:abS}{In:Int->Prop}{l:acp}{b cap:Nat}{rest:acw}(q:DG m y c In)(g:∀x∈l,In x)(w:l.length<20)(hb:σ b=some (.cells (l.map int++rest)))
 (h:KF (.val (.cB [])) (σ.set b (.cells ((eU (λa b=>decide (c a b<0)) l).reverse.map int++rest)))):aA prog m 206 [.gW b 0 l.length cap,int l.length,y] σ KF:=by
 refine fs [] 3 Tryz.func206 rfl rfl (by rfl) (by kernel_rfl) ?_;simp[Tryz.f206];have r:¬(20:Int)<=l.length:=by omega
 have t:¬(20:Int)<l.length:=by omega
 refine ab.loop 1 (λk s=>∃env,s=⟨env,σ,[],.no⟩/\env 0=.gW b 0 l.length cap/\env 1=int l.length/\env 2=y/\env 6=int 20/\env 7=int 0/\env 8=int 20) ⟨_,rfl,by simp⟩ ?_;rintro z k _ u ⟨env,rfl,j,e,n,f,o,p⟩ v;refine rn ?_;simp[j,e,n,o,p,r];refine cf Tryz.func209 rfl (FB q g (by omega) hb ?_);refine rn ?_;simp;refine ab.loop 1 (λk s=>∃env d,s=⟨env,d,[],.no⟩/\env 1=int l.length/\env 6=int 20/\d=σ.set b (.cells ((eU (λa b=>decide (c a b<0)) l).reverse.map int++rest))) ⟨_,_,rfl,by simp[e],by simp[f],by simp⟩ ?_;clear j e n f o p;rintro A k _ u ⟨env,d,rfl,e,f,i⟩ v;refine rn ?_;simp[e,f,t];rw[i];exact .done h
theorem th{y:AV}{c:abS}{In:Int->Prop}{l:acp}{b cap:Nat}{rest:acw}(e:DG m y c In)(d:∀x∈l,In x)(f:l.length<20)(hb:σ b=some (.cells (l.map int++rest)))
 (h:KF (.val (.cB [])) (σ.set b (.cells ((eU (λa b=>decide (c a b<0)) l).reverse.map int++rest)))):aA prog m 198 [.gW b 0 l.length cap,y] σ KF:=by
 refine fs [] 2 Tryz.func198 rfl rfl (by rfl) (by kernel_rfl) ?_;simp[Tryz.f198];refine cf Tryz.func206 rfl (BP e d f hb ?_);refine rn ?_;simp;exact .done (by simpa using h)
theorem Pf{y:AV}{c:abS}{In:Int->Prop}{l:acp}(r:DG m y c In)(f:∀x∈l,In x)(s:l.length<20)(g:l≠[])(i:y.cells=[y]/\y.flat=true)(h:KF (.val (ints (eU (λa b=>decide (c a b<0)) l).reverse)) σ):aA prog m 177 [.agg [y],ints l] σ KF:=by
 refine fs [] 2 Tryz.func177 rfl rfl (by rfl) (by kernel_rfl) ?_;simp[Tryz.f177,i.2];refine cf Tryz.func80 rfl (Iy g (by omega) λa j k=>?_)
 obtain⟨b,cap,rest,rfl,n,o,v,p,q⟩:∃b cap rest,a=.gW b 0 (l.map int).length cap/\σ b=none/\(l.map int).length<=cap/\(∀e∈l.map int,e.cells.length=1)/\j b=some (.cells (flatten (l.map int)++rest))/\rest.length=(cap-(l.map int).length)*1:=by
  rcases k.2 with⟨e,_⟩|h
  . simp_all
  . exact h
 have d:∀l:acp,flatten (l.map int)=l.map int:=λl=>by
  induction l with
  |nil=>rfl
  |cons a l t=>simp[flatten_cons,AV.cells,t]
 rw[d]at p;rw[ZE]at o q ⊢;refine rn ?_;simp;refine cf Tryz.func198 rfl (th r f s p ?_);refine rn ?_;simp;refine cq.thaw (σ0:=σ) (kk:=1) (es:=(eU (λa b=>decide (c a b<0)) l).reverse.map int) ⟨aa.fj k.1 n,.inr ⟨b,cap,rest,?_,n,?_,λe u=>?_,?_,?_⟩⟩ h
 . simp[lq]
 . simpa[lq]using o
 . obtain⟨x,_,rfl⟩:=List.mem_map.1 u;rfl
 . rw[d];simp
 . simpa[lq]using q
def uy(f:Fr)(a b:Int):Int:=BL (aQ f a).hour (aQ f b).hour
theorem Pg{b mb:Nat}{f:Fr}{x y:Int}(d:0<=x/\x<f.aD.length)(e:0<=y/\y<f.aD.length)(h:KF (.val (int (uy f x y))) σ):aA prog m 175 [int x,int y,.cp (lR b mb f 0) 0] σ KF:=by
 have a:x.toNat<f.aD.length:=by omega
 have c:y.toNat<f.aD.length:=by omega
 have ex:aQ f x=f.aD[x.toNat]:=by simp[aQ,zA,a]
 have g:aQ f y=f.aD[y.toNat]:=by simp[aQ,zA,c]
 unfold uy at h;rw[ex,g]at h;refine fs Uv 3 Tryz.func175 rfl rfl (by rfl) (by kernel_rfl) ?_;simp[Tryz.f175,a,c,d.1,e.1];refine cf Tryz.func176 rfl (Fv ?_);refine pg ?_;simp;refine rn ?_;simp;exact .done h
theorem LN{b mb:Nat}{f:Fr}:DG m (.fn (.func 175) [] [.cp (lR b mb f 0) 0]) (uy f) (λn=>0<=n/\n<f.aD.length):=λx y σ KF a c h=>by refine dZ Tryz.func175 rfl rfl rfl (Pg a c h)
structure N6(f:Fr)(l:acp):Prop where
 mem:∀n∈l,0<=n/\n<f.aD.length
 ne:l≠[]
 len:l.length<=1000000
def dW(f:Fr)(l:acp):Bool:=l.any λn=>decide ((aQ f n).cW≠(aQ f (l.getD 0 0)).cW)
theorem ti{f:Fr}{x:Int}(h:x.toNat<f.aD.length):aQ f x=f.aD[x.toNat]:=by simp[aQ,zA,h]
theorem FC{b mb:Nat}{f:Fr}{l:acp}(u:N6 f l)(h:KF (.val (bool (dW f l))) σ):aA prog m 250 [.agg [],lR b mb f 0,ints l] σ KF:=by
 obtain⟨i,g,hlen⟩:=u;have a:0<l.length:=List.length_pos_iff.2 g;obtain⟨v,A⟩:=i _ (zD a);have j:l[0].toNat<f.aD.length:=by omega
 have w:l.getD 0 0=l[0]:=by simp_all
 unfold dW at h;rw[w]at h;refine fs UF 3 Tryz.func250 rfl rfl (by rfl) (by kernel_rfl) ?_;simp[Tryz.f250];refine ab.loop l.length (λk s=>∃env,s=⟨env,σ,[],.no⟩/\env 1=lR b mb f 0/\env 2=ints l/\env 9=ints l/\env 10=int l.length/\env 11=int k/\∀n∈l.take k,(aQ f n).cW=(aQ f l[0]).cW) ⟨_,rfl,by simp⟩ ?_;rintro B k _ C ⟨env,rfl,o,p,q,c,d,e⟩ x;rcases ZU k l.length with g1|g1
 . obtain⟨y0,D⟩:=i _ (zD g1)
   have r:l[k].toNat<f.aD.length:=by omega
   have E:=ti r;have F:=ti j;refine rn ?_;simp[o,p,q,c,d,g1,a,y0,r,v,j];refine rn ?_;simp;by_cases t:f.aD[l[k].toNat].cW=f.aD[l[0].toNat].cW
   . simp[d,t]
     refine⟨by omega,x _ g1 ⟨_,rfl,by simp[o],by simp[p],by simp[q],by simp[c],by simp,λn y=>?_⟩⟩;rw[zs g1,aaG,lb]at y
     grind
   . have z:(f.aD[l[k].toNat].cW !=f.aD[l[0].toNat].cW)=true:=by simp[t]
     have:l.any (λn=>decide ((aQ f n).cW≠(aQ f l[0]).cW))=true:=List.any_eq_true.2 ⟨_,zD g1,by simp_all⟩;rw[this]at h;simp[z];exact .done h
 . have:k=l.length:=by omega
   subst this;rw[ZG]at e;have:l.any (λn=>decide ((aQ f n).cW≠(aQ f l[0]).cW))=false:=by simp_all
   rw[this]at h;refine rn ?_;simp[c,d];exact .done h
def cX(f:Fr)(l:acp):Bool:=decide (fZ f l=[])
theorem FD{b mb:Nat}{f:Fr}{l:acp}(g:f.Good)(c:N6 f l)(h:KF (.val (bool (cX f l))) σ):aA prog m 251 [.agg [],lR b mb f 0,ints l] σ KF:=by
 refine fs [] 3 Tryz.func251 rfl rfl (by rfl) (by kernel_rfl) ?_;simp[Tryz.f251];refine cf Tryz.func252 rfl (Fx g c.ne c.len c.mem ?_);refine rn ?_;simp;unfold cX at h;cases d:fZ f l with
 |nil=>rw[d]at h;exact .done h
 | cons a r=>
   rw[d]at h;have e:((r.length:Int)+1==0)=false:=by grind
   refine .done ?_;simpa[e]using h
def gQ(f:Fr)(x y:Int):Bool:=decide ((aQ f y).hour-(aQ f x).hour<rd f.roads (aQ f x).place.toNat (aQ f y).place.toNat+f.cQ*bM (aY (aQ f x).marks) (aY (aQ f y).marks))
def dw(f:Fr)(l:acp):Bool:=(List.range (l.length-1)).any λi=>gQ f (l.getD i 0) (l.getD (i+1) 0)
theorem qC:∀{l:acp}{p:Option Int},sZ p l=0->∀n∈l,0<=n/\n<=4
 |[],_,_,n,hn=>by simp at hn
 | a::l,p,h,n,hn=>by
   unfold sZ at h;split at h
   . cases h
   next b=>
   split at h
   . cases h
   next c=>
   rcases List.mem_cons.1 hn with rfl|hn
   . simp[bD]at b;omega
   . exact qC h n hn
theorem Iz:∀a:Fin 32,∀n:Fin 5,0<=bU (a.val:Int) (n.val:Int)/\bU (a.val:Int) (n.val:Int)<32:=by decide
theorem kj{l:acp}(h:∀n∈l,0<=n/\n<=4):0<=aY l/\aY l<32:=by
 have key:∀(l:acp) (a:Int),(∀n∈l,0<=n/\n<=4)->0<=a/\a<32->0<=l.foldl bU a/\l.foldl bU a<32:=by
  intro l;induction l with
  |nil=>simp_all
  | cons x l c=>
    intro a b e;rw[aal];refine c _ (λn d=>b n (aan _ d)) ?_;obtain⟨f,g⟩:=b x (abj ..);have:=Iz ⟨a.toNat,by omega⟩ ⟨x.toNat,by omega⟩;have i:(a.toNat:Int)=a:=by omega
    have j:(x.toNat:Int)=x:=by omega
    simp_all
 exact key l 0 h (by omega)
theorem LO:∀a:Fin 32,∀b:Fin 32,tg 8 (xX (a.val:Int) (b.val:Int))=0/\0<=bM (a.val:Int) (b.val:Int)/\bM (a.val:Int) (b.val:Int)<=5:=by decide +kernel
theorem Hc{a b:Int}(c:0<=a/\a<32)(hb:0<=b/\b<32):tg 8 (xX a b)=0/\0<=bM a b/\bM a b<=5:=by
 have:=LO ⟨a.toNat,by omega⟩ ⟨b.toNat,by omega⟩
 grind
theorem Fr.Good.row{f:Fr}(a:f.Good){i:Nat}(hi:i<f.roads.length):f.roads[i].length=f.roads.length/\∀x∈f.roads[i],0<=x/\x<=9:=by
 have h:=a.JN;unfold fT at h;split at h
 . cases h
 split at h
 . cases h
 split at h
 . omega
 next q=>
 obtain⟨b,c⟩:=kS (by simpa using q) _ (zD hi);exact⟨b,λx d=>dC (c x d)⟩
theorem FE{b mb:Nat}{f:Fr}{l:acp}(j:f.Good)(hl:N6 f l)(h:KF (.val (bool (dw f l))) σ):aA prog m 254 [.agg [],lR b mb f 0,ints l] σ KF:=by
 obtain⟨S,a7,hlen⟩:=hl;have p:=j.cQ;unfold dw at h;refine fs UH 3 Tryz.func254 rfl rfl (by rfl) (by kernel_rfl) ?_
 simp[Tryz.f254];refine ab.loop (l.length-1) (λk s=>∃env a,s=⟨env,a,[],.no⟩/\σ.Le a/\env 1=lR b mb f 0/\env 2=ints l/\env 7=int ((k:Int)+1)/\∀i<k,gQ f (l.getD i 0) (l.getD (i+1) 0)=false) ⟨_,_,rfl,aa.le_refl _,by simp⟩ ?_
 rintro c0 k _ hk ⟨env,a,rfl,q,r,w,x,T⟩ U
 rcases ZU (k+1) l.length with g1|g1
 . have K:(k:Int)+1<l.length:=by omega
   have L:k<l.length:=by omega
   obtain⟨x0,x1⟩:=S _ (zD L);obtain⟨y0,y1⟩:=S _ (zD g1);have y:l[k].toNat<f.aD.length:=by omega
   have z:l[k+1].toNat<f.aD.length:=by omega
   have f1:-9223372036854775808<=(k:Int)/\(k:Int)<=9223372036854775807:=by omega
   have f2:((k:Int)+1).toNat=k+1:=by omega
   have f3:(0:Int)<=(k:Int)+1:=by omega
   obtain⟨A,C⟩:∃A,A=f.aD[l[k].toNat]:=⟨_,rfl⟩;obtain⟨B,D⟩:∃B,B=f.aD[l[k+1].toNat]:=⟨_,rfl⟩;have V:=ti y;have W:=ti z;rw[<-C]at V;rw[<-D]at W;have bA:=o6 (j.te A (by grind))
   have bB:=o6 (j.te B (by grind))
   refine rn ?_;simp[r,w,x,K,L,g1,x0,y,y0,z,f1.1,f1.2,f2,f3,<-C,<-D];have e:=λ{c:Nat}(t:a c=none)=>q.none t
   have E:A.place.toNat<f.roads.length:=by omega
   obtain⟨r1,r2⟩:=j.row E;have F:B.place.toNat<f.roads[A.place.toNat].length:=by omega
   obtain⟨r3,r4⟩:=r2 _ (zD F);have M:rd f.roads A.place.toNat B.place.toNat=f.roads[A.place.toNat][B.place.toNat]:=nK E F;have N:=qC bA.2.2.2.2.2;have O:=qC bB.2.2.2.2.2;have lA:=kj N;have lB:=kj O;obtain⟨X,P,Y⟩:=Hc lA lB;obtain⟨ch,g⟩:∃ch,ch=bM (aY A.marks) (aY B.marks):=⟨_,rfl⟩;rw[<-g]at P Y
   have hmul:0<=f.cQ*ch/\f.cQ*ch<=30:=by
    constructor
    . exact Int.mul_nonneg (by omega) P
    . calc f.cQ*ch<=6*5:=Int.mul_le_mul p.2 Y P (by omega)
       _=30:=by rfl
   have Z:gQ f l[k] l[k+1]=decide (B.hour-A.hour<f.roads[A.place.toNat][B.place.toNat]+f.cQ*ch):=by unfold gQ;rw[V,W,M,g]
   have a8:l.getD k 0=l[k]:=by simp[zA,L]
   have a9:l.getD (k+1) 0=l[k+1]:=by simp[zA,g1]
   have G:-9223372036854775808<=B.hour-A.hour/\B.hour-A.hour<=9223372036854775807:=by omega
   have H:-9223372036854775808<=f.cQ*ch/\f.cQ*ch<=9223372036854775807:=by omega
   have I:-9223372036854775808<=f.roads[A.place.toNat][B.place.toNat]+f.cQ*ch/\f.roads[A.place.toNat][B.place.toNat]+f.cQ*ch<=9223372036854775807:=by omega
   refine⟨vA.intro λc t=>?_,vA.intro λc t=>?_⟩
   . simp
     refine vA.intro λd hd=>?_
     obtain⟨J,u,hd⟩:=aa.aN hd;have Q:=e t;have R:=e hd;simp[J,u,aa.ai];refine ab.bC 8 (b:=c) (br A) (by simp[u,aa.ai]) (by simp) rfl ?_
     refine ab.bC 9 (b:=d) (br B) (by simp[J,aa.del]) (by simp) rfl ?_
     refine rn ?_;simp[r,G.1,G.2,E,F];refine⟨by omega,by omega,?_⟩
     refine cf Tryz.func255 rfl (oD (by have:=j.fits.marks A (by rw[C];exact zD y);omega) (λn o=>(N n o).1) ?_)
     refine pg ?_;simp;refine cf Tryz.func255 rfl (oD (by have:=j.fits.marks B (by rw[D];exact zD z);omega) (λn o=>(O n o).1) ?_)
     refine pg ?_;simp;refine cf Tryz.func256 rfl (xY X ?_);rw[<-g];refine pg ?_;simp[H.1,H.2,I.1,I.2];refine rn ?_;simp
     by_cases v:B.hour-A.hour<f.roads[A.place.toNat][B.place.toNat]+f.cQ*ch
     . simp[v]
       have:(List.range (l.length-1)).any (λi=>gQ f (l.getD i 0) (l.getD (i+1) 0))=true:=List.any_eq_true.2 ⟨k,List.mem_range.2 (by omega),by grind⟩
       rw[this]at h;exact .less (by repeat (first|exact aa.le_refl _|assumption|refine aa.fj ?_ (by assumption)|refine aa.lD ?_ (by assumption))) (.done h)
     . simp[x,v]
       refine⟨by omega,U _ (by omega) ⟨_,_,rfl,(by repeat (first|exact aa.le_refl _|assumption|refine aa.fj ?_ (by assumption)|refine aa.lD ?_ (by assumption))),by simp[r],by simp[w],by simp,λi hi=>?_⟩⟩
       grind
   . simp
     refine vA.intro λd hd=>?_
     obtain⟨J,u,hd⟩:=aa.aN hd;have Q:=e t;have R:=e hd;simp[u,aa.ai];refine ab.bC 8 (b:=d) (br A) (by simp[J,aa.ai]) (by simp) rfl ?_
     refine ab.bC 9 (b:=c) (br B) (by simp[u,aa.del]) (by simp) rfl ?_
     refine rn ?_;simp[r,G.1,G.2,E,F];refine⟨by omega,by omega,?_⟩
     refine cf Tryz.func255 rfl (oD (by have:=j.fits.marks A (by rw[C];exact zD y);omega) (λn o=>(N n o).1) ?_)
     refine pg ?_;simp;refine cf Tryz.func255 rfl (oD (by have:=j.fits.marks B (by rw[D];exact zD z);omega) (λn o=>(O n o).1) ?_)
     refine pg ?_;simp;refine cf Tryz.func256 rfl (xY X ?_);rw[<-g];refine pg ?_;simp[H.1,H.2,I.1,I.2];refine rn ?_;simp
     by_cases v:B.hour-A.hour<f.roads[A.place.toNat][B.place.toNat]+f.cQ*ch
     . simp[v]
       have:(List.range (l.length-1)).any (λi=>gQ f (l.getD i 0) (l.getD (i+1) 0))=true:=List.any_eq_true.2 ⟨k,List.mem_range.2 (by omega),by grind⟩
       rw[this]at h;exact .less (by repeat (first|exact aa.le_refl _|assumption|refine aa.fj ?_ (by assumption)|refine aa.lD ?_ (by assumption))) (.done h)
     . simp[x,v]
       refine⟨by omega,U _ (by omega) ⟨_,_,rfl,(by repeat (first|exact aa.le_refl _|assumption|refine aa.fj ?_ (by assumption)|refine aa.lD ?_ (by assumption))),by simp[r],by simp[w],by simp,λi hi=>?_⟩⟩
       grind
 . have g2:¬(k:Int)+1<l.length:=by omega
   have:(List.range (l.length-1)).any (λi=>gQ f (l.getD i 0) (l.getD (i+1) 0))=false:=by grind
   rw[this]at h;refine rn ?_;simp[w,x,g2];exact .less q (.done h)
theorem UK:(((prog.info? 278).bind λi=>i.methods.find? (·.name==  "palfrey/mark.breaks")).map λmt=>(mt.path,mt.func))=some (#[],some (250,false)):=by kernel_rfl
theorem UL:(((prog.info? 279).bind λi=>i.methods.find? (·.name==  "palfrey/mark.breaks")).map λmt=>(mt.path,mt.func))=some (#[],some (251,false)):=by kernel_rfl
theorem UM:(((prog.info? 280).bind λi=>i.methods.find? (·.name==  "palfrey/mark.breaks")).map λmt=>(mt.path,mt.func))=some (#[],some (254,false)):=by kernel_rfl
theorem Rh{a:AV}:oc prog 278  "palfrey/mark.breaks" 250 a a:=by obtain⟨mt,b,e⟩:=Option.map_eq_some_iff.1 UK;obtain⟨info,c,d⟩:=Option.bind_eq_some_iff.1 b;obtain⟨f,g⟩:=Prod.mk.inj e;exact rQ lay Uo c d (by rw[f]) g rfl
theorem Rk{a:AV}:oc prog 279  "palfrey/mark.breaks" 251 a a:=by obtain⟨mt,b,e⟩:=Option.map_eq_some_iff.1 UL;obtain⟨info,c,d⟩:=Option.bind_eq_some_iff.1 b;obtain⟨f,g⟩:=Prod.mk.inj e;exact rQ lay Up c d (by rw[f]) g rfl
theorem Rl{a:AV}:oc prog 280  "palfrey/mark.breaks" 254 a a:=by obtain⟨mt,b,e⟩:=Option.map_eq_some_iff.1 UM;obtain⟨info,c,d⟩:=Option.bind_eq_some_iff.1 b;obtain⟨f,g⟩:=Prod.mk.inj e;exact rQ lay Uq c d (by rw[f]) g rfl
def aZ(f:Fr)(l:acp):acp:=(eU (λa b=>decide (uy f a b<0)) l).reverse
def me(f:Fr)(l:acp):Int:=if dW f (aZ f l)then 1 else if cX f (aZ f l)then 2 else if dw f (aZ f l)then 3 else 0
abbrev UN(n:Int):AV:=if n=1 then .lZ 278 (.agg [])else if n=2 then .lZ 279 (.agg [])else if n=3 then .lZ 280 (.agg [])else .lit .nilIface
theorem N6.sort{f:Fr}{l:acp}(h:N6 f l):N6 f (aZ f l):=
 ⟨fun n a=>h.mem n ((uw _ _ _).1 (by simpa[aZ]using a)),λe=>h.ne (by
   have:(aZ f l).length=l.length:=by simp[aZ,lq]
   grind),by simp[aZ,lq,h.len]⟩
theorem Rm{b mb:Nat}{f:Fr}{l:acp}(y:f.Good)(v:N6 f l)(d:l.length<20)(h:KF (.val (UN (me f l))) σ):aA prog m 144 [lR b mb f 0,ints l] σ KF:=by
 have t:=v.sort;refine fs [] 2 Tryz.func144 rfl rfl (by rfl) (by kernel_rfl) ?_;simp[Tryz.f144];refine bR.intro λc B=>?_
 simp;refine cf Tryz.func177 rfl (Pf LN v.mem d v.ne ⟨rfl,rfl⟩ ?_);obtain⟨S,z⟩:∃S,S=(eU (λa b=>decide (uy f a b<0)) l).reverse:=⟨_,rfl⟩;have r:aZ f l=S:=z.symm;rw[r]at t;unfold me at h;rw[r]at h;rw[<-z];refine rn ?_;simp;refine ab.loop 3 (λk s=>∃env j,s=⟨env,j,[],.no⟩/\σ.Le j/\env 1=ints S/\env 2=.cp (lR b mb f 0) 0/\env 19=.sl 1 [.lZ 278 (.agg []),.lZ 279 (.agg []),.lZ 280 (.agg [])] .exact/\env 20=int 3/\env 21=int k/\(1<=k->dW f S=false)/\(2<=k->cX f S=false)/\(3<=k->dw f S=false)) ⟨_,_,rfl,aa.rH (aa.le_refl _) B,by simp,by simp,by simp,by simp,by simp,by simp,by simp,by simp⟩ ?_;rintro E k _ F ⟨env,j,rfl,e,o,p,i,d,g,w,A,C⟩ x;obtain rfl|rfl|rfl|rfl:k=0\/k=1\/k=2\/k=3:=by omega
 . refine rn ?_
   simp[o,p,i,d,g];refine ab.invoke rfl rfl rfl (by simp) rfl Rh Tryz.func250 rfl rfl ?_;refine FC t ?_;refine rn ?_;simp;cases hb:dW f S
   . simp[g]
     exact x _ (by omega) ⟨_,_,rfl,e,by simp[o],by simp[p],by simp[i],by simp[d],by simp,λ_=>hb,λq=>(by omega),λq=>(by omega)⟩
   . simp
     simp[hb]at h;exact .less e (.done h)
 . have n:=w (by omega)
   refine rn ?_;simp[o,p,i,d,g];refine ab.invoke rfl rfl rfl (by simp) rfl Rk Tryz.func251 rfl rfl ?_;refine FD y t ?_;refine rn ?_;simp;cases hb:cX f S
   . simp[g]
     exact x _ (by omega) ⟨_,_,rfl,e,by simp[o],by simp[p],by simp[i],by simp[d],by simp,λ_=>n,λ_=>hb,λq=>(by omega)⟩
   . simp
     simp[hb,n]at h;exact .less e (.done h)
 . have n:=w (by omega)
   have u:=A (by omega);refine rn ?_;simp[o,p,i,d,g];refine ab.invoke rfl rfl rfl (by simp) rfl Rl Tryz.func254 rfl rfl ?_;refine FE y t ?_;refine rn ?_;simp;cases hb:dw f S
   . simp[g]
     exact x _ (by omega) ⟨_,_,rfl,e,by simp[o],by simp[p],by simp[i],by simp[d],by simp,λ_=>n,λ_=>u,λ_=>hb⟩
   . simp
     simp[hb,n,u]at h;exact .less e (.done h)
 . have n:=w (by omega)
   have u:=A (by omega);have D:=C (by omega);simp[n,u,D]at h;refine rn ?_;simp[d,g];exact .less e (.done h)

/- Part 5 of the proof. -/
import Derived.Test.YtigilmjkokbblaaGreatDoorN4
set_option linter.all false
namespace Go.Proofs.YtigilmjkokbblaaGreatDoor
open Go.bd Go.Conc
set_option maxHeartbeats 2000000
set_option maxRecDepth 4000
variable{m:Mo}{σ:aa}{KF:dV->aa->Prop}
def ly(g:Nat × Nat->Int):Option (Nat × Nat)->List AV
 |none=>[int 0,int 0,int 0,bool false]
 |some p=>[int p.1,int p.2,int (g p),bool true]
theorem Kj{g:Nat × Nat->Int}{c:Nat}{o:Option (Nat × Nat)}{p:Nat × Nat}{n x y:Int}(b:x=p.1)(d:y=p.2)(e:n=g p)(a:σ c=some (.cells (ly g o)))(h:∀σ',σ' c=some (.cells (ly g (cY g o p)))->(∀x,x≠c->σ' x=σ x)->KF (.val (.bG [])) σ'):aB Tryz.prog m 76 [.ref c 0,.agg [int x,int y],int n] σ KF:=by
 subst e;subst b;subst d;cases o with
 | none=>
   simp only[ly]at a;refine aB.start lay [] [] 3 Tryz.func76 rfl rfl (by rfl) (by kernel_rfl) ?_;simp[Tryz.f76,a,aG];refine .done (h _ (aa.ak _ _ _) λx b=>?_);simp[aa.ag,b]
 | some v=>
   simp only[ly]at a;refine aB.start lay [] [] 3 Tryz.func76 rfl rfl (by rfl) (by kernel_rfl) ?_;simp[Tryz.f76,a,aG];by_cases q:g p<g v
   . simp[aI,q,a,aG]
     simp only[cY,if_pos q]at h;refine .done (h _ (aa.ak _ _ _) λx b=>?_);simp[aa.ag,b]
   . simp[aI,q,a,aG]
     simp only[cY,if_neg q]at h;exact .done (h _ a λx _=>rfl)
theorem Kk{w:List Int}{x y:Int}(a:0<=x/\x.toNat<w.length)(b:0<=y/\y.toNat<w.length)(h:KF (.val (bool (bZ x y w))) σ):aB Tryz.prog m 75 [ints w,.cp (int x) 0,.cp (int y) 0] σ KF:=by
 have c:w.getD x.toNat 0=w[x.toNat]:=by simp[List.getD_eq_getElem?_getD,a.2]
 have d:w.getD y.toNat 0=w[y.toNat]:=by simp[List.getD_eq_getElem?_getD,b.2]
 unfold bZ at h;rw[c,d]at h;refine aB.start lay [] UU 3 Tryz.func75 rfl rfl (by rfl) (by kernel_rfl) ?_;simp[Tryz.f75,a.1,a.2,b.1,b.2];refine ab.run lay [] ?_;simp;refine .done ?_;by_cases q:w[x.toNat]=w[y.toNat]
 . simpa[q]using h
 . have:(w[x.toNat]==w[y.toNat])=false:=by simp[q]
   simpa[q,this]using h
def ow(g:Nat × Nat->Int)(all:Int):Option (Nat × Nat)->List AV
 |none=>[int 0,int 0,int 0,int 11]
 |some q=>if g q<all then[int q.1,int q.2,int (g q),int 0]else[int 0,int 0,int 0,int 11]
theorem N3(hs:m.solo=true){f:Fr}(hf:f.Fits)(hc:check f=0)(b8:ao f []≠[])(h:KF (.val (.bG (ow (ov (ao f [])) (ao f []).length ((ib f.aA.length f.aA.length).foldl (cY (ov (ao f []))) none)))) σ):aB Tryz.prog m 33 [aC f] σ KF:=by
 have hg:=Fr.hQ hf hc;have h6:=hg.vw;have hlen:=jo hg [];have e0:=jo hg [0,0];have e7:=jo hg [0,1];have b9:∀w∈ao f [],w.length=f.aA.length:=λw hw=>by have:=iR f [] _ _ _ _ w hw;simpa using this
 refine aB.start lay [] R3 1 Tryz.func33 rfl rfl (by rfl) (by kernel_rfl) ?_
 simp[Tryz.f33];have hW:Wl [aC f,AV.lit (.slice none 0 0)] [aC f,.sl 1 (([]:List Int).map int) .any]:=.cons (.refl _) (.cons (cW 1) .nil);refine aH Tryz.func62 rfl rfl hW (jS (l:=[]) (sp:=.any) hs hf hc (by simp) (by simp) b8 λb mb ea bq M Y T=>?_)
 refine ab.run lay [] ?_;simp;refine bL.intro λE h8=>?_
 simp;have U:E≠b:=λe=>by subst e;obtain⟨q,_⟩:=M;rw[q]at h8;cases h8
 have Z:E≠mb:=λe=>by subst e;obtain⟨_,_,q,_⟩:=M;rw[q]at h8;cases h8
 have bz:σ E=none:=by
  cases e:σ E with
  |none=>rfl
  |some x=>rw[T _ _ e]at h8;cases h8
 refine an Tryz.func61 rfl rfl (CR hs hg ⟨by omega,by omega⟩ bq (jr M (aa.ag _ _ (Ne.symm U)) (aa.ag _ _ (Ne.symm Z))) λb0 bA q1=>?_)
 rw[zK hg];refine ab.run lay [] ?_;simp
 have a7:σ.Le b0:=λy x r=>by
  have y8:y≠E:=λe=>by subst e;rw[bz]at r;cases r
  have yb:y≠b:=λe=>by subst e;rw[Y.1]at r;cases r
  have ym:y≠mb:=λe=>by subst e;rw[Y.2]at r;cases r
  exact q1 y x ((aa.ag _ _ y8).trans (T y x r)) yb (.inl ym)
 have H:b0 E=some (.cells [int 0,int 0,int 0,bool false]):=q1 E _ (aa.ak _ _ _) U (.inl Z);obtain⟨g,b1⟩:∃g,g=ov (ao f []):=⟨_,rfl⟩;obtain⟨n,hn⟩:∃n,n=f.aA.length:=⟨_,rfl⟩;obtain⟨L,hL⟩:∃L,L=ao f []:=⟨_,rfl⟩;rw[<-b1,<-hn,<-hL]at h;rw[<-hL]at hlen b1 ⊢
 refine ab.loop n (λa s=>∃env σ',s=⟨env,σ',[],.no⟩/\env 1=.cp (aC f) 0/\env 6=iu b mb f 0/\env 8=.ref E 0/\env 9=int L.length/\env 26=int n/\env 27=int a/\yA b 6 mb .u8 (dF f) σ'/\σ.Le σ'/\σ' E=some (.cells (ly g ((ib n a).foldl (cY g) none)))) ⟨_,b0,rfl,by simp,by simp,by simp,by simp,by simp[hn],by simp,bA,a7,H⟩ ?_
 clear M T h8 bA q1 a7 H
 rintro k0 a _ ha ⟨env,σ',rfl,u,v,A,B,c,i,M,G,H⟩ cg
 rcases Nat.lt_or_ge a n with g1|g1
 . have V:(a:Int)<n:=by omega
   have f1:-9223372036854775808<=(a:Int)+1/\(a:Int)+1<=9223372036854775807:=by omega
   refine ab.run lay [] ?_;simp[u,v,A,B,c,i,V];refine bL.intro λN I=>?_
   simp[u,v,A,B,c,i,f1.1,f1.2];refine bL.intro λj D=>?_
   obtain⟨z1,z2,D⟩:=aa.aF D;simp[u,v,A,B,c,i,z1,z2,aa.ag];have a8:N≠b:=λe=>by subst e;obtain⟨q,_⟩:=M;rw[q]at I;cases I
   have a9:N≠mb:=λe=>by subst e;obtain⟨_,_,q,_⟩:=M;rw[q]at I;cases I
   have ad:N≠E:=λe=>by subst e;rw[H]at I;cases I
   have O:j≠b:=λe=>by subst e;obtain⟨q,_⟩:=M;rw[q]at D;cases D
   have P:j≠mb:=λe=>by subst e;obtain⟨_,_,q,_⟩:=M;rw[q]at D;cases D
   have J:j≠E:=λe=>by subst e;rw[H]at D;cases D
   have t:∀y,σ' y=none->σ y=none:=λy r=>by
    cases e:σ y with
    |none=>rfl
    |some x=>rw[G _ _ e]at r;cases r
   refine ab.bY 10 (b:=N) (int a) (by simp[aa.ag,z1,z2]) (by simp) rfl ?_
   obtain⟨K,Q⟩:∃K,K=(((σ'.set N (.cells [int a])).set j (.cells [int ((a:Int)+1)])).del N):=⟨_,rfl⟩;have ka:∀y,y≠N->y≠j->K y=σ' y:=λy y1 y2=>by rw[Q];simp only[aa.del,y1,if_false,aa.ag _ _ y2,aa.ag _ _ y1]
   have al:K j=some (.cells [int ((a:Int)+1)]):=by rw[Q];simp only[aa.del,z1,if_false,aa.ak]
   have bB:=jr (σ':=K) M (ka b (Ne.symm a8) (Ne.symm O)) (ka mb (Ne.symm a9) (Ne.symm P))
   have av:σ.Le K:=λy x r=>by
    rw[ka y (λe=>by subst e;rw[t _ I]at r;cases r) (λe=>by subst e;rw[t _ D]at r;cases r)]
    exact G y x r
   have c5:K E=some (.cells (ly g ((ib n a).foldl (cY g) none))):=by rw[ka E (Ne.symm ad) (Ne.symm J)];exact H
   have R:=t _ D;rw[<-Q]
   refine ab.loop (n-(a+1)) (λd s=>∃env k j,s=⟨env,k,[],.no⟩/\env 1=.cp (aC f) 0/\env 6=iu b mb f 0/\env 8=.ref E 0/\env 9=int L.length/\env 26=int n/\env 27=int a/\env 10=.cp (int a) 0/\env 11=.ref j 0/\yA b 6 mb .u8 (dF f) k/\σ.Le k/\k E=some (.cells (ly g ((ib n a++yQ a d).foldl (cY g) none)))/\k j=some (.cells [int ((a:Int)+1+d)])/\j≠E/\σ j=none) ⟨_,K,j,rfl,by simp[u],by simp[v],by simp[A],by simp[B],by simp[c],by simp[i],by simp,by simp,bB,av,by simpa[yQ]using c5,by simpa using al,J,R⟩ ?_
   clear u v A B c i bB av c5 al R ka Q J O P a8 a9 ad t M G H I D z1 z2
   rintro k1 d _ hd ⟨env,k,j,rfl,u,v,A,B,c,i,bg,bV,M,G,H,S,J,R⟩ cl
   have O:j≠b:=λe=>by subst e;obtain⟨q,_⟩:=M;rw[q]at S;cases S
   have P:j≠mb:=λe=>by subst e;obtain⟨_,_,q,_⟩:=M;rw[q]at S;cases S
   have dy:E≠b:=U;refine ab.bY 11 (b:=j) (int ((a:Int)+1+d)) S bV rfl ?_;have kd:∀y,y≠j->(k.del j) y=k y:=λy y1=>by simp only[aa.del,y1,if_false]
   have c6:=jr (σ':=k.del j) M (kd b (Ne.symm O)) (kd mb (Ne.symm P))
   have ax:σ.Le (k.del j):=λy x r=>by
    rw[kd y (λe=>by subst e;rw[R]at r;cases r)]
    exact G y x r
   have b2:=(kd E (Ne.symm J)).trans H;clear M G H S kd;generalize k.del j=eb at *
   rcases Nat.lt_or_ge d (n-(a+1))with g2|g2
   . have tE:(a:Int)+1+d<f.aA.length:=by omega
     have f2:-9223372036854775808<=(a:Int)+1+d+1/\(a:Int)+1+d+1<=9223372036854775807:=by omega
     refine ab.run lay [] ?_;simp[u,v,A,B,c,i,bg,tE];refine an Tryz.func68 rfl rfl (rA (fS nH nI tO hs bq) hg (p:=bZ a ((a+1+d:Nat):Int)) ⟨rfl,rfl⟩ (λw c7 σ KF hK=>eL Tryz.func75 rfl rfl rfl (Kk (x:=a) (y:=(a:Int)+1+d) ⟨by omega,by rw[b9 w c7];omega⟩ ⟨by omega,by rw[b9 w c7];omega⟩ (by simpa using hK))) (by rw[<-hL];omega) c6 λcm cv q2=>?_)
     rw[<-hL];obtain⟨z,hz⟩:∃z,z=(L.filter (bZ a ((a+1+d:Nat):Int))).length:=⟨_,rfl⟩;have ec:z<=L.length:=by rw[hz];exact List.length_filter_le _ _
     have dd:g (a,a+1+d)=max (z:Int) ((L.length:Int)-z):=by rw[b1,hz];rfl
     rw[<-hz];have dj:=q2 E _ b2 U (.inl Z)
     have ca:σ.Le cm:=λy x r=>by
      have yb:y≠b:=λe=>by subst e;rw[Y.1]at r;cases r
      have ym:y≠mb:=λe=>by subst e;rw[Y.2]at r;cases r
      exact q2 y x (ax y x r) yb (.inl ym)
     have f3:-9223372036854775808<=(L.length:Int)-z/\(L.length:Int)-z<=9223372036854775807:=by omega
     refine ab.run lay [] ?_;simp[u,v,A,B,c,i,bg,f3.1,f3.2];refine an Tryz.func76 rfl rfl (Kj (g:=g) (p:=(a,a+1+d)) (o:=(ib n a++yQ a d).foldl (cY g) none) rfl (by simp) (by rw[dd];split<;>omega) dj λcb b3 k3=>?_)
     have b4:(ib n a++yQ a (d+1)).foldl (cY g) none=cY g ((ib n a++yQ a d).foldl (cY g) none) (a,a+1+d):=by rw[HQ,<-List.append_assoc,List.foldl_append];rfl
     rw[<-b4]at b3;have b5:=jr (σ':=cb) cv (k3 b (Ne.symm U)) (k3 mb (Ne.symm Z))
     have ay:σ.Le cb:=λy x r=>by rw[k3 y (λe=>by subst e;rw[bz]at r;cases r)];exact ca y x r
     refine ab.run lay [] ?_;simp[u,v,A,B,c,i,bg];refine bL.intro λF C=>?_
     have b6:F≠b:=λe=>by subst e;obtain⟨q,_⟩:=b5;rw[q]at C;cases C
     have b7:F≠mb:=λe=>by subst e;obtain⟨_,_,q,_⟩:=b5;rw[q]at C;cases C
     have W:F≠E:=λe=>by subst e;rw[b3]at C;cases C
     have X:σ F=none:=by
      cases e:σ F with
      |none=>rfl
      |some x=>rw[ay _ _ e]at C;cases C
     simp[u,v,A,B,c,i,bg,f2.1,f2.2];refine cl _ g2 ⟨_,_,F,rfl,by simp[u,v,A,B,c,i,bg],by simp[u,v,A,B,c,i,bg],by simp[u,v,A,B,c,i,bg],by simp[u,v,A,B,c,i,bg],by simp[u,v,A,B,c,i,bg],by simp[u,v,A,B,c,i,bg],by simp[u,v,A,B,c,i,bg],by simp,jr b5 (aa.ag _ _ (Ne.symm b6)) (aa.ag _ _ (Ne.symm b7)),λy x r=>?_,(aa.ag _ _ (Ne.symm W)).trans b3,by rw[aa.ak];simp;omega,W,X⟩
     rw[aa.ag _ _ (λe=>by subst e;rw[X]at r;cases r)]
     exact ay y x r
   . have dr:d=n-(a+1):=by omega
     have tE:¬(a:Int)+1+d<f.aA.length:=by omega
     rw[dr,<-CI]at b2;refine ab.run lay [] ?_;simp[u,v,A,B,c,i,bg,tE,f1.1,f1.2];exact cg _ g1 ⟨_,_,rfl,by simp[u,v,A,B,c,i,bg],by simp[u,v,A,B,c,i,bg],by simp[u,v,A,B,c,i,bg],by simp[u,v,A,B,c,i,bg],by simp[u,v,A,B,c,i,bg],by simp,c6,ax,b2⟩
 . have dx:a=n:=by omega
   subst dx;have V:¬(a:Int)<a:=by omega
   have hq:∀q,(ib a a).foldl (cY g) none=some q->q.1<q.2/\q.2<a:=λq h=>by
    rcases CJ g _ _ _ h with h|h
    . exact EX h
    . cases h
   cases ho:(ib a a).foldl (cY g) none with
   |none=>rw[ho]at h H;simp only[ly]at H;refine ab.run lay [] ?_;simp[u,v,A,B,c,i,V,H];exact .less G (.done h)
   | some q=>
     rw[ho]at h H;simp only[ly]at H
     by_cases q2:g q<L.length
     . have q3:¬(g q>=L.length):=by omega
       simp only[ow,if_pos q2]at h;refine ab.run lay [] ?_;simp[u,v,A,B,c,i,V,H,q3];refine ab.run lay [] ?_;simp[u,v,A,B,c,i];exact .less G (.done h)
     . have q3:g q>=L.length:=by omega
       simp only[ow,if_neg q2]at h;refine ab.run lay [] ?_;simp[u,v,A,B,c,i,V,H,q3];exact .less G (.done h)
theorem Kl{σ0 σ:aa}{a:AV}{kk:Nat}{es:List AV}(h:Tok σ0 σ a kk es)(c:es≠[]):∃sp,a=.sl kk es sp:=by
 rcases h.2 with⟨_,q⟩|q|⟨b,e,_,q,_⟩
 . exact absurd q c
 . exact⟨_,q⟩
 . exact⟨_,q⟩
theorem Qa{σ0 σ σ':aa}{a:AV}{kk:Nat}{es:List AV}{b mb:Nat}(h:Tok σ0 σ a kk es)(g:lh b mb σ σ')(hb:σ0 b=none/\σ0 mb=none)(i:∀e,σ b≠some (.tail e))(j:∀e,σ mb≠some (.tail e)):Tok σ0 σ' a kk es:=by
 refine jm h (λy x c=>?_) λd hd=>?_
 . have k:y≠b:=λe=>by subst e;rw[hb.1]at c;cases c
   have l:y≠mb:=λe=>by subst e;rw[hb.2]at c;cases c
   exact g y x (h.1 y x c) k (.inl l)
 . obtain⟨m,e,f⟩:=h.bc hd
   refine⟨?_,m⟩;rw[f];exact g d _ f (λq=>by subst q;exact i _ f) (.inl λq=>by subst q;exact j _ f)
theorem sN{σ0 σ σ':aa}{a a':AV}{kk c:Nat}{es d:List AV}{y:Nat}(h:Tok σ0 σ a kk es)(f:Tok (σ.off a) σ' a' c d)(g:∀e,σ y≠some (.tail e))(i:(σ y).isSome=true):σ' y=σ y:=by
 obtain⟨x,b⟩:=Option.isSome_iff_exists.1 i;rw[b];refine f.1 _ _ ?_;rw[aa.gh (λq=>by obtain⟨_,e,j⟩:=h.bc q;exact g e j)];exact b
theorem Qb{a a' b:AV}(h:a.W a'):(AV.bG [a,b]).W (.bG [a',b]):=wQ rfl λi x y c d=>by
 match i with
 |0=>simp at c d;subst c;subst d;exact h
 |1=>simp at c d;subst c;subst d;exact .refl _
 |i+2=>simp at c
theorem E0{S:Nat->Nat->Bool}{n k:Nat}(g:k<n)(b:∀j,j<k->S j n=false)(c:S k n=true):(List.range n).find? (λj=>S j n)=some k:=by
 rw[List.find?_eq_some_iff_append];refine⟨c,List.range k,List.range' (k+1) (n-(k+1)),?_,λa d=>by simp[b a (List.mem_range.1 d)]⟩
 have e:n=k+(1+(n-(k+1))):=by omega
 have f:List.range' 0 k++List.range' k (1+(n-(k+1)))=List.range' 0 n:=by have:=@List.range'_append_1 0 k (1+(n-(k+1)));rw[Nat.zero_add,<-e]at this;exact this
 rw[List.range_eq_range',List.range_eq_range',<-f,Nat.add_comm 1,List.range'_succ]
theorem N4{S:Nat->Nat->Bool}{n:Nat}(a:∀j,j<n->S j n=false):(List.range n).find? (λj=>S j n)=none:=by rw[List.find?_eq_none];intro j b;simp[a j (List.mem_range.1 b)]
theorem E1{S:Nat->Nat->Bool}{n k:Nat}(h:(List.range n).find? (λj=>S j n)=some k):aX S (n+1)=((aX S n).1++[(aX S n).1.getD k 0],(aX S n).2):=by rw[aX,h]
theorem E2{S:Nat->Nat->Bool}{n:Nat}(h:(List.range n).find? (λj=>S j n)=none):aX S (n+1)=((aX S n).1++[(aX S n).2],(aX S n).2+1):=by rw[aX,h]
theorem HV(hs:m.solo=true){f:Fr}(hf:f.Fits)(hc:check f=0)(F:ao f []≠[])(h:KF (.val (.bG [ints (aX (fA (ao f [])) f.aA.length).1,int 0])) σ):aB Tryz.prog m 29 [aC f] σ KF:=by
 have U:=Fr.hQ hf hc;have h6:=U.vw;have hlen:=jo U [];have M:0<(ao f []).length:=List.length_pos_iff.2 F;refine aB.start lay [] [] 1 Tryz.func29 rfl rfl (by rfl) (by kernel_rfl) ?_
 simp[Tryz.f29];have hW:Wl [aC f,AV.lit (.slice none 0 0)] [aC f,.sl 1 (([]:List Int).map int) .any]:=.cons (.refl _) (.cons (cW 1) .nil);refine aH Tryz.func62 rfl rfl hW (jS (l:=[]) (sp:=.any) hs hf hc (by simp) (by simp) F λb mb σ0 V B X G=>?_)
 refine ab.run lay [] ?_;simp;obtain⟨n,N⟩:∃n,n=f.aA.length:=⟨_,rfl⟩;obtain⟨L,T⟩:∃L,L=ao f []:=⟨_,rfl⟩;rw[<-T,<-N]at h;rw[<-T]at M hlen;refine ab.loop n (λx s=>∃env p a,s=⟨env,p,[],.no⟩/\env 1=.cp (aC f) 0/\env 4=iu b mb f 0/\env 6=a/\env 7=int (aX (fA L) x).2/\env 20=int n/\env 21=int x/\yA b 6 mb .u8 (dF f) p/\Tok σ p a 1 ((aX (fA L) x).1.map int)) ⟨_,σ0,.lit (.slice none 0 0),rfl,by simp,by simp,by simp,by simp[aX],by simp[N],by simp,B,G,.inl ⟨rfl,rfl⟩⟩ ?_
 clear B G
 rintro k0 x _ hx ⟨env,p,a,rfl,u,v,y,w,vJ,yB,B,d⟩ O
 have c:=d.cells;have hG:=CO M x;have H:=hG.len;have ax:=hG.le
 have K:∀{E:aa}{e:_},yA b 6 mb .u8 (dF f) E->E b≠some (.tail e)/\E mb≠some (.tail e):=λ{E e} Y=>by obtain⟨P,l,Q,_⟩:=Y;rw[P,Q];simp[mapA]
 rcases Nat.lt_or_ge x n with g1|g1
 . have Z:(x:Int)<n:=by omega
   have f1:-9223372036854775808<=(x:Int)+1/\(x:Int)+1<=9223372036854775807:=by omega
   refine ab.run lay [] ?_;simp[u,v,y,w,vJ,yB,c.1,c.2,Z];refine ab.loop x (λk s=>∃env p,s=⟨env,p,[],.no⟩/\env 1=.cp (aC f) 0/\env 4=iu b mb f 0/\env 6=a/\env 7=int (aX (fA L) x).2/\env 20=int n/\env 21=int x/\env 8=int x/\env 24=int x/\env 25=int k/\yA b 6 mb .u8 (dF f) p/\Tok σ p a 1 ((aX (fA L) x).1.map int)/\∀j,j<k->fA L j x=false) ⟨_,p,rfl,by simp[u],by simp[v],by simp[y],by simp[w],by simp[vJ],by simp[yB],by simp,by simp,by simp,B,d,by simp⟩ ?_
   clear u v y w vJ yB B d
   rintro k1 k _ hk ⟨env,p,rfl,u,v,y,w,vJ,yB,C,pj,i,B,d,I⟩ a7
   rcases Nat.lt_or_ge k x with g2|g2
   . have tE:(k:Int)<x:=by omega
     have f2:-9223372036854775808<=(k:Int)+1/\(k:Int)+1<=9223372036854775807:=by omega
     refine ab.run lay [] ?_;simp[u,v,y,w,vJ,yB,C,pj,i,c.1,c.2,tE];refine an Tryz.func66 rfl rfl (Gv (fS nH nI tO hs V) U ⟨by omega,by omega⟩ ⟨by omega,by omega⟩ (by rw[<-T];omega) B λa8 D q2=>?_)
     rw[<-T];rw[show fY ((L.filter (bZ k x)).length:Int) L.length=EW L k x from rfl]
     have o:=Qa d q2 X (λe=>(K B).1) (λe=>(K B).2)
     by_cases q:EW L k x=1
     . have qb:(EW L k x==1)=true:=by simp[q]
       have a9:=E0 g2 I (by simp[fA,q])
       have r:=E1 a9;obtain⟨sp,rfl⟩:=Kl o (λe=>by have:=congrArg List.length e;rw[List.length_map,H]at this;simp at this;omega)
       have R:k<(aX (fA L) x).1.length:=by omega
       have S:(aX (fA L) x).1.getD k 0=(aX (fA L) x).1[k]:=by simp[List.getD_eq_getElem?_getD,R]
       refine ab.run lay [] ?_;simp[u,v,y,w,vJ,yB,C,pj,i,c.1,c.2,qb,R];refine aS lay rfl rfl rfl cK rfl cK rfl rl (by decide) (by simp[H];omega) (σ0:=a8.off (.sl 1 ((aX (fA L) x).1.map int) sp)) (es:=(aX (fA L) x).1.map int) (xs:=[int (aX (fA L) x).1[k]]) (by simpa using o.here.1) (.inr ⟨_,by simp;rfl⟩) λa' ad A=>?_
       have t:=A.base o.here.2;have z:=t.cells;have J:=jr D (sN o A (λe=>(K D).1) (by obtain⟨P,_⟩:=D;rw[P];simp)) (sN o A (λe=>(K D).2) (by obtain⟨_,l,Q,_⟩:=D;rw[Q];simp))
       refine ab.run lay [] ?_;simp[u,v,w,vJ,yB,C,pj,i,f1.1,f1.2,z.1,z.2];refine O _ g1 ⟨_,_,a',rfl,by simp[u],by simp[v],by simp,by simp[w,r],by simp[vJ],by simp,J,?_⟩
       rw[r,S];simpa using t
     . have qb:(EW L k x==1)=false:=by simp[q]
       refine ab.run lay [] ?_;simp[u,v,y,w,vJ,yB,C,pj,i,c.1,c.2,qb,f2.1,f2.2];refine a7 _ g2 ⟨_,_,rfl,by simp[u,v,y,w,vJ,yB,C,pj,i,c.1,c.2],by simp[u,v,y,w,vJ,yB,C,pj,i,c.1,c.2],by simp[u,v,y,w,vJ,yB,C,pj,i,c.1,c.2],by simp[u,v,y,w,vJ,yB,C,pj,i,c.1,c.2],by simp[u,v,y,w,vJ,yB,C,pj,i,c.1,c.2],by simp[u,v,y,w,vJ,yB,C,pj,i,c.1,c.2],by simp[u,v,y,w,vJ,yB,C,pj,i,c.1,c.2],by simp[u,v,y,w,vJ,yB,C,pj,i,c.1,c.2],by simp,D,o,λj hj=>?_⟩
       rcases Nat.lt_or_ge j k with g|g
       . exact I j g
       . obtain rfl:j=k:=by omega
         simp[fA,q]
   . have al:k=x:=by omega
     subst al;have r:=E2 (N4 I);have f3:-9223372036854775808<=(aX (fA L) k).2+1/\(aX (fA L) k).2+1<=9223372036854775807:=by omega
     refine ab.run lay [] ?_;simp[u,v,y,w,vJ,yB,C,pj,i,c.1,c.2];refine aS lay rfl rfl rfl cK rfl cK rfl rl (by decide) (by simp[H];omega) (σ0:=p.off a) (es:=(aX (fA L) k).1.map int) (xs:=[int (aX (fA L) k).2]) (by simpa using d.here.1) (.inr ⟨_,by simp;rfl⟩) λa' ad A=>?_
     have t:=A.base d.here.2;have z:=t.cells;have J:=jr B (sN d A (λe=>(K B).1) (by obtain⟨P,_⟩:=B;rw[P];simp)) (sN d A (λe=>(K B).2) (by obtain⟨_,l,Q,_⟩:=B;rw[Q];simp))
     refine ab.run lay [] ?_;simp[u,v,w,vJ,yB,C,pj,i,f1.1,f1.2,f3.1,f3.2,z.1,z.2];refine O _ g1 ⟨_,_,a',rfl,by simp[u],by simp[v],by simp,by simp[r],by simp[vJ],by simp,J,?_⟩
     rw[r];simpa using t
 . have av:x=n:=by omega
   subst av;refine ab.run lay [] ?_;simp[u,v,y,w,vJ,yB,c.1,c.2];exact .less d.1 (.iI (Qb d.W) (.done h))
namespace MS
end MS
abbrev σO:aa:=λ_=>none
theorem E3{L:List (List Int)}{x y k:Nat}(a:k<L.length):gI (L.take (k+1)) x y=gI (L.take k) x y++if bZ x y L[k]=true then[bK L[k] (L[k].getD x 0)]else[]:=by
 unfold gI;rw[List.take_succ_eq_append_getElem a,List.filter_append,List.map_append];by_cases e:bZ x y L[k]=true<;>simp[e]
theorem zM(L:List (List Int))(x y:Nat):(gI L x y).length<=L.length:=by unfold gI;rw[List.length_map];exact List.length_filter_le _ _
def qu(L:List (List Int))(x y:Nat):List AV:=
 match gI L x y with
 |[]=>[.lit (.slice none 0 0),int 11]
 |a::r=>[ints (cO a r),int 0]
theorem E4(hs:m.solo=true){f:Fr}{x y:Nat}(hf:f.Fits)(J:check f=0)(V:x<f.aA.length)(hy:y<f.aA.length)(b3:ao f []≠[])(h:KF (.val (.bG (qu (ao f []) x y))) σ):aB Tryz.prog m 31 [aC f,int x,int y] σ KF:=by
 have hg:=Fr.hQ hf J;have h6:=hg.vw;have hlen:=jo hg [];have b4:∀w∈ao f [],w.length=f.aA.length:=λw hw=>by have:=iR f [] _ _ _ _ w hw;simpa using this
 refine aB.start lay [] P6 3 Tryz.func31 rfl rfl (by rfl) (by kernel_rfl) ?_
 simp[Tryz.f31];refine an Tryz.func62 rfl rfl (jS (l:=[(x:Int),(y:Int)]) (sp:=.exact) hs hf J (λn hn=>by simp at hn;rcases hn with rfl|rfl<;>omega) (by simp) b3 λb mb σ0 dr hu b5 Q=>?_)
 refine ab.run lay [] ?_;simp;have LK:Gu Tryz.prog m nn b 6 mb .u8 (dF f) (yA b 6 mb .u8 (dF f)) (Up b 6 mb .u8):=fS nH nI tO hs dr;refine bL.intro λj b6=>?_
 simp;have hW:Wl [iu b mb f 0,AV.lit (.slice none 0 0)] [iu b mb f 0,ints []]:=.cons (.refl _) (.cons (cW 1) .nil);refine aH Tryz.func63 rfl rfl hW (qt (begun:=[]) ?_);refine ab.run lay [] ?_;simp;refine ab.rangeFunc rfl λdx r l hr hl av=>?_
 obtain⟨a1,_,hr⟩:=aa.aF hr;obtain⟨a2,_,hl⟩:=aa.aF hl;generalize b7:mE.mk _ _ _ _ _ _ _ _ _=al;obtain⟨L,hL⟩:∃L,L=ao f []:=⟨_,rfl⟩
 have hY : NZ m (.fn (.yield l) [] []) (ao f []) (λk F A=>∃a,(∀c,F c↔c=l\/c=j\/bX a=some c)/\A l=some (.loop al)/\A j=some (.cells [a])/\Tok σO A a 1 ((gI ((ao f []).take k) x y).map ints)) (λF A=>False):=by
  refine⟨λk F A ez hk hI hT hF=>?_,λk F dy R he hI=>?_,λF dy R he hI=>hI.elim,λk F A c hI J=>?_⟩
  . obtain ⟨a,p,g1,g3,o⟩:=hI
    have b8:(ao f [])[k]∈ao f []:=List.getElem_mem hk;have b9:=b4 _ b8;have C:=E3 (L:=ao f []) (x:=x) (y:=y) hk;have bq:=zM ((ao f []).take k) x y;rw[List.length_take]at bq;obtain⟨w,hw⟩:∃w,w=(ao f [])[k]:=⟨_,rfl⟩;rw[<-hw]at b9 C;have M:x<w.length:=by omega
    have ax:y<w.length:=by omega
    have bA:bZ x y w=decide (w[x]=w[y]):=by simp[bZ,List.getD_eq_getElem?_getD,M,ax]
    have e0:w.getD x 0=w[x]:=by simp[List.getD_eq_getElem?_getD,M]
    rw[<-hw];subst b7;refine cN.tP (hold:=P6) dx Tryz.func31 g1 rfl ?_;refine ab.run lay [] ?_;simp[gg];refine ab.beginRound g1 rfl ?_;have Y:bX a≠some l:=λq=>by obtain⟨_,e,N⟩:=o.bc q;rw[g1]at N;cases N
    have bB:bX a≠some j:=λq=>by obtain⟨_,e,N⟩:=o.bc q;rw[g3]at N;cases N
    by_cases q:w[x]=w[y]
    . have qb:(w[x] !=w[y])=false:=by simp[q]
      rw[bA,if_pos (by simpa using q),e0]at C
      obtain⟨v,hv⟩:∃v,v=w[x]:=⟨_,rfl⟩;rw[<-hv]at C;refine ab.run lay [] ?_;simp[gg,M,ax,qb];generalize e7:mE.mk _ _ _ _ _ _ _ _ _=bz;generalize c5:A.set l (.loop bz)=G;have c6:G l=some (.loop bz):=by rw[<-c5];exact aa.ak _ _ _
      have Z:∀z,z≠l->G z=A z:=λz I=>by rw[<-c5];exact aa.ag _ _ I
      have c7:Tok σO G a 1 ((gI ((ao f []).take k) x y).map ints):=jm o (λz x I=>by cases I) λd hd=>⟨Z d (λe=>Y (e ▸ hd)),rfl⟩
      have S:G j=some (.cells [a]):=(Z j (Ne.symm a2)).trans g3;have a7:=c7.cells;refine ab.run lay [] ?_;simp;refine ab.loop w.length (λi s=>∃env R,s=⟨env,R,[],.no⟩/\env 4=.cp (int x) 0/\env 10=.ref j 0/\env 11=ints w/\env 38=ints w/\env 39=int w.length/\env 40=int i/\Tok G R (env 12) 1 ((bK (w.take i) v).map int)) ⟨_,G,rfl,by simp,by simp,by simp,by simp,by simp,by simp,by simpa[bK]using Tok.nil G 1⟩ ?_
      rintro k1 i _ hi ⟨env,R,rfl,O,bg,bV,D,E,B,t⟩ ih
      have g:=t.cells
      rcases Nat.lt_or_ge i w.length with g4|g4
      . have c8:(i:Int)<w.length:=by omega
        have f1:-9223372036854775808<=(i:Int)+1/\(i:Int)+1<=9223372036854775807:=by omega
        have ea:=pM (w.take i) v;rw[List.length_take]at ea
        by_cases q4:w[i]=v
        . have ay:(w[i]==w[x])=true:=by simp[q4,hv]
          refine ab.run lay [] ?_;simp[O,bg,bV,D,E,B,g.1,g.2,c8,g4,M,ay];refine aS lay rfl rfl rfl cK rfl cK rfl rl (by decide) (by simp;omega) (σ0:=G) (es:=(bK (w.take i) v).map int) (xs:=[int i]) (by simpa using t) (.inr ⟨_,by simp;rfl⟩) λa' T ca=>?_
          have K:=ca.cells;refine ab.run lay [] ?_;simp[B,f1.1,f1.2,K.1,K.2];refine ih _ g4 ⟨_,_,rfl,by simp[O,bg,bV,D,E,B,g.1,g.2],by simp[O,bg,bV,D,E,B,g.1,g.2],by simp[O,bg,bV,D,E,B,g.1,g.2],by simp[O,bg,bV,D,E,B,g.1,g.2],by simp[O,bg,bV,D,E,B,g.1,g.2],by simp,?_⟩
          rw[ot _ _ _ g4,if_pos q4,List.map_append];simpa using ca
        . have ay:(w[i]==w[x])=false:=by rw[beq_eq_false_iff_ne,<-hv];exact q4
          refine ab.run lay [] ?_;simp[O,bg,bV,D,E,B,g.1,g.2,c8,g4,M,ay,f1.1,f1.2];refine ih _ g4 ⟨_,_,rfl,by simp[O,bg,bV,D,E,B,g.1,g.2],by simp[O,bg,bV,D,E,B,g.1,g.2],by simp[O,bg,bV,D,E,B,g.1,g.2],by simp[O,bg,bV,D,E,B,g.1,g.2],by simp[O,bg,bV,D,E,B,g.1,g.2],by simp,?_⟩
          rw[ot _ _ _ g4,if_neg q4,List.append_nil];simpa using t
      . have eb:i=w.length:=by omega
        subst eb;rw[List.take_length]at t;refine ab.zt 12 (a':=ints (bK w v)) (by simpa using t.W) ?_
        refine ab.weaken (σ:=G) ?_ t.1;clear t ih g;refine ab.run lay [] ?_;simp[O,bg,bV,D,E,B,S,a7.1,a7.2];refine aS lay rfl rfl rfl jO rfl jO rfl cK (by decide) (by simp;omega) (σ0:=G.off a) (es:=(gI ((ao f []).take k) x y).map ints) (xs:=[ints (bK w v)]) (by simpa using c7.here.1) (.inr ⟨_,by simp;rfl⟩) λa' T P=>?_
        have a9:=P.cells;have k3:∀z u,G z=some u->bX a≠some z->T z=some u:=λz u I hn=>P.1 _ _ (by rw[aa.gh hn];exact I)
        have ec:=k3 _ _ S bB;have zl:=k3 _ _ c6 Y;have cb:bX a'≠some l:=λq=>by obtain⟨H,_⟩:=P.bc q;rw[aa.gh Y,c6]at H;cases H
        have K:bX a'≠some j:=λq=>by obtain⟨H,_⟩:=P.bc q;rw[aa.gh bB,S]at H;cases H
        have ee:Tok σO T a' 1 ((gI ((ao f []).take (k+1)) x y).map ints):=by
         have:=P.base (σ0:=σO) (λy x hy=>by cases hy)
         rw[C,List.map_append];simpa using this
        refine ab.run lay [] ?_;simp[bg,ec,a9.1,a9.2,aG];have fin:∀(X:jB) z u,z≠l->z≠j->T z=some u->((T.set j (.cells [a'])).set l X) z=some u:=λX z u h1 h2 h3=>(aa.ag _ _ h1).trans ((aa.ag _ _ h2).trans h3)
        subst e7;refine⟨rfl,rfl,_,(aa.ag _ _ a2).trans zl,?_⟩;refine hT (λc=>c=l\/c=j\/bX a'=some c) _ (λc z J I=>⟨?_,λq=>?_⟩) ⟨a',λc=>Iff.rfl,aa.ak _ _ _,(aa.ag _ _ (Ne.symm a2)).trans (aa.ak _ _ _),jm ee (λz x I=>by cases I) λd hd=>⟨?_,rfl⟩⟩
        . have H:c≠l:=λe=>J ((p c).2 (.inl e))
          have N:c≠j:=λe=>J ((p c).2 (.inr (.inl e)))
          exact fin _ c z H N (k3 c z ((Z c H).trans I) (λe=>J ((p c).2 (.inr (.inr e)))))
        . have H:c≠l:=λe=>J ((p c).2 (.inl e))
          have N:c≠j:=λe=>J ((p c).2 (.inr (.inl e)))
          rcases q with q|q|q
          . exact H q
          . exact N q
          . obtain⟨q3,_⟩:=P.bc q
            rw[aa.gh (λe=>J ((p c).2 (.inr (.inr e)))),Z c H,I]at q3
            cases q3
        . have H:d≠l:=λe=>cb (e ▸ hd)
          have N:d≠j:=λe=>K (e ▸ hd)
          exact(aa.ag _ _ H).trans (aa.ag _ _ N)
    . have qb:(w[x] !=w[y])=true:=by simp[q]
      rw[bA,if_neg (by simpa using q),List.append_nil]at C
      refine ab.run lay [] ?_;simp[gg,M,ax,qb];refine ab.run lay [] ?_;simp;refine⟨rfl,rfl,_,aa.ak _ _ _,?_⟩;refine hT F _ (λc z J I=>⟨?_,J⟩) ⟨a,p,aa.ak _ _ _,?_,?_⟩
      . have H:c≠l:=λe=>J ((p c).2 (.inl e))
        exact(aa.ag _ _ H).trans ((aa.ag _ _ H).trans I)
      . exact(aa.ag _ _ (Ne.symm a2)).trans ((aa.ag _ _ (Ne.symm a2)).trans g3)
      . rw[C]
        refine jm o (λz x I=>by cases I) λd hd=>⟨?_,rfl⟩
        have H:d≠l:=λe=>Y (e ▸ hd)
        exact(aa.ag _ _ H).trans (aa.ag _ _ H)
  . obtain⟨a,p,g1,g3,o⟩:=hI
    refine⟨a,p,by rw[he l ((p l).2 (.inl rfl))];exact g1,by rw[he j ((p j).2 (.inr (.inl rfl)))];exact g3,jm o (λy x hy=>by cases hy) λd hd=>⟨he d ((p d).2 (.inr (.inr hd))),rfl⟩⟩
  . obtain⟨a,p,g1,g3,o⟩:=hI
    rcases(p c).1 J with rfl|rfl|q
    . exact⟨_,g1,rfl⟩
    . exact⟨_,g3,rfl⟩
    . obtain⟨_,e,N⟩:=o.bc q
      exact⟨_,N,rfl⟩
 obtain⟨xb,cg,eA⟩:=LK.N1 hu;have nb:∀c,σ0 c=none->c≠b:=λc J e=>by subst e;rw[J]at cg;cases cg
 have cl:σ0.Le (((σ0.set j (.cells [.lit (.slice none 0 0)])).set r (.raw (.deferred (some [])))).set l (.loop al)):=(by repeat (first|exact aa.le_refl _|assumption|refine aa.ia ?_ (by assumption)|refine aa.jT ?_ (by assumption)))
 have sr:(((σ0.set j (.cells [.lit (.slice none 0 0)])).set r (.raw (.deferred (some [])))).set l (.loop al)) r=some (.raw (.deferred (some []))):=(aa.ag _ _ av).trans (aa.ak _ _ _)
 have eg:(((σ0.set j (.cells [.lit (.slice none 0 0)])).set r (.raw (.deferred (some [])))).set l (.loop al)) j=some (.cells [.lit (.slice none 0 0)]):=by rw[aa.ag _ _ (Ne.symm a2),aa.ag _ _ (Ne.symm a1),aa.ak]
 refine eL Tryz.func99 rfl rfl rfl (nK (F:=λc=>c=l\/c=j\/bX (.lit (.slice none 0 0))=some c) LK hg (by simp) hY ⟨rfl,rfl⟩ (LK.un (λc _ ⟨x,h1,_⟩=>(cl _ _ h1).trans h1.symm) hu) ⟨.lit (.slice none 0 0),λc=>Iff.rfl,aa.ak _ _ _,eg,⟨(λ_ _ hy=>by cases hy),.inl ⟨rfl,by simp[gI]⟩⟩⟩ λF' A cm eB cv=>?_)
 have ei:=(cm r _ sr (λe=>by rcases e with e|e|e;exact av e;exact a1 e;cases e) (nb r hr) (.inr rfl)).1
 have b0:lh b mb σ0 A:=λc x h1 h2 ej=>(cm c x (cl c x h1) (λe=>by rcases e with e|e|e<;>(try subst e)<;>simp_all [bX]) h2 ej).1
 rcases cv with⟨a,p,H,q3,o⟩|q
 . rw [List.take_length]at o
   subst b7;refine⟨_,H,by simp,rfl,?_⟩
   have a7:=o.cells;have ep:(A.del l) j=some (.cells [a]):=by simp only[aa.del,Ne.symm a2,if_false];exact q3
   have ad:=zM (ao f []) x y
   have et:σ.Le (A.del l):=λc x V=>by
    have b1:=Q c x V;have ev:c≠l:=λe=>by subst e;rw[hl]at b1;cases b1
    have c3:c≠b:=λe=>by subst e;rw[b5.1]at V;cases V
    have c4:c≠mb:=λe=>by subst e;rw[b5.2]at V;cases V
    simp only[aa.del,ev,if_false];exact b0 c x b1 c3 (.inl c4)
   refine ab.bY 10 (b:=j) a ep (by simp) a7.1 ?_
   have b2:((A.del l).del j) r=some (.raw (.deferred (some []))):=by simp only[aa.del,a1,av,if_false];exact ei
   have U:∀X,σ.Le ((((A.del l).del j)).set r X):=λX c x V=>by
    have c1:c≠r:=λe=>by subst e;rw[Q c x V]at hr;cases hr
    have c2:c≠j:=λe=>by subst e;rw[Q c x V]at b6;cases b6
    rw[aa.ag _ _ c1];simp only[aa.del,c2,if_false];exact et c x V
   simp only[qu]at h;cases a8:gI (ao f []) x y with
   | nil=>
     rw[a8]at h o
     have dd:a=.lit (.slice none 0 0)\/∃sp,a=.sl 1 [] sp:=by
      rcases o.2 with⟨q,_⟩|q|⟨_,_,_,q,_⟩
      . exact .inl q
      . exact .inr ⟨_,q⟩
      . exact .inr ⟨_,q⟩
     rcases dd with rfl|⟨sp,rfl⟩
     . refine ab.run lay [] ?_
       simp;exact⟨b2,.less (U _) (.done h)⟩
     . refine ab.run lay [] ?_
       simp;exact⟨b2,.less (U _) (.done h)⟩
   | cons w0 rs=>
     rw[a8]at h o;obtain⟨sp,rfl⟩:=Kl o (by simp)
     have eK:rs.length+1<=46656:=by rw[a8]at ad;simp at ad;omega
     have q5:(((rs.length:Int)+1)==0)=false:=by rw[beq_eq_false_iff_ne];omega
     have dj:∀z∈w0::rs,z.length<=6:=λz I=>by rw[<-a8]at I;unfold gI at I;obtain⟨w,hw,rfl⟩:=List.mem_map.1 I;have:=pM w (w.getD x 0);have:=b4 w (List.mem_filter.1 hw).1;omega
     refine ab.run lay [] ?_;simp[q5];refine rj lay rfl jO rfl cK (es:=ints w0::rs.map ints) (sp:=sp) (l:=1) (h:=rs.length+1) ?_ (λcap ey=>⟨rfl,⟨rfl,by simp⟩,⟨_,rfl⟩,by first|omega|(simp;omega)⟩) (by simp) ?_
     . simp
     refine aU.go lay [] ?_;simp;have eR:=dj w0 (by simp)
     rw[show List.take rs.length (List.map ints rs)=List.map ints rs from List.take_of_length_le (by simp)]
     refine an Tryz.func70 rfl rfl (zN (first:=w0) (others:=rs) (by omega) (by omega) (λz I=>?_) ?_)
     . have:=dj z (by simp[I]);omega
     refine aU.go lay [] ?_;simp;refine ab.run lay [] ?_;simp;exact⟨b2,.less (U _) (.done h)⟩
 . exact q.elim
end Go.Proofs.YtigilmjkokbblaaGreatDoor
namespace Go.Proofs.YtigilmjkokbblaaGreatDoor
open Go.bd Go.Conc
set_option maxHeartbeats 1000000
set_option maxRecDepth 4000
variable{m:Mo}{σ:aa}{KF:dV->aa->Prop}
def UW(L:List (List Int))(x y k:Nat):Bool:=decide (∀w∈L,bZ (x:Int) y w=true->bZ (x:Int) k w=true)
def Qc(L:List (List Int))(x y n:Nat):List Int:=((List.range n).filter (UW L x y)).map λk:Nat=>(k:Int)
theorem N5{L:List (List Int)}{n x y:Nat}(g:∀w∈L,w.length=n)(m:x<n){a:List Int}{r:List (List Int)}(h:gI L x y=a::r):cO a r=Qc L x y n:=by
 have e:∃w∈L,a=bK w (w.getD x 0):=by
  have o:a∈gI L x y:=by rw[h];simp
  unfold gI at o;obtain⟨w,i,rfl⟩:=List.mem_map.1 o;exact⟨w,(List.mem_filter.1 i).1,rfl⟩
 obtain⟨p,j,e⟩:=e;refine rv ?_ ?_ λz=>?_
 . unfold cO
   rw[e];exact List.Pairwise.filter _ (EZ _ _)
 . unfold Qc
   rw[List.pairwise_map];exact(List.Pairwise.filter _ List.pairwise_lt_range).imp λh=>by omega
 . constructor
   . intro c
     have d:z∈a:=by unfold cO at c;exact(List.mem_filter.1 c).1
     rw[e]at d;obtain⟨s,q,_⟩:=uW d;rw[g p j]at q;obtain⟨k,rfl⟩:∃k:Nat,z=(k:Int):=⟨z.toNat,by omega⟩
     have f:k<n:=by omega
     have:=(uY g m f h).1 c;unfold Qc;exact List.mem_map.2 ⟨k,List.mem_filter.2 ⟨List.mem_range.2 f,by unfold UW;rw[decide_eq_true_eq];exact this⟩,rfl⟩
   . intro c
     unfold Qc at c;obtain⟨k,f,rfl⟩:=List.mem_map.1 c;obtain⟨l,b⟩:=List.mem_filter.1 f;unfold UW at b;rw[decide_eq_true_eq]at b;exact(uY g m (List.mem_range.1 l) h).2 b
theorem CS{L:List (List Int)}{x y:Nat}:(gI L x y=[]↔(L.filter (bZ (x:Int) y)).length=0):=by rw[HT,HN]
def dG(f:Fr)(l:List Int):Int:=if ba f l≠0 then ba f l else if ao f []=[]then 11 else 0
theorem iL(j:m.solo=true){f:Fr}{l:List Int}{sp:cG}(g:f.Fits)(b:l.length<1152921504606846976)(hb:dG f l≠0)(h:∀σ',σ.Le σ'->KF (.val (.bG [.lit (.pointer none),int (dG f l)])) σ'):aB Tryz.prog m 62 [aC f,.sl 1 (l.map int) sp] σ KF:=by
 by_cases a:ba f l=0
 . have i:check f=0:=by
    unfold ba at a;split at a
    . next q=>exact absurd a q
    next q=>simpa using q
   have k:∀n∈l,0<=n/\n<f.aA.length:=by
    unfold ba at a;rw[if_neg (by simp[i])]at a
    split at a
    . next q=>intro n o;have:=jl.1 (List.all_eq_true.1 q n o);omega
    . cases a
   have e:dG f l=if ao f []=[]then 11 else 0:=by unfold dG;rw[if_neg (by simp[a])]
   by_cases c:ao f []=[]
   . rw[if_pos c]at e
     rw[e]at h;exact CB j g i k b c h
   . rw[if_neg c]at e
     exact absurd e hb
 . have e:dG f l=ba f l:=by unfold dG;rw[if_pos a]
   rw[e]at h;have d:(ba f l==0)=false:=by simpa using a
   refine aB.start lay [] [] 2 Tryz.func62 rfl rfl (by rfl) (by kernel_rfl) ?_
   simp[Tryz.f62];have p:Wl [AV.agg (bO f),.sl 1 (l.map int) sp] [aC f,ints l]:=.cons (.refl _) (.cons (ck 1 _ sp) .nil);refine aH Tryz.func49 rfl rfl p (gq g b (λq=>?_) λq=>absurd q a)
   refine ab.run lay [] ?_;simp[d];exact .done (h σ (aa.le_refl _))
theorem oy(f:Fr)(x y:Int):aV f true x y=dG f [x,y]:=by
 unfold aV dG ba;simp only[List.all_cons,List.all_nil,Bool.and_true,Bool.and_eq_true];by_cases a:check f=0
 . by_cases b:dz x 0 (f.aA.length-1)=true/\dz y 0 (f.aA.length-1)=true
   . simp[a,b]
   . simp[a,b]
 . simp[a]
theorem uZ(f:Fr)(x:Int):aV f true x x=dG f [x]:=by
 unfold aV dG ba;simp only[List.all_cons,List.all_nil,Bool.and_true];by_cases a:check f=0
 . by_cases b:dz x 0 (f.aA.length-1)=true
   . simp[a,b]
   . simp[a,b]
 . simp[a]
theorem fB(f:Fr):aV f false 0 0=dG f []:=by
 unfold aV dG ba;by_cases a:check f=0<;>simp[a]
theorem zO(g:m.solo=true){f:Fr}(b:f.Fits)(h:KF (.val (.bG [int (xc f).1,int (xc f).2])) σ):aB Tryz.prog m 25 [aC f] σ KF:=by
 unfold xc at h
 by_cases a:check f=0
 . rw[if_neg (by simp[a])]at h
   have c:=Fr.hQ b a;have j:=jo c [0,0];have k:=jo c [0,1];refine CU g b a ⟨by omega,by omega⟩ ?_
   rw[zK c];exact h
 . rw[if_pos a]at h
   have e:ba f []=check f:=by unfold ba;rw[if_pos a]
   have d:(check f !=0)=true:=by simpa using a
   refine aB.start lay [] [] 1 Tryz.func25 rfl rfl (by rfl) (by kernel_rfl) ?_
   simp[Tryz.f25];have i:Wl [AV.agg (bO f),AV.lit (.slice none 0 0)] [aC f,ints []]:=.cons (.refl _) (.cons (cW 1) .nil);refine aH Tryz.func49 rfl rfl i (gq b (by simp) (λ_=>?_) λq=>absurd (e ▸ q) a)
   rw[e];refine ab.run lay [] ?_;simp[d];exact .done h
theorem CV(d:m.solo=true){f:Fr}{x y:Int}(a:f.Fits)(h:KF (.val (.bG [int (CQ f x y).1,int (CQ f x y).2])) σ):aB Tryz.prog m 28 [aC f,int x,int y] σ KF:=by
 unfold CQ at h;by_cases hb:aV f true x y=0
 . rw[if_neg (by simp[hb])]at h
   obtain⟨e,j,k,g⟩:=xd hb;have n:=Fr.hQ a e;have hlen:=jo n [];have i:=List.length_pos_iff.2 g;have o:=List.length_filter_le (bZ x y) (ao f []);refine Gw d a e j k g (by omega) ?_;rw[ou (by omega) (by omega) (by omega)];exact h
 . rw[if_pos hb,oy]at h
   rw[oy]at hb;have b:(dG f [x,y]!=0)=true:=by simpa using hb
   refine aB.start lay [] [] 3 Tryz.func28 rfl rfl (by rfl) (by kernel_rfl) ?_;simp[Tryz.f28];refine an Tryz.func62 rfl rfl (iL (l:=[x,y]) (sp:=.exact) d a (by simp) hb λp c=>?_);refine ab.run lay [] ?_;simp[b];exact .less c (.done h)
theorem tT(d:m.solo=true){f:Fr}{x:Int}(a:f.Fits)(h:KF (.val (.bG [int (tR f x).1,int (tR f x).2])) σ):aB Tryz.prog m 30 [aC f,int x] σ KF:=by
 unfold tR at h;by_cases hb:aV f true x x=0
 . rw[if_neg (by simp[hb])]at h
   obtain⟨e,j,p,g⟩:=xd hb;have k:=Fr.hQ a e;have hlen:=jo k [];have i:=List.length_pos_iff.2 g;have n:=List.length_filter_le (tQ x) (ao f []);refine Kg d a e j g (by omega) ?_;rw[ou (by omega) (by omega) (by omega)];exact h
 . rw[if_pos hb,uZ]at h
   rw[uZ]at hb;have b:(dG f [x]!=0)=true:=by simpa using hb
   refine aB.start lay [] [] 2 Tryz.func30 rfl rfl (by rfl) (by kernel_rfl) ?_;simp[Tryz.f30];refine an Tryz.func62 rfl rfl (iL (l:=[x]) (sp:=.exact) d a (by simp) hb λo c=>?_);refine ab.run lay [] ?_;simp[b];exact .less c (.done h)
theorem E5(d:m.solo=true){f:Fr}(e:f.Fits)(g:aV f false 0 0≠0->KF (.val (.bG [ints [],int (aV f false 0 0)])) σ)(i:aV f false 0 0=0->KF (.val (.bG [ints (aX (fA (ao f [])) f.aA.length).1,int 0])) σ):aB Tryz.prog m 29 [aC f] σ KF:=by
 by_cases hb:aV f false 0 0=0
 . obtain⟨j,k⟩:=sM hb
   exact HV d e j k (i hb)
 . have h:=g hb
   rw[fB]at h;rw[fB]at hb;have a:(dG f []!=0)=true:=by simpa using hb
   refine aB.start lay [] [] 1 Tryz.func29 rfl rfl (by rfl) (by kernel_rfl) ?_;simp[Tryz.f29];have n:Wl [aC f,AV.lit (.slice none 0 0)] [aC f,.sl 1 (([]:List Int).map int) .any]:=.cons (.refl _) (.cons (cW 1) .nil);refine aH Tryz.func62 rfl rfl n (iL (l:=[]) (sp:=.any) d e (by simp) hb λo c=>?_);refine ab.run lay [] ?_;simp[a];exact .less c (.iI (tN (b:=.bC)) (.done h))
theorem CW(u:m.solo=true){f:Fr}{x y:Int}(j:f.Fits)(z:aV f true x y≠0->KF (.val (.bG [ints [],int (aV f true x y)])) σ)
 (k:aV f true x y=0->(ao f []).filter (bZ x y)=[]->KF (.val (.bG [ints [],int 11])) σ) (n:aV f true x y=0->(ao f []).filter (bZ x y)≠[]->KF (.val (.bG [ints (Qc (ao f []) x.toNat y.toNat f.aA.length),int 0])) σ):aB Tryz.prog m 31 [aC f,int x,int y] σ KF:=by
 by_cases hb:aV f true x y=0
 . obtain⟨v,D,E,o⟩:=xd hb
   have A:=Fr.hQ j v;have k:=k hb;have n:=n hb;obtain⟨d,rfl⟩:∃d:Nat,x=(d:Int):=⟨x.toNat,by omega⟩
   obtain⟨g,rfl⟩:∃g:Nat,y=(g:Int):=⟨y.toNat,by omega⟩
   have i:∀w∈ao f [],w.length=f.aA.length:=λw o=>(Ki A o).1
   refine aB.thaw (E4 u j v (by omega) (by omega) o ?_)
   cases c:gI (ao f []) d g with
   | nil=>
     have B:=List.length_eq_zero_iff.1 (CS.1 c);have e:qu (ao f []) d g=[.lit (.slice none 0 0),int 11]:=by unfold qu;rw[c]
     rw[e];exact .iI (tN (b:=.bC)) (.done (k B))
   | cons a r=>
     have p:(ao f []).filter (bZ (d:Int) g)≠[]:=λq=>by have:=CS.2 (List.length_eq_zero_iff.2 q);rw[c]at this;cases this
     have e:qu (ao f []) d g=[ints (cO a r),int 0]:=by unfold qu;rw[c]
     rw[e,N5 i (by omega) c]
     exact .done (n p)
 . have h:=z hb
   rw[oy]at h;rw[oy]at hb;have s:(dG f [x,y] !=0)=true:=by simpa using hb
   refine aB.start lay [] P6 3 Tryz.func31 rfl rfl (by rfl) (by kernel_rfl) ?_
   simp[Tryz.f31];refine an Tryz.func62 rfl rfl (iL (l:=[x,y]) (sp:=.exact) u j (by simp) hb λC t=>?_)
   refine ab.run lay [] ?_;simp[s];exact .less t (.iI (tN (b:=.bC)) (.done h))
theorem HW(g:m.solo=true){f:Fr}{w:List Int}(d:f.Fits)(i:check f≠0->KF (.val (.bG [ints [],int (check f)])) σ)(j:check f=0->jq f=some w->KF (.val (.bG [ints w,int 0])) σ)(e:jq f=some w):aB Tryz.prog m 32 [aC f] σ KF:=by
 by_cases a:check f=0
 . exact CX g d a e (j a e)
 . have h:=i a
   have c:(check f !=0)=true:=by simpa using a
   refine aB.start lay [] [] 1 Tryz.func32 rfl rfl (by rfl) (by kernel_rfl) ?_;simp[Tryz.f32];refine an Tryz.func21 rfl rfl (gF d ?_);refine ab.run lay [] ?_;simp[c];exact .iI (tN (b:=.bC)) (.done h)
theorem Km(c:m.solo=true){f:Fr}(d:f.Fits)(e:aV f false 0 0≠0->KF (.val (.bG [int 0,int 0,int 0,int (aV f false 0 0)])) σ)
 (g:aV f false 0 0=0->KF (.val (.bG (ow (ov (ao f [])) (ao f []).length ((ib f.aA.length f.aA.length).foldl (cY (ov (ao f []))) none)))) σ):aB Tryz.prog m 33 [aC f] σ KF:=by
 by_cases hb:aV f false 0 0=0
 . obtain⟨i,j⟩:=sM hb
   exact N3 c d i j (g hb)
 . have h:=e hb
   rw[fB]at h;rw[fB]at hb;have a:(dG f []!=0)=true:=by simpa using hb
   refine aB.start lay [] R3 1 Tryz.func33 rfl rfl (by rfl) (by kernel_rfl) ?_;simp[Tryz.f33];have k:Wl [aC f,AV.lit (.slice none 0 0)] [aC f,.sl 1 (([]:List Int).map int) .any]:=.cons (.refl _) (.cons (cW 1) .nil);refine aH Tryz.func62 rfl rfl k (iL (l:=[]) (sp:=.any) c d (by simp) hb λn b=>?_);refine ab.run lay [] ?_;simp[a];exact .less b (.done h)
theorem E6(k:m.solo=true){f:Fr}(e:f.Fits)(o:aV f false 0 0≠0->KF (.val (.bG [ints [],int 0,int (aV f false 0 0)])) σ)(b:∀w,aV f false 0 0=0->(ao f []).foldl fg none=some w->KF (.val (.bG [ints w,int (aM w),int 0])) σ):aB Tryz.prog m 27 [aC f] σ KF:=by
 by_cases hb:aV f false 0 0=0
 . obtain⟨n,p⟩:=sM hb
   have q:=Fr.hQ e n;have hlen:=jo q [];obtain⟨w,d,_⟩:=HP p;exact zP k e n d (by omega) (b w hb d)
 . have h:=o hb
   rw[fB]at h;rw[fB]at hb;have g:(dG f []!=0)=true:=by simpa using hb
   refine aB.start lay [] Qd 1 Tryz.func27 rfl rfl (by rfl) (by kernel_rfl) ?_;simp[Tryz.f27];have r:Wl [aC f,AV.lit (.slice none 0 0)] [aC f,.sl 1 (([]:List Int).map int) .any]:=.cons (.refl _) (.cons (cW 1) .nil);refine aH Tryz.func62 rfl rfl r (iL (l:=[]) (sp:=.any) k e (by simp) hb λs j=>?_);refine ab.run lay [] ?_;simp[g];refine .less j (.iI (a':=.bG [ints [],int 0,int (dG f [])]) (wQ rfl λi a a' b c=>?_) (.done h))
   match i with
   |0=>simp at b c;subst b;subst c;exact cW 1
   |1=>simp at b c;subst b;subst c;exact .refl _
   |2=>simp at b c;subst b;subst c;exact .refl _
   |i+3=>simp at b
theorem N6(g:List Int->Int)(L:List (List Int))(n:Int):L.foldl (λa x=>max a (g x)) n=-(L.foldl (λa x=>min a (-g x)) (-n)):=by rw[CP];omega
theorem xe(s:m.solo=true){f:Fr}(j:f.Fits)(h:KF (.val (N2 (vI f))) σ):aB Tryz.prog m 26 [aC f] σ KF:=by
 unfold vI at h
 by_cases hb:aV f false 0 0=0
 . rw[if_neg (by simp[hb])]at h
   obtain⟨t,k⟩:=sM hb;have A:=Fr.hQ j t;have hlen:=jo A [];have b:=List.length_pos_iff.2 k;obtain⟨w,g,_⟩:=rz aM k;obtain⟨v,i,_⟩:=rz Ek k;refine HK s j t g i (by omega) ?_
   have B:=zL b g;have u:=zL b i
   have n:(ao f []).headD []=(ao f [])[0]:=by
    match H:ao f [],b with
    |a::r,_=>rfl
   rw[n]at h
   have C:P9 (ao f []) (aM (ao f [])[0])=aM v:=by unfold P9;rw[N6];unfold Ek at u;rw[<-u];omega
   have D:R4 (ao f []) (aM (ao f [])[0])=aM w:=B.symm;rw[C,D]at h;exact h
 . rw[if_pos hb,fB]at h
   rw[fB]at hb;have o:(dG f [] !=0)=true:=by simpa using hb
   refine aB.start lay [] [] 1 Tryz.func26 rfl rfl (by rfl) (by kernel_rfl) ?_
   simp[Tryz.f26];refine bL.intro λy E=>?_
   simp;have F:Wl [aC f,AV.lit (.slice none 0 0)] [aC f,.sl 1 (([]:List Int).map int) .any]:=.cons (.refl _) (.cons (cW 1) .nil);refine aH Tryz.func62 rfl rfl F (iL (l:=[]) (sp:=.any) s j (by simp) hb λp d=>?_)
   have G:p y=some (.cells [int 0,int 0]):=d _ _ (aa.ak _ _ _);refine ab.run lay [] ?_;simp[o,G,aG];refine .less (λc x q=>?_) (.done h)
   have z:c≠y:=λe=>by subst e;rw[E]at q;cases q
   rw[aa.ag _ _ z];exact d _ _ ((aa.ag _ _ z).trans q)
end Go.Proofs.YtigilmjkokbblaaGreatDoor

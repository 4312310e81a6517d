import Derived.Test.YtebcbkhnlnkolaaGreatDoorCards
import Derived.Test.YtebcbkhnlnkolaaGreatDoorTie
import Derived.Test.YtebcbkhnlnkolaaGreatDoorF1
set_option linter.all false
set_option maxHeartbeats 2000000
set_option maxRecDepth 4000
namespace Go.Proofs.YtebcbkhnlnkolaaGreatDoor
section
open Go.bU Go.Conc
section
variable{w:fA}
theorem JI(a:w.Valid){h}{i c:Nat}(hi:(i:Int)∈bo w h)(b:(c:Int)∈bz w h):qv (aI (gZ w h) []) ((bo w h).idxOf (i:Int)) ((bo w h).length+(bz w h).idxOf (c:Int))=dG w h i c:=by
 have e:=a.lu;have f:=a.sa.1;have g:=eI hi;have d:=iG b;rw[xm a ⟨by omega,by omega⟩ ⟨by omega,by omega⟩,aav ⟨hi,b⟩];unfold B8;rw[uU hi,uV (λj q=>(eI q).2) d.1]
theorem EE{c a b:Nat}(d:foundAt w c a b){h i:Nat}(hi:i<w.fair.au.length)(e:dG w h i c=1):a<=h:=by
 rcases abk h a with q|q
 . exact absurd e (d.2 h i (.inl q) hi)
 . exact q
theorem EF(a:w.Valid){c d b}(g:c<w.aB.length)(hi:b<w.fair.au.length)(e:foundAt w c d b){h}(f:(d:Int)<=h):dG w h b c=1:=by have i:=a.lu;have j:=a.sa.1;exact JH a f ⟨by omega,by omega⟩ ⟨by omega,by omega⟩ e.1
theorem EG(a:w.Valid){c b d}(f:c<w.aB.length)(hi:d<w.fair.au.length)(e:foundAt w c b d):(d:Int)∈bo w b/\(c:Int)∈bz w b:=by have g:=a.lu;have h:=a.sa.1;exact((ED a ⟨by omega,by omega⟩ ⟨by omega,by omega⟩).1 e.1).1
end
end
open Go Go.bU Go.Conc
variable{m:Mo}{σ:ab}{KF:adC}
namespace LT
abbrev X8:adH:=[⟨9,.take [0,1,2,3,4,5,6,7,8,9,10,11,12,13,14,15] true (.done)⟩,⟨11,.take [0,2,3,4,5,6,7,8,9,10,13] false (.both 1 (.one 11 (.one 12 (.one 14 (.done)))) (.one 11 (.take [1] true (.one 12 (.one 14 (.done))))))⟩,⟨15,.take [0,1,2,3,4,5,6,7,8,9,10,11,12,13,14] true (.done)⟩,⟨17,.take [0,2,3,4,5,6,7,8,9,10,13] false (.both 1 (.one 11 (.one 12 (.one 14 (.done)))) (.one 11 (.take [1] true (.one 12 (.one 14 (.done))))))⟩]
theorem Bn(hs:m.solo=true){w}(P:w.Valid)(hk:iS w=0){h}(hh:0<=h/\h<=72)(hK:KF (.val (.cI [bF (gZ w h),ints (bo w h),ints (bz w h),bool true])) σ):aA Tryz.prog m 20 [cA w,int h] σ KF:=by
 have o1:dZ w [h] [] []=0:=ou hk (by simp;omega) (by simp) (by simp)
 have hE:∀x∈bo w h,0<=x/\x<(w.fair.au.length:Int):=λx=>eI
 have hC:∀x∈bz w h,0<=x/\x<(w.aB.length:Int):=λx=>iG
 have a7:=mz w h;have a8:=mC w h;have h6:=P.lu;refine aA.start lay [] X8 2 Tryz.func20 rfl rfl (by rfl) (by kernel_rfl) ?_
 simp[Tryz.f20];refine bV.intro λb hb=>?_
 simp;refine aj Tryz.func23 rfl rfl (u6 hs P.uW P.open.lu o1 ?_);rw[P.kE,P.kC];unfold gZ at hK;generalize bo w h=E at *;generalize bz w h=C at *;have z1:¬w.fair.au.length<E.length:=by omega
 have z2:¬w.aB.length<C.length:=by omega
 refine aa.run lay [] ?_;simp;refine bV.intro λd H=>?_
 obtain⟨n1,n2,hd⟩:=ab.aS H;simp[n1,n2,ab.ah,z1,z2,aK];refine aa.loop E.length (λk s=>∃env t a,s=⟨env,t,[],.no⟩/\(env 2=.cp (cA w) 0/\env 4=.ref b 0/\env 8=ints E/\env 9=ints C/\env 11=.ref d 0/\env 12=int k)/\t d=some (.cells (a::sd w.fair))/\Go.bU.Tok (σ.set b (.cells vu)) t a 6 ((E.take k).map λi=>aZ (aM w.fair i))) ⟨_,_,_,rfl,⟨by simp,by simp,by simp,by simp,by simp,by simp⟩,ab.ai _ _ _,(Tok.nil _ _).beside H (by simp[br])⟩ ?_
 rintro c0 k _ a9 ⟨env,t,a,rfl,⟨l,n,o,p,aF,aT⟩,j,g⟩ ih
 have f:=g.cells;refine aa.run lay [] ?_;simp[l,n,o,p,aF,aT,j,f.1,f.2];refine aG.intro (λJ=>?_) (λJ=>?_)<;>(try simp[-Int.not_lt,-Int.not_le,-Nat.not_lt,-Nat.not_le]at J)<;>(try simp[l,n,o,p,aF,aT,j,f.1,f.2,J])
 . obtain⟨x,I⟩:∃x,x=E[k]:=⟨_,rfl⟩
   have u:=hE x (I ▸ zj J);have B:E[k]?=some x:=by rw[I];exact zR J
   have D:x.toNat<w.fair.au.length:=by omega
   have U:aM w.fair x=w.fair.au[x.toNat]:=by simp[aM,D]
   have F:w.fair.au[x.toNat]?=some w.fair.au[x.toNat]:=zR D;have V:¬x<0:=by omega
   have X:¬(w.fair.au.length:Int)<=x:=by omega
   have K:(E.take (k+1)).map (λi=>aZ (aM w.fair i))=(E.take k).map (λi=>aZ (aM w.fair i))++[aZ w.fair.au[x.toNat]]:=by rw[zG J,aaB,<-I,<-U];rfl
   have L:br a≠some d:=λe=>by obtain⟨_,_,q⟩:=g.aW e;rw[j]at q;cases q
   simp only[<-I];simp[l,n,o,p,aF,aT,j,f.1,f.2,V,X,B,F,u.1,u.2];refine aa.run lay [] ?_;simp[l,n,o,p,aF,aT,j,f.1,f.2,B,F,u.1,u.2];refine⟨?_,?_⟩
   all_goals
    refine aR lay rfl rfl rfl lH rfl lH rfl xd (by decide) (by simp only[abh,abP,aby,abJ];omega) (σ0:=t.off a) (es:=(E.take k).map λi=>aZ (aM w.fair i)) (xs:=[aZ w.fair.au[x.toNat]]) (by simpa using g.here.1) (.inr ⟨_,by simp;rfl⟩) λa' M z=>?_
    have G:=z.cells;have Q:M d=some (.cells (a::sd w.fair)):=z.1 _ _ (by rw[ab.dQ L];exact j)
    have A:=z.base g.here.2;rw[<-K]at A;refine aP.go lay [] ?_;simp[l,n,o,p,aF,aT,j,f.1,f.2,Q,G.1,G.2,aK];refine aa.run lay [] ?_;simp[l,n,o,p,aF,aT,j,f.1,f.2];refine⟨by omega,ih _ J ⟨_,_,a',rfl,⟨by simp[l,n,o,p,aF,aT,j,f.1,f.2],by simp[l,n,o,p,aF,aT,j,f.1,f.2],by simp[l,n,o,p,aF,aT,j,f.1,f.2],by simp[l,n,o,p,aF,aT,j,f.1,f.2],by simp[l,n,o,p,aF,aT,j,f.1,f.2],by simp⟩,ab.ai _ _ _,A.beside H (λe=>by obtain⟨_,_,q⟩:=A.aW e;rw[Q]at q;cases q)⟩⟩
 . have ek:k=E.length:=by omega
   subst ek;rw[aaD]at g
   refine aa.loop C.length (λk s=>∃env t a,s=⟨env,t,[],.no⟩/\(env 2=.cp (cA w) 0/\env 4=.ref b 0/\env 8=ints E/\env 9=ints C/\env 11=.ref d 0/\env 13=int k)/\t d=some (.cells (a::sd w.fair))/\Go.bU.Tok (σ.set b (.cells vu)) t a 6 (E.map (λi=>aZ (aM w.fair i))++(C.take k).map λc=>aZ (nO w c).lost)) ⟨_,_,a,rfl,⟨by simp[l,n,o,p,aF,aT,j,f.1,f.2],by simp[l,n,o,p,aF,aT,j,f.1,f.2],by simp[l,n,o,p,aF,aT,j,f.1,f.2],by simp[l,n,o,p,aF,aT,j,f.1,f.2],by simp[l,n,o,p,aF,aT,j,f.1,f.2],by simp⟩,j,by simpa using g⟩ ?_
   clear l n o p aF aT j f g env
   rintro Y k _ ad ⟨env,R,a,rfl,⟨l,n,o,p,aF,r⟩,j,g⟩ Z
   have f:=g.cells;refine aa.run lay [] ?_;simp[l,n,o,p,aF,r,j,f.1,f.2];refine aG.intro (λN=>?_) (λN=>?_)<;>(try simp[-Int.not_lt,-Int.not_le,-Nat.not_lt,-Nat.not_le]at N)<;>(try simp[l,n,o,p,aF,r,j,f.1,f.2,N])
   . obtain⟨x,I⟩:∃x,x=C[k]:=⟨_,rfl⟩
     have u:=hC x (I ▸ zj N);have B:C[k]?=some x:=by rw[I];exact zR N
     have D:x.toNat<w.aB.length:=by omega
     have U:nO w x=w.aB[x.toNat]:=by simp[nO,D]
     have F:w.aB[x.toNat]?=some w.aB[x.toNat]:=zR D;have V:¬x<0:=by omega
     have X:¬(w.aB.length:Int)<=x:=by omega
     have K:E.map (λi=>aZ (aM w.fair i))++(C.take (k+1)).map (λc=>aZ (nO w c).lost)=(E.map (λi=>aZ (aM w.fair i))++(C.take k).map (λc=>aZ (nO w c).lost))++[aZ w.aB[x.toNat].lost]:=by rw[zG N,aaB,<-I,<-U,ace];rfl
     have L:br a≠some d:=λe=>by obtain⟨_,_,q⟩:=g.aW e;rw[j]at q;cases q
     simp only[<-I];simp[l,n,o,p,aF,r,j,f.1,f.2,V,X,B,F,u.1,u.2];refine aa.run lay [] ?_;simp[l,n,o,p,aF,r,j,f.1,f.2,B,F,u.1,u.2];refine⟨?_,?_⟩
     all_goals
      refine aR lay rfl rfl rfl lH rfl lH rfl xd (by decide) (by simp only[abh,abg,abP,aby,abJ];omega) (σ0:=R.off a) (es:=E.map (λi=>aZ (aM w.fair i))++(C.take k).map λc=>aZ (nO w c).lost) (xs:=[aZ w.aB[x.toNat].lost]) (by simpa using g.here.1) (.inr ⟨_,by simp;rfl⟩) λa' M z=>?_
      have G:=z.cells;have Q:M d=some (.cells (a::sd w.fair)):=z.1 _ _ (by rw[ab.dQ L];exact j)
      have A:=z.base g.here.2;rw[<-K]at A;refine aP.go lay [] ?_;simp[l,n,o,p,aF,r,j,f.1,f.2,Q,G.1,G.2,aK];refine aa.run lay [] ?_;simp[l,n,o,p,aF,r,j,f.1,f.2];refine⟨by omega,Z _ N ⟨_,_,a',rfl,⟨by simp[l,n,o,p,aF,r,j,f.1,f.2],by simp[l,n,o,p,aF,r,j,f.1,f.2],by simp[l,n,o,p,aF,r,j,f.1,f.2],by simp[l,n,o,p,aF,r,j,f.1,f.2],by simp[l,n,o,p,aF,r,j,f.1,f.2],by simp⟩,ab.ai _ _ _,A.beside H (λe=>by obtain⟨_,_,q⟩:=A.aW e;rw[Q]at q;cases q)⟩⟩
   . have ek:k=C.length:=by omega
     subst ek;rw[aaD]at g;have qb:R b=some (.cells vu):=g.1 _ _ (ab.ai _ _ _)
     have hz:a.W (jH (E.map (aM w.fair)++C.map λc=>(nO w c).lost)):=by
      have:=g.W;show a.W (.sl 6 ((E.map (aM w.fair)++C.map λc=>(nO w c).lost).map aZ) .any)
      rw[aaB,acL,acL];exact this
     simp[l,n,o,p,aF,r,j,f.1,f.2,qb,aK];refine .oo (a':=.cI [bF (bE w E C),ints E,ints C,bool true]) (GQ rfl λi x y T S=>?_) (.less (λc v O=>?_) (.done hK))
     . match i with
       |0=>simp at T S;subst T;subst S;exact Ci hz
       |i+1=>simp at T S;rw[T]at S;cases S;exact .refl _
     . have Y:c≠b:=λe=>by rw[e,hb]at O;cases O
       rw[ab.ah _ _ Y];exact g.1 _ _ (by rw[ab.ah _ _ Y];exact O)
end LT
theorem Iz{x}(h:0<=x/\x<=1000000):nR .quo .i64 x 2=some (.int .i64 (x.tdiv 2)):=by
 have:x.tdiv 2=x / 2:=Int.tdiv_eq_ediv_of_nonneg (by omega);show(if(2:Int)=0 then none else some (Value.int .i64 (IntKind.i64.wrap (x.tdiv 2))))=_;rw[aau (by decide),wrap_i64 (by omega)]
def yV(w:fA)(c:Nat)(d f e:Int):Prop:=(e=0/\∃a b:Nat,d=a/\f=b/\a<73/\b<w.fair.au.length/\foundAt w c a b)\/(e=11/\d=0/\f=0/\∀g h:Nat,g<73->h<w.fair.au.length->dG w g h c≠1)
theorem JJ{w}(g:w.Valid){c}(j:c<w.aB.length){a d e}(h:yV w c a d e){t i:Int}(n:0<=t/\t<=72)(hi:0<=i/\i<w.fair.au.length):(dG w t i c=1->e=0/\a<=t)/\(e=0->a<=t->i=d->dG w t i c=1):=by
 obtain⟨T,rfl⟩:∃T:Nat,t=T:=⟨t.toNat,by omega⟩;obtain⟨I,rfl⟩:∃I:Nat,i=I:=⟨i.toNat,by omega⟩;rcases h with⟨rfl,o,k,rfl,rfl,p,l,f⟩|⟨rfl,rfl,rfl,b⟩
 . refine⟨λq=>⟨rfl,?_⟩,λ_ m r=>?_⟩
   . have:=EE f (h:=T) (i:=I) (by omega) q;omega
   . have e:I=k:=by omega
     subst e;exact EF g j l f m
 . exact⟨λq=>absurd q (b T I (by omega) (by omega)),(λq=>by cases q)⟩
theorem MI{w}(d:w.Valid){c}(f:c<w.aB.length){a b e}(h:yV w c a b e)(g:e=0):b∈bo w a/\(c:Int)∈bz w a:=by
 rcases h with⟨rfl,k,l,rfl,rfl,m,i,j⟩|⟨rfl,_,_,_⟩
 . exact EG d f i j
 . cases g
theorem EH(hs:m.solo=true){X}(hn:X.length<1152921504606846976)(h:∀σ',KF (.val (bool true)) σ'):ot Tryz.prog lay m 4 [ints X] σ KF:=by
 refine ot.start lay [] pl4 1 Tryz.func4 rfl rfl (by rfl) (by kernel_rfl) ?_
 simp[Tryz.f4];refine aj Tryz.func10 rfl rfl (uZ λc c7 hc hb a8=>?_)
 refine aa.run lay [] ?_;simp;refine aj Tryz.func11 rfl rfl (WA.sM (by omega) hn ⟨by omega,by omega⟩ hb λw own lost c9 hm hd=>?_)
 refine aa.runN lay [] 8 ?_;simp;refine bV.intro λd aC=>?_
 simp[aK]
 change aa _ _ _ _ _ _ _ _ _
 refine aa.bg 3 (b:=d) (cA w) (ab.ai _ _ _) (by simp) rfl ?_
 rw[du aC];have K:=hm.valid;have hk:=hm.xp;have hO:=K.open;have c3:=K.sa.1;have h6:=K.lu;clear hm hd hb a8 hc aC;refine aa.run lay [] ?_;simp;refine aa.ia (λenv _=>env 3=.cp (cA w) 0/\env 6=int 0) ?_ ?_
 . exact⟨by simp,by simp⟩
 rintro env a9 ⟨l,n⟩
 refine aa.loop w.aB.length (λc s=>∃env σ',s=⟨env,σ',[],.no⟩/\env 3=.cp (cA w) 0/\env 6=int c) ⟨env,a9,rfl,l,n⟩ ?_
 clear l n env a9
 rintro c0 c _ ca ⟨env,a9,rfl,l,n⟩ ih
 refine aa.run lay [] ?_;simp[l,n];refine aG.intro (λg1=>?_) (λg1=>?_)<;>(try simp[-Int.not_lt,-Int.not_le,-Nat.not_lt,-Nat.not_le]at g1)<;>(try simp[l,n,g1])
 . have oc : dZ w [] [] [(c:Int)]=0:=ou hk (by simp) (by simp) (by simp;omega)
   have b7:(0:Int)<=c/\(c:Int)<3:=by omega
   obtain⟨J,S⟩:∃J:adA,J=λenv _=>env 3=.cp (cA w) 0/\env 6=int c/\env 11=int 0/\∃D F e L,env 7=int D/\env 8=int F/\env 9=int e/\env 10=ints L/\L.length=5/\(∀x∈L,x<=72)/\yV w c D F e:=⟨_,rfl⟩
   have aE:∀u Y:Nat,u<73->Y<w.fair.au.length->foundAt w c u Y->yV w c u Y 0:=λu Y M q2 q3=>.inl ⟨rfl,u,Y,rfl,rfl,M,q2,q3⟩
   have aL:(∀h' i':Nat,h'<73->i'<w.fair.au.length->dG w h' i' c≠1)->yV w c 0 0 11:=λq=>.inr ⟨rfl,rfl,rfl,q⟩
   have b8:∀u:Nat,u<73->∀x∈[0,(u:Int)-1,(u:Int),((u:Int)+72).tdiv 2,72],x<=72:=λu q x hx=>by
    have:((u:Int)+72).tdiv 2=((u:Int)+72) / 2:=Int.tdiv_eq_ediv_of_nonneg (by omega)
    simp only[abp,acn,or_false]at hx;omega
   have b9:∀u:Nat,u<73 -> ¬72<(u:Int)/\¬(u:Int)<0/\(-9223372036854775808<=(u:Int)-1/\(u:Int)-1<=9223372036854775807)/\(-9223372036854775808<=(u:Int)+72/\(u:Int)+72<=9223372036854775807)/\(-9223372036854775808<=((u:Int)+72).tdiv 2/\((u:Int)+72).tdiv 2<=9223372036854775807):=λu q=>by
    have:((u:Int)+72).tdiv 2=((u:Int)+72) / 2:=Int.tdiv_eq_ediv_of_nonneg (by omega)
    omega
   have ad:∀u:Nat,u<73->nR .quo .i64 ((u:Int)+72) 2=some (.int .i64 (((u:Int)+72).tdiv 2)):=λu q=>Iz (by omega)
   have T:nR .quo .i64 72 2=some (.int .i64 36):=Iz (x:=72) (by omega)
   refine JK (P:=?P2) (λkey=>?f2) ?p2
   case f2=>
    refine aj Tryz.func19 rfl rfl (Bo hs K.uW hO b7 oc (λu Y M q2 q3=>?_) λq=>?_)
    . have z1:=b9 u M
      have zH:=ad u M;refine aa.run lay [] ?_;simp[l,n,z1,zH];refine aa.Gc 10 (a':=ints [0,(u:Int)-1,(u:Int),((u:Int)+72).tdiv 2,72]) (by simp;exact eY 1 _ .exact) ?_
      refine aa.ia J (by rw[S];exact⟨by simp[l,n],by simp[l,n],by simp,(u:Int),(Y:Int),0,_,by simp,by simp,by simp,by simp,rfl,b8 u M,aE u Y M q2 q3⟩) ?_
      exact key
    . refine aa.run lay [] ?_
      simp[l,n,T];refine aa.Gc 10 (a':=ints [0,-1,0,36,72]) (by simp;exact eY 1 _ .exact) ?_
      refine aa.ia J (by rw[S];exact⟨by simp[l,n],by simp[l,n],by simp,0,0,11,[0,-1,0,36,72],by simp,by simp,by simp,by simp,rfl,by decide,aL q⟩) ?_
      exact key
   case p2=>
   rw[S];clear l n env S J
   rintro env v ⟨l,n,aF,D,F,e,L,o,p,r,aJ,cb,bb,hF⟩
   refine aa.loop 5 (λk s=>∃env σ',s=⟨env,σ',[],.no⟩/\env 3=.cp (cA w) 0/\env 6=int c/\env 7=int D/\env 8=int F/\env 9=int e/\env 10=ints L/\env 11=int k) ⟨env,v,rfl,l,n,o,p,r,aJ,aF⟩ ?_
   clear l n o p r aJ aF env v
   rintro c1 k _ cg ⟨env,v,rfl,l,n,o,p,r,aJ,aF⟩ G
   refine aa.run lay [] ?_;simp[l,n,o,p,r,aJ,aF];refine aG.intro (λg2=>?_) (λg2=>?_)<;>(try simp[-Int.not_lt,-Int.not_le,-Nat.not_lt,-Nat.not_le]at g2)<;>(try simp[l,n,o,p,r,aJ,aF,g2])
   . obtain ⟨t,ht⟩:∃t,t=L[k]:=⟨_,rfl⟩
     have U:=bb t (ht ▸ zj g2);have y:L[k]?=some t:=by rw[ht];exact zR g2
     simp only[<-ht];refine aG.intro (λg3=>?_) (λg3=>?_)<;>(try simp[-Int.not_lt,-Int.not_le,-Nat.not_lt,-Nat.not_le]at g3)<;>(try simp[l,n,o,p,r,aJ,aF,g3])
     . refine⟨by omega,G _ (by omega) ⟨_,_,rfl,by simp[l,n,o,p,r,aJ,aF],by simp[l,n,o,p,r,aJ,aF],by simp[l,n,o,p,r,aJ,aF],by simp[l,n,o,p,r,aJ,aF],by simp[l,n,o,p,r,aJ,aF],by simp[l,n,o,p,r,aJ,aF],by simp⟩⟩
     . have al:0≤t/\t<=72:=by omega
       obtain⟨J,S⟩:∃J:adA,J=λenv _=>env 3=.cp (cA w) 0/\env 6=int c/\env 7=int D/\env 8=int F/\env 9=int e/\env 10=ints L/\env 11=int k/\env 12=.cp (bF (gZ w t)) 0/\env 13=ints (bo w t)/\env 14=ints (bz w t)/\env 15=bool true:=⟨_,rfl⟩
       refine JK (P:=?P3) (λkey=>?f3) ?p3
       case f3=>
        simp[l,n,o,p,r,aJ,aF,y];refine⟨?_,?_⟩
        . refine aj Tryz.func20 rfl rfl (LT.Bn hs K hk al ?_)
          refine aP.go lay [] ?_;simp[l,n,o,p,r,aJ,aF];refine qw.intro λb hb=>?_
          simp[l,n,o,p,r,aJ,aF,aK];refine aa.bg 12 (b:=b) (bF (gZ w t)) (ab.ai _ _ _) (by simp) rfl ?_
          rw[du hb];refine aa.ia J (by rw[S];exact⟨by simp[l,n,o,p,r,aJ,aF],by simp[l,n,o,p,r,aJ,aF],by simp[l,n,o,p,r,aJ,aF],by simp[l,n,o,p,r,aJ,aF],by simp[l,n,o,p,r,aJ,aF],by simp[l,n,o,p,r,aJ,aF],by simp[l,n,o,p,r,aJ,aF],by simp,by simp,by simp,by simp⟩) ?_
          exact key
        . refine qw.intro λb hb=>?_
          simp[l,n,o,p,r,aJ,aF,aK];refine aj Tryz.func20 rfl rfl (LT.Bn hs K hk al ?_);refine aP.go lay [] ?_;simp[l,n,o,p,r,aJ,aF,aK];refine aa.bg 12 (b:=b) (bF (gZ w t)) (ab.ai _ _ _) (by simp) rfl ?_
          rw[du hb];refine aa.ia J (by rw[S];exact⟨by simp[l,n,o,p,r,aJ,aF],by simp[l,n,o,p,r,aJ,aF],by simp[l,n,o,p,r,aJ,aF],by simp[l,n,o,p,r,aJ,aF],by simp[l,n,o,p,r,aJ,aF],by simp[l,n,o,p,r,aJ,aF],by simp[l,n,o,p,r,aJ,aF],by simp,by simp,by simp,by simp⟩) ?_
          exact key
       case p3=>
       rw[S];clear l n o p r aJ aF env S J v
       rintro env v ⟨l,n,o,p,r,aJ,aF,aT,g,bX,dw⟩
       have aO:=λ(i:Int) Z=>JJ K g1 hF al (i:=i) Z
       have W:e=0->D=t->F∈bo w t/\(c:Int)∈bz w t:=λM q2=>by rw[<-q2];exact MI K g1 hF M
       have O:=λ(i:Nat) Z hc=>JI K (h:=t) (i:=i) (c:=c) Z hc
       have bm:=mz w t;have bq:=mC w t;have b0:∀x∈bo w t,0<=x/\x<(w.fair.au.length:Int):=λx=>eI
       have b1:=ui w t;have hg:=iu K t;have b2:=(iH w t).len;have av:=xE hg []
       have b3:aI (gZ w t) []≠[]:=by
        have:=(hO.bk t).some
        rwa [K.kE,K.kC]at this
       obtain⟨E,hE⟩:∃E,E=bo w t:=⟨_,rfl⟩;obtain⟨C,hC⟩:∃C,C=bz w t:=⟨_,rfl⟩;obtain⟨f,hf⟩:∃f,f=gZ w t:=⟨_,rfl⟩;rw[<-hE]at g bm b0 b1 W;simp only[<-hE]at O;rw[<-hC]at bX bq W;simp only[<-hC]at O;rw[<-hf]at aT hg av b3 b2;simp only[<-hf]at O;have bw:∀(i:Nat) (Z:i<E.length),E.idxOf E[i]=i:=λi Z=>b1.idxOf_getElem i Z
       have cm:f.au.length=E.length+C.length:=by rw[b2,abg,abh,<-hE,<-hC]
       refine aa.run lay [] ?_;simp[l,n,o,p,r,aJ,aF,aT,g,bX,dw];refine aj Tryz.func21 rfl rfl (fU (by omega) ?_)
       refine aa.run lay [] ?_;simp[l,n,o,p,r,aJ,aF,aT,g,bX,dw]
       by_cases Q:(c:Int)∈C
       . have a7:iJ C c=(C.idxOf (c:Int):Int):=by unfold iJ;rw[yT _ _ _ Q];omega
         have bA:=List.idxOf_lt_length_iff.2 Q;obtain⟨N,hN⟩:∃N,N=C.idxOf (c:Int):=⟨_,rfl⟩;rw[<-hN]at a7 bA;simp only[<-hN]at O;rw[a7];have bB:¬(N:Int)<0:=by omega
         refine aa.loop E.length (λi s=>∃env σ',s=⟨env,σ',[],.no⟩/\env 3=.cp (cA w) 0/\env 6=int c/\env 7=int D/\env 8=int F/\env 9=int e/\env 10=ints L/\env 11=int k/\env 12=.cp (bF f) 0/\env 13=ints E/\env 14=ints C/\env 16=int N/\env 17=int i) ?_ ?_
         . exact⟨_,_,rfl,by simp[l,n,o,p,r,aJ,aF,aT,g,bX,dw],by simp[l,n,o,p,r,aJ,aF,aT,g,bX,dw],by simp[l,n,o,p,r,aJ,aF,aT,g,bX,dw],by simp[l,n,o,p,r,aJ,aF,aT,g,bX,dw],by simp[l,n,o,p,r,aJ,aF,aT,g,bX,dw],by simp[l,n,o,p,r,aJ,aF,aT,g,bX,dw],by simp[l,n,o,p,r,aJ,aF,aT,g,bX,dw],by simp[l,n,o,p,r,aJ,aF,aT,g,bX,dw],by simp[l,n,o,p,r,aJ,aF,aT,g,bX,dw],by simp[l,n,o,p,r,aJ,aF,aT,g,bX,dw],by simp,by simp⟩
         clear l n o p r aJ aF aT g bX dw env v
         rintro c2 i _ Z ⟨env,v,rfl,l,n,o,p,r,aJ,aF,aT,g,bX,bJ,j⟩ H
         refine aa.run lay [] ?_
         by_cases B:i<E.length
         . obtain⟨x,hx⟩:∃x,x=E[i]:=⟨_,rfl⟩
           have b4:x∈E:=by rw[hx];exact zj B
           have ax:E[i]?=some x:=by rw[hx];exact zR B
           have c5:=b0 x b4;have b5:((x.toNat:Nat):Int)=x:=by omega
           have hV:=O x.toNat (by rw[b5];exact b4) Q
           rw[b5,hx,bw i B,<-hx]at hV;obtain⟨V,b6⟩:∃V,V=dG w t x c:=⟨_,rfl⟩;rw[<-b6]at hV;obtain⟨k1,k2⟩:=aO x c5;rw[<-b6]at k1 k2
           have c6:gV (((aI f []).filter (fL (i:Int) ((E.length:Int)+N))).length:Int) (aI f []).length=V:=by rw[<-hV];unfold qv;push_cast;rfl
           simp[l,n,o,p,r,aJ,aF,aT,g,bX,bJ,j,B];refine⟨by omega,?_⟩
           refine aj Tryz.func22 rfl rfl (IA hs hg.fits hg.xp ⟨by omega,by omega⟩ ⟨by omega,by omega⟩ b3 (by omega) ?_)
           rw[c6]
           by_cases v1:V=1
           . obtain⟨he,I⟩:=k1 v1
             have M:¬t<D:=by omega
             subst he;rw[v1]
             by_cases x1:x=F
             . refine aa.run lay [] ?_
               simp[l,n,o,p,r,aJ,aF,aT,g,bX,bJ,j,y,ax,M,I,x1]
               refine⟨by omega,H _ B ⟨_,_,rfl,by simp[l,n,o,p,r,aJ,aF,aT,g,bX,bJ,j],by simp[l,n,o,p,r,aJ,aF,aT,g,bX,bJ,j],by simp[l,n,o,p,r,aJ,aF,aT,g,bX,bJ,j],by simp[l,n,o,p,r,aJ,aF,aT,g,bX,bJ,j],by simp[l,n,o,p,r,aJ,aF,aT,g,bX,bJ,j],by simp[l,n,o,p,r,aJ,aF,aT,g,bX,bJ,j],by simp[l,n,o,p,r,aJ,aF,aT,g,bX,bJ,j],by simp[l,n,o,p,r,aJ,aF,aT,g,bX,bJ,j],by simp[l,n,o,p,r,aJ,aF,aT,g,bX,bJ,j],by simp[l,n,o,p,r,aJ,aF,aT,g,bX,bJ,j],by simp[l,n,o,p,r,aJ,aF,aT,g,bX,bJ,j],by simp⟩⟩
             . have x2:(x==F)=false:=by rw[beq_eq_false_iff_ne];exact x1
               refine aa.run lay [] ?_;simp[l,n,o,p,r,aJ,aF,aT,g,bX,bJ,j,y,ax,M,I,x2]
               refine⟨by omega,H _ B ⟨_,_,rfl,by simp[l,n,o,p,r,aJ,aF,aT,g,bX,bJ,j],by simp[l,n,o,p,r,aJ,aF,aT,g,bX,bJ,j],by simp[l,n,o,p,r,aJ,aF,aT,g,bX,bJ,j],by simp[l,n,o,p,r,aJ,aF,aT,g,bX,bJ,j],by simp[l,n,o,p,r,aJ,aF,aT,g,bX,bJ,j],by simp[l,n,o,p,r,aJ,aF,aT,g,bX,bJ,j],by simp[l,n,o,p,r,aJ,aF,aT,g,bX,bJ,j],by simp[l,n,o,p,r,aJ,aF,aT,g,bX,bJ,j],by simp[l,n,o,p,r,aJ,aF,aT,g,bX,bJ,j],by simp[l,n,o,p,r,aJ,aF,aT,g,bX,bJ,j],by simp[l,n,o,p,r,aJ,aF,aT,g,bX,bJ,j],by simp⟩⟩
           . have v2:(V==1)=false:=by rw[beq_eq_false_iff_ne];exact v1
             by_cases he:e=0
             . subst he
               by_cases I:D<=t
               . have x2:(x==F)=false:=by rw[beq_eq_false_iff_ne];exact λq=>v1 (k2 rfl I q)
                 refine aa.run lay [] ?_;simp[l,n,o,p,r,aJ,aF,aT,g,bX,bJ,j,v2,y,ax,I,x2]
                 refine⟨by omega,H _ B ⟨_,_,rfl,by simp[l,n,o,p,r,aJ,aF,aT,g,bX,bJ,j],by simp[l,n,o,p,r,aJ,aF,aT,g,bX,bJ,j],by simp[l,n,o,p,r,aJ,aF,aT,g,bX,bJ,j],by simp[l,n,o,p,r,aJ,aF,aT,g,bX,bJ,j],by simp[l,n,o,p,r,aJ,aF,aT,g,bX,bJ,j],by simp[l,n,o,p,r,aJ,aF,aT,g,bX,bJ,j],by simp[l,n,o,p,r,aJ,aF,aT,g,bX,bJ,j],by simp[l,n,o,p,r,aJ,aF,aT,g,bX,bJ,j],by simp[l,n,o,p,r,aJ,aF,aT,g,bX,bJ,j],by simp[l,n,o,p,r,aJ,aF,aT,g,bX,bJ,j],by simp[l,n,o,p,r,aJ,aF,aT,g,bX,bJ,j],by simp⟩⟩
               . refine aa.run lay [] ?_
                 simp[l,n,o,p,r,aJ,aF,aT,g,bX,bJ,j,v2,y,I]
                 refine⟨by omega,H _ B ⟨_,_,rfl,by simp[l,n,o,p,r,aJ,aF,aT,g,bX,bJ,j],by simp[l,n,o,p,r,aJ,aF,aT,g,bX,bJ,j],by simp[l,n,o,p,r,aJ,aF,aT,g,bX,bJ,j],by simp[l,n,o,p,r,aJ,aF,aT,g,bX,bJ,j],by simp[l,n,o,p,r,aJ,aF,aT,g,bX,bJ,j],by simp[l,n,o,p,r,aJ,aF,aT,g,bX,bJ,j],by simp[l,n,o,p,r,aJ,aF,aT,g,bX,bJ,j],by simp[l,n,o,p,r,aJ,aF,aT,g,bX,bJ,j],by simp[l,n,o,p,r,aJ,aF,aT,g,bX,bJ,j],by simp[l,n,o,p,r,aJ,aF,aT,g,bX,bJ,j],by simp[l,n,o,p,r,aJ,aF,aT,g,bX,bJ,j],by simp⟩⟩
             . have A:e=11:=by rcases hF with ⟨q,_⟩|⟨q,_⟩<;>omega
               subst A;refine aa.run lay [] ?_;simp[l,n,o,p,r,aJ,aF,aT,g,bX,bJ,j,v2]
               refine⟨by omega,H _ B ⟨_,_,rfl,by simp[l,n,o,p,r,aJ,aF,aT,g,bX,bJ,j],by simp[l,n,o,p,r,aJ,aF,aT,g,bX,bJ,j],by simp[l,n,o,p,r,aJ,aF,aT,g,bX,bJ,j],by simp[l,n,o,p,r,aJ,aF,aT,g,bX,bJ,j],by simp[l,n,o,p,r,aJ,aF,aT,g,bX,bJ,j],by simp[l,n,o,p,r,aJ,aF,aT,g,bX,bJ,j],by simp[l,n,o,p,r,aJ,aF,aT,g,bX,bJ,j],by simp[l,n,o,p,r,aJ,aF,aT,g,bX,bJ,j],by simp[l,n,o,p,r,aJ,aF,aT,g,bX,bJ,j],by simp[l,n,o,p,r,aJ,aF,aT,g,bX,bJ,j],by simp[l,n,o,p,r,aJ,aF,aT,g,bX,bJ,j],by simp⟩⟩
         . by_cases he:e=0
           . subst he
             by_cases ay:t=D
             . have n1:¬iJ E F<0:=by have:=(dP E F).2 (W rfl ay.symm).1;omega
               simp[l,n,o,p,r,aJ,aF,aT,g,bX,bJ,j,B,y,ay,bB];refine aj Tryz.func21 rfl rfl (fU (by omega) ?_)
               refine aa.run lay [] ?_;simp[l,n,o,p,r,aJ,aF,aT,g,bX,bJ,j,n1];refine⟨by omega,G _ (by omega) ⟨_,_,rfl,by simp[l,n,o,p,r,aJ,aF,aT,g,bX,bJ,j],by simp[l,n,o,p,r,aJ,aF,aT,g,bX,bJ,j],by simp[l,n,o,p,r,aJ,aF,aT,g,bX,bJ,j],by simp[l,n,o,p,r,aJ,aF,aT,g,bX,bJ,j],by simp[l,n,o,p,r,aJ,aF,aT,g,bX,bJ,j],by simp[l,n,o,p,r,aJ,aF,aT,g,bX,bJ,j],by simp⟩⟩
             . have U:(t==D)=false:=by rw[beq_eq_false_iff_ne];exact ay
               simp[l,n,o,p,r,aJ,aF,aT,g,bX,bJ,j,B,y,U];refine⟨by omega,G _ (by omega) ⟨_,_,rfl,by simp[l,n,o,p,r,aJ,aF,aT,g,bX,bJ,j],by simp[l,n,o,p,r,aJ,aF,aT,g,bX,bJ,j],by simp[l,n,o,p,r,aJ,aF,aT,g,bX,bJ,j],by simp[l,n,o,p,r,aJ,aF,aT,g,bX,bJ,j],by simp[l,n,o,p,r,aJ,aF,aT,g,bX,bJ,j],by simp[l,n,o,p,r,aJ,aF,aT,g,bX,bJ,j],by simp⟩⟩
           . have A:e=11:=by rcases hF with⟨q,_⟩|⟨q,_⟩<;>omega
             subst A;simp[l,n,o,p,r,aJ,aF,aT,g,bX,bJ,j,B];refine⟨by omega,G _ (by omega) ⟨_,_,rfl,by simp[l,n,o,p,r,aJ,aF,aT,g,bX,bJ,j],by simp[l,n,o,p,r,aJ,aF,aT,g,bX,bJ,j],by simp[l,n,o,p,r,aJ,aF,aT,g,bX,bJ,j],by simp[l,n,o,p,r,aJ,aF,aT,g,bX,bJ,j],by simp[l,n,o,p,r,aJ,aF,aT,g,bX,bJ,j],by simp[l,n,o,p,r,aJ,aF,aT,g,bX,bJ,j],by simp⟩⟩
       . have R:¬0<=iJ C c:=λz=>Q ((dP _ _).1 z)
         obtain⟨a,ha⟩:∃a,a=iJ C c:=⟨_,rfl⟩;rw[<-ha]at R ⊢;refine aa.loop 0 (λ_ s=>∃env σ',s=⟨env,σ',[],.no⟩/\env 3=.cp (cA w) 0/\env 6=int c/\env 7=int D/\env 8=int F/\env 9=int e/\env 10=ints L/\env 11=int k/\env 12=.cp (bF f) 0/\env 13=ints E/\env 14=ints C/\env 16=int a/\env 17=int 0) ?_ ?_
         . exact⟨_,_,rfl,by simp[l,n,o,p,r,aJ,aF,aT,g,bX,dw],by simp[l,n,o,p,r,aJ,aF,aT,g,bX,dw],by simp[l,n,o,p,r,aJ,aF,aT,g,bX,dw],by simp[l,n,o,p,r,aJ,aF,aT,g,bX,dw],by simp[l,n,o,p,r,aJ,aF,aT,g,bX,dw],by simp[l,n,o,p,r,aJ,aF,aT,g,bX,dw],by simp[l,n,o,p,r,aJ,aF,aT,g,bX,dw],by simp[l,n,o,p,r,aJ,aF,aT,g,bX,dw],by simp[l,n,o,p,r,aJ,aF,aT,g,bX,dw],by simp[l,n,o,p,r,aJ,aF,aT,g,bX,dw],by simp,by simp⟩
         clear l n o p r aJ aF aT g bX dw env v
         rintro c2 i _ Z ⟨env,v,rfl,l,n,o,p,r,aJ,aF,aT,g,bX,bJ,j⟩ H
         refine aa.run lay [] ?_
         by_cases B:0<E.length
         all_goals
          by_cases he:e=0
          . subst he
            have U:(t==D)=false:=by rw[beq_eq_false_iff_ne];exact λq=>Q (W rfl q.symm).2
            simp[l,n,o,p,r,aJ,aF,aT,g,bX,bJ,j,B,R,y,U];refine⟨by omega,G _ (by omega) ⟨_,_,rfl,by simp[l,n,o,p,r,aJ,aF,aT,g,bX,bJ,j],by simp[l,n,o,p,r,aJ,aF,aT,g,bX,bJ,j],by simp[l,n,o,p,r,aJ,aF,aT,g,bX,bJ,j],by simp[l,n,o,p,r,aJ,aF,aT,g,bX,bJ,j],by simp[l,n,o,p,r,aJ,aF,aT,g,bX,bJ,j],by simp[l,n,o,p,r,aJ,aF,aT,g,bX,bJ,j],by simp⟩⟩
          . have A:e=11:=by rcases hF with ⟨q,_⟩|⟨q,_⟩<;>omega
            subst A;simp[l,n,o,p,r,aJ,aF,aT,g,bX,bJ,j,B,R];refine⟨by omega,G _ (by omega) ⟨_,_,rfl,by simp[l,n,o,p,r,aJ,aF,aT,g,bX,bJ,j],by simp[l,n,o,p,r,aJ,aF,aT,g,bX,bJ,j],by simp[l,n,o,p,r,aJ,aF,aT,g,bX,bJ,j],by simp[l,n,o,p,r,aJ,aF,aT,g,bX,bJ,j],by simp[l,n,o,p,r,aJ,aF,aT,g,bX,bJ,j],by simp[l,n,o,p,r,aJ,aF,aT,g,bX,bJ,j],by simp⟩⟩
   . refine⟨by omega,ih _ g1 ⟨_,_,rfl,by simp[l,n,o,p,r,aJ,aF],by simp⟩⟩
 . refine aj Tryz.func14 rfl rfl (yc hs ?_)
   refine aa.run lay [] ?_;simp[l,n];exact .done (h _)

import Derived.Test.YtkcceaplmgdnfaaGreatDoorC20
set_option linter.all false
set_option maxHeartbeats 2000000
set_option maxRecDepth 4000
namespace Go.Proofs.YtkcceaplmgdnfaaGreatDoor
open Go.Proofs.Tryz (prog)
section
open Go Go.cz Go.Conc
variable{m:Mo}{σ:ab}{KF:abW}
def nL(σ0 σ:ab)(l:List (AV × Nat × List AV)):Prop:=σ0.Le σ/\(∀t∈l,Tok σ0 σ t.1 t.2.1 t.2.2)/\l.Pairwise λt a=>∀b,br t.1=some b->br a.1≠some b
theorem nL.head{σ0 σ a kk es l}(h:nL σ0 σ ((a,kk,es)::l)):Tok σ0 σ a kk es:=h.2.1 _ (abw)
theorem nL.perm{σ0 σ l d}(h:nL σ0 σ l)(e:l.Perm d):nL σ0 σ d:=⟨h.1,λt q=>h.2.1 t (e.mem_iff.2 q),(e.pairwise_iff λ{a b} q c f g=>q c g f).1 h.2.2⟩
theorem nL.OG{σ0 σ σ2 l c}(h:nL σ0 σ l)(b:σ0 c=none)(d:∃l,σ c=some (.cells l))(a:∀y,y≠c->σ2 y=σ y):nL σ0 σ2 l:=⟨λy x f=>by rw[a y λe=>by simp_all];exact h.1 y x f,λt q=>qA (h.2.1 t q) b d a,h.2.2⟩
theorem nL.app{σ0 σ σ' a a' kk kk' es c l}(h:nL σ0 σ ((a,kk,es)::l))(d:Tok (σ.off a) σ' a' kk' c):nL σ0 σ' ((a',kk',c)::l)/\∀y x,σ y=some (.cells x)->σ' y=some (.cells x):=by
 have f:=h.head;obtain⟨j,k⟩:=aae.1 h.2.2;have hb:=d.base f.here.2;have key:∀t∈l,Tok σ0 σ' t.1 t.2.1 t.2.2/\∀b,br t.1=some b->br a'≠some b:=λt q=>BU (h.2.1 t (aaC _ q)) f (λb g i=>j t q b i g) d
 refine⟨⟨hb.1,λt q=>?_,aae.2 ⟨λt q b g i=>(key t q).2 b i g,k⟩⟩,λy x m=>d.1 _ _ ?_⟩
 . grind
 . rw[ab.dL λe=>by obtain⟨_,_,q⟩:=f.aV e;simp_all];exact m
section
variable{c k:Nat}{nums:acm}
namespace WA
abbrev Zr:acb:=[⟨11,.take [0,2,3,8] false (.both 1 (.one 4 (.one 5 (.one 6 (.one 7 (.one 9 (.done)))))) (.one 4 (.both 1 (.one 5 (.one 6 (.one 7 (.one 9 (.done))))) (.one 5 (.both 1 (.one 6 (.one 7 (.one 9 (.done)))) (.one 6 (.take [1] true (.one 7 (.one 9 (.done))))))))))⟩,⟨18,.take [0,2,3,4,8,9,10,11,12,13,19] false (.both 1 (.both 5 (.take [6] false (.both 7 (.one 14 (.one 15 (.one 16 (.one 17 (.one 18 (.one 20 (.done))))))) (.one 14 (.one 7 (.one 15 (.one 16 (.one 17 (.one 18 (.one 20 (.done)))))))))) (.one 14 (.one 5 (.take [6] false (.one 7 (.one 15 (.one 16 (.one 17 (.one 18 (.one 20 (.done))))))))))) (.both 5 (.take [6] false (.both 1 (.both 7 (.one 14 (.one 15 (.one 16 (.one 17 (.one 18 (.one 20 (.done))))))) (.one 14 (.one 7 (.one 15 (.one 16 (.one 17 (.one 18 (.one 20 (.done))))))))) (.both 7 (.both 1 (.one 14 (.one 15 (.one 16 (.one 17 (.one 18 (.one 20 (.done))))))) (.one 14 (.both 1 (.one 15 (.one 16 (.one 17 (.one 18 (.one 20 (.done)))))) (.one 15 (.both 1 (.one 16 (.one 17 (.one 18 (.one 20 (.done))))) (.one 16 (.both 1 (.one 17 (.one 18 (.one 20 (.done)))) (.one 17 (.take [1] true (.one 18 (.one 20 (.done)))))))))))) (.one 14 (.both 1 (.one 7 (.one 15 (.one 16 (.one 17 (.one 18 (.one 20 (.done))))))) (.one 7 (.both 1 (.one 15 (.one 16 (.one 17 (.one 18 (.one 20 (.done)))))) (.one 15 (.both 1 (.one 16 (.one 17 (.one 18 (.one 20 (.done))))) (.one 16 (.both 1 (.one 17 (.one 18 (.one 20 (.done)))) (.one 17 (.take [1] true (.one 18 (.one 20 (.done)))))))))))))))) (.one 14 (.both 1 (.one 5 (.take [6] false (.one 7 (.one 15 (.one 16 (.one 17 (.one 18 (.one 20 (.done))))))))) (.one 5 (.take [6] false (.both 1 (.one 7 (.one 15 (.one 16 (.one 17 (.one 18 (.one 20 (.done))))))) (.one 7 (.both 1 (.one 15 (.one 16 (.one 17 (.one 18 (.one 20 (.done)))))) (.one 15 (.both 1 (.one 16 (.one 17 (.one 18 (.one 20 (.done))))) (.one 16 (.both 1 (.one 17 (.one 18 (.one 20 (.done)))) (.one 17 (.take [1] true (.one 18 (.one 20 (.done))))))))))))))))))⟩,⟨20,.take [0,1,3,6,7,8,9,10,13,14] false (.both 2 (.both 4 (.both 5 (.one 11 (.one 12 (.take [16] false (.one 15 (.done))))) (.one 11 (.one 5 (.one 12 (.take [16] false (.one 15 (.done))))))) (.one 11 (.one 4 (.one 5 (.one 12 (.take [16] false (.one 15 (.done)))))))) (.both 4 (.both 2 (.both 5 (.one 11 (.one 12 (.take [16] false (.one 15 (.done))))) (.one 11 (.one 5 (.one 12 (.take [16] false (.one 15 (.done))))))) (.one 11 (.one 2 (.one 5 (.one 12 (.take [16] false (.one 15 (.done)))))))) (.one 11 (.both 2 (.one 4 (.one 5 (.one 12 (.take [16] false (.one 15 (.done)))))) (.one 4 (.one 2 (.one 5 (.one 12 (.take [16] false (.one 15 (.done)))))))))))⟩]
theorem F8{cnt}(hk:k+600<1000000)(hn:nums.length<1152921504606846976)(c6:1<=cnt/\cnt<=6)(hb:bj c nums k σ)(h:∀  w   own lost  σ',NI cnt w own lost->oZ c nums (k+600) σ σ'->KF (.val (.ck [dv w,ints own,ints lost])) σ'):az prog m 9 [.ref c 0,int cnt] σ KF:=by
 obtain⟨n0,s0,_,fl⟩:=id hb;refine fs Zr Tryz.func9 rfl (by kernel_rfl) ?_
 simp[Tryz.f9];refine bV.intro λH h4=>?_
 have n4:c≠H:=λe=>by simp_all
 have av:∀x,bj c nums k (σ.set H x):=λx=>⟨n0,s0,by assumption,by rw[ab.ah _ _ n4];exact fl⟩
 simp;refine cf Tryz.func40 rfl (Jx (by omega) hn c6 (av _) λf U ej hS b3=>?_)
 refine aa.runN lay [] 6 ?_;simp;refine bV.intro λc7 h7=>?_
 simp[aJ]
 change aa _ _ _ _ _ _ _ _ _
 refine aa.bD 7 (b:=c7) (dz f) (ab.ai _ _ _) (by simp) rfl ?_
 rw[eY h7];clear h7;apply rn;simp;refine bV.intro λG h9=>?_
 have u4:ej H=some (.cells [.nil,.nil,int 0,int 0,int 0,int 0,int 0,.nil,.nil]):=by rw[b3.2 H (zj n4),ab.ai]
 have n9:G≠c:=λe=>by subst e;obtain⟨_,_,_,q⟩:=b3.1;simp_all
 have a8:G≠H:=λe=>by simp_all
 simp[aJ]
 have S:∀X,bj c nums (k+500) (ej.set G X):=λX=>by obtain⟨n,z,g1,g2⟩:=b3.1;exact⟨n,z,g1,by rw[ab.ah _ _ (zj n9)];exact g2⟩
 refine cf Tryz.func20 rfl (vM (by omega) hn (by omega) (S _) λon O b4=>?_)
 refine aa.runN lay [] 3 ?_;simp;obtain⟨M,hM⟩:∃M:Int,M=if on=true then 6 else f.aW:=⟨_,rfl⟩
 apply Pq
 . intro key
   have v9:O G=some (.cells [.nil,rows f.roads,int f.aQ,int f.eP,int f.cM,int f.aW,int 0,.nil,.nil]):=by rw[b4.2 G n9,ab.ai]
   have v4:O H=some (.cells [.nil,.nil,int 0,int 0,int 0,int 0,int 0,.nil,.nil]):=by rw[b4.2 H (zj n4),ab.ah _ _ (zj a8)];exact u4
   have vk:∀y,y≠c->y≠H->y≠G->O y=σ y:=λy y1 y2 y3=>by rw[b4.2 y y1,ab.ah _ _ y3,b3.2 y y1,ab.ah _ _ y2]
   cases on with
   | false=>
     simp;refine aa.runN lay [] 1 ?_;simp;refine aa.iC (λenv σ'=>env 0=.ref c 0/\env 7=.cp (dz f) 0/\env 8=ints U/\env 4=.ref H 0/\env 9=.ref G 0/\bj c nums (k+501) σ'/\σ' H=some (.cells [.nil,.nil,int 0,int 0,int 0,int 0,int 0,.nil,.nil])/\σ' G=some (.cells [.nil,rows f.roads,int f.aQ,int f.eP,int f.cM,int M,int 0,.nil,.nil])/\∀y,y≠c->y≠H->y≠G->σ' y=σ y) ?_ ?_
     . exact⟨by simp,by simp,by simp,by simp,by simp,b4.1,v4,by rw[hM];exact v9,vk⟩
     . exact key
   | true=>
     simp;refine aa.runN lay [] 5 ?_;simp[v9,aJ];obtain⟨n,z,g1,g2⟩:=b4.1;refine aa.iC (λenv σ'=>env 0=.ref c 0/\env 7=.cp (dz f) 0/\env 8=ints U/\env 4=.ref H 0/\env 9=.ref G 0/\bj c nums (k+501) σ'/\σ' H=some (.cells [.nil,.nil,int 0,int 0,int 0,int 0,int 0,.nil,.nil])/\σ' G=some (.cells [.nil,rows f.roads,int f.aQ,int f.eP,int f.cM,int M,int 0,.nil,.nil])/\∀y,y≠c->y≠H->y≠G->σ' y=σ y) ?_ ?_
     . exact⟨by simp,by simp,by simp,by simp,by simp,⟨n,z,g1,by rw[ab.ah _ _ (zj n9)];exact g2⟩,by rw[ab.ah _ _ (zj a8)];exact v4,by rw[hM];exact ab.ai _ _ _,λy y1 y2 y3=>by rw[ab.ah _ _ y3];exact vk y y1 y2 y3⟩
     . exact key
 have fp:f.aW<=M/\M<=6:=by have:=hS.qI.aW;omega
 have s9:σ G=none:=by rw[<-h9,b3.2 G n9,ab.ah _ _ a8]
 rintro env ep ⟨v,A,B,D,F,bb,u4,u9,ft⟩
 apply rn;simp[v,A,B,D,F,u9];refine cf Tryz.func19 rfl (eF (by omega) hn (by omega) (by omega) bb λT bm hT a9=>?_)
 have fu:1<=T/\T<=4:=by omega
 have v9:bm G=some (.cells [.nil,rows f.roads,int f.aQ,int f.eP,int f.cM,int M,int 0,.nil,.nil]):=by rw[a9.2 G n9];exact u9
 apply rn;simp[v,A,B,D,F,v9,aJ]
 have fv:∀X,bj c nums (k+502) (bm.set G X):=λX=>by obtain⟨n,z,g1,g2⟩:=a9.1;exact⟨n,z,by omega,by rw[ab.ah _ _ (zj n9)];exact g2⟩
 refine cf Tryz.func18 rfl (eV (by omega) hn (by omega) (fv _) λx ad hx bw=>?_)
 have gA:0<=x/\x<=5:=by omega
 obtain⟨X,hX⟩:∃X:Nat,(X:Int)=x:=⟨x.toNat,by omega⟩
 apply rn;simp[v,A,B,D,F,v9]
 have et:(σ.del c).Le ad:=λy z hy=>by
  have y1:y≠c:=λe=>by subst e;simp[ab.del]at hy
  have y0:σ y=some z:=by simpa[ab.del,y1]using hy
  have y4:y≠H:=λe=>by simp_all
  have y9:y≠G:=λe=>by simp_all
  rw[bw.2 y y1,ab.ah _ _ y9,a9.2 y y1,ft y y1 y4 y9];exact y0
 have ev:nL (σ.del c) ad [(.nil,5,([]:List Way).map jx)]:=⟨et,λt q=>by rw[lb.1 q];exact⟨et,.inl ⟨rfl,rfl⟩⟩,List.pairwise_singleton _ _⟩
 have ey:bj c nums (k+503+7*0) ad:=bw.1.mono (by omega)
 refine Pq (P:=?P2) (λkey=>?f2) ?p2
 case f2=>
  refine aa.loop X (λj s=>∃env σ' aw ws,s=⟨env,σ',[],.no⟩/\(env 0=.ref c 0/\env 7=.cp (dz f) 0/\env 8=ints U/\env 4=.ref H 0/\env 9=.ref G 0/\env 10=int (X-j))/\bj c nums (k+503+7*j) σ'/\σ' H=some (.cells [.nil,.nil,int 0,int 0,int 0,int 0,int 0,.nil,.nil])/\σ' G=some (.cells [.nil,rows f.roads,int f.aQ,int f.eP,int f.cM,int M,int T,aw,.nil])/\nL (σ.del c) σ' [(aw,5,(ws:List Way).map jx)]/\ws.length<=j/\∀x∈ws,pX T x=0) ?_ ?_
  . exact⟨_,_,.nil,[],rfl,by simp[v,A,B,D,F,v9,hX],ey,by rw[bw.2 H (zj n4),ab.ah _ _ (zj a8),a9.2 H (zj n4)];exact u4,by rw[bw.2 G n9,ab.ai],ev,by simp⟩
  rintro c0 j _ hj ⟨env,σ',aw,ws,rfl,⟨v,A,B,D,F,bp⟩,bA,q4,V,J,fw,b5⟩ ih
  have a7:=J.head.cells;apply rn;simp[v,A,B,D,F,bp,V,a7.1,a7.2];refine tJ.intro (λg1=>?_) (λg1=>?_)<;>(try simp[-Nat.not_lt,-Nat.not_le]at g1)<;>(try simp[v,A,B,D,F,bp,V,a7.1,a7.2,g1])
  rotate_left
  . have cg:k+503+7*j<=k+540:=by omega
    have cm:ws.length<=5:=by omega
    refine aa.iC (λenv σ'=>∃aw ws,env 0=.ref c 0/\env 7=.cp (dz f) 0/\env 8=ints U/\env 4=.ref H 0/\env 9=.ref G 0/\env 11=.nil/\env 12=.nil/\env 13=int 0/\bj c nums (k+540) σ'/\σ' H=some (.cells [.nil,.nil,int 0,int 0,int 0,int 0,int 0,.nil,.nil])/\σ' G=some (.cells [.nil,rows f.roads,int f.aQ,int f.eP,int f.cM,int M,int T,aw,.nil])/\nL (σ.del c) σ' [(aw,5,(ws:List Way).map jx)]/\ws.length<=5/\∀x∈ws,pX T x=0) ?_ ?_
    . refine⟨aw,ws,?_,?_,?_,?_,?_,?_,?_,?_,bA.mono cg,q4,V,J,cm,b5⟩<;>simp[v,A,B,D,F,bp,V,a7.1,a7.2]
    . exact key
  apply aG.intro<;>intro g2<;>simp at g2<;>simp[v,A,B,D,F,bp,V,a7.1,a7.2,g2]
  rotate_left
  . have cg:k+503+7*j<=k+540:=by omega
    have cm:ws.length<=5:=by omega
    refine aa.iC (λenv σ'=>∃aw ws,env 0=.ref c 0/\env 7=.cp (dz f) 0/\env 8=ints U/\env 4=.ref H 0/\env 9=.ref G 0/\env 11=.nil/\env 12=.nil/\env 13=int 0/\bj c nums (k+540) σ'/\σ' H=some (.cells [.nil,.nil,int 0,int 0,int 0,int 0,int 0,.nil,.nil])/\σ' G=some (.cells [.nil,rows f.roads,int f.aQ,int f.eP,int f.cM,int M,int T,aw,.nil])/\nL (σ.del c) σ' [(aw,5,(ws:List Way).map jx)]/\ws.length<=5/\∀x∈ws,pX T x=0) ?_ ?_
    . refine⟨aw,ws,?_,?_,?_,?_,?_,?_,?_,?_,bA.mono cg,q4,V,J,cm,b5⟩<;>simp[v,A,B,D,F,bp,V,a7.1,a7.2]
    . exact key
  apply yr (I:=λenv r=>∃a' x,env 0=.ref c 0/\env 7=.cp (dz f) 0/\env 8=ints U/\env 4=.ref H 0/\env 9=.ref G 0/\env 10=int (X-j)/\pX T x=0/\bj c nums (k+503+7*j+7) r/\r H=some (.cells [.nil,.nil,int 0,int 0,int 0,int 0,int 0,.nil,.nil])/\r G=some (.cells [.nil,rows f.roads,int f.aQ,int f.eP,int f.cM,int M,int T,a',.nil])/\nL (σ.del c) r [(a',5,(ws.map jx)++[jx x])])
  . intro Y
    repeat' (first
              |apply And.intro
              | (refine cf Tryz.func21 rfl (WY.ND (by omega) hn (by omega) bA λx O cv hd=>?_)
                 have dj:∃l,σ' c=some (.cells l):=by obtain⟨_,_,_,q⟩:=bA;exact⟨_,q⟩
                 have L:=J.OG (by simp[ab.del]) dj hd.2
                 have eA:=L.head.cells;have r9:O G=some (.cells [.nil,rows f.roads,int f.aQ,int f.eP,int f.cM,int M,int T,aw,.nil]):=by rw[hd.2 G n9];exact V
                 have r4:O H=some (.cells [.nil,.nil,int 0,int 0,int 0,int 0,int 0,.nil,.nil]):=by rw[hd.2 H (zj n4)];exact q4
                 apply pg;simp[v,A,B,D,F,bp,r9,eA.1,eA.2])
              | (refine aK lay rfl rfl rfl Q8 rfl Q8 rfl Uc (by decide) (by simp;omega) (σ0:=O.off aw) (es:=ws.map jx) (xs:=[jx x]) (by simpa using L.head.here.1) (.inr ⟨_,by simp;rfl⟩) λa' ep ax=>?_
                 obtain⟨b0,k3⟩:=L.app ax;have K:=b0.head.cells;have t9:=k3 _ _ r9;have t4:=k3 _ _ r4;apply pg;simp[v,A,B,D,F,bp,t9,K.1,K.2,aJ];obtain⟨nb,zb,av,S⟩:=hd.1;have tc:=k3 _ _ S;refine Y _ _ ⟨a',x,by simp[v],by simp[A],by simp[B],by simp[D],by simp[F],by simp[bp],cv,⟨nb,zb,av,by rw[ab.ah _ _ (zj n9)];exact tc⟩,by rw[ab.ah _ _ (zj a8)];exact t4,ab.ai _ _ _,?_⟩
                 exact(b0.OG (by simp[ab.del,n9,s9]) ⟨_,t9⟩ λy hy=>ab.ah _ _ hy)))
  clear v A B D F bp env
  rintro env O ⟨a',x,v,A,B,D,F,bp,cv,S,r4,r9,L⟩
  apply rn;simp[v,A,B,D,F,bp];have r1:-9223372036854775808<=(X:Int)-j-1/\(X:Int)-j-1<=9223372036854775807:=by omega
  refine⟨r1,ih _ g1 ⟨_,_,a',ws++[x],rfl,⟨by simp[v,A,B,D,F,bp],by simp[v,A,B,D,F,bp],by simp[v,A,B,D,F,bp],by simp[v,A,B,D,F,bp],by simp[v,A,B,D,F,bp],?_⟩,?_,r4,r9,?_,?_,?_⟩⟩
  . simp;omega
  . omega
  . simpa using L
  . simp;omega
  . intro y hy
    rcases ZA.1 hy with q|q
    . exact b5 y q
    . rw[lb.1 q];exact cv
 case p2=>
 clear v A B D F env
 rintro env bB ⟨aw,ws,v,A,B,D,F,bs,cZ,d,eB,eK,dm,R,fw,b5⟩
 obtain⟨Q,dr⟩:∃Q:Int->Int,Q=λi=>U.getD i.toNat 0:=⟨_,rfl⟩
 have h6:=hS.qI.qH;have gB:=hS.len;have gC:U.length=f.aB.length:=by obtain⟨_,_,_,_,q,_⟩:=hS.seen;exact q.len
 have fx:∀e∈f.aB,0<=e.hour/\e.hour<=72:=λe he=>(oT (hS.qI.tz e he)).1
 apply rn;simp[v,A,B,D,F,bs,cZ,d,dm];have b6:=R.1
 have b7:nL (σ.del c) bB [(.nil,6,(([]:acm).map (aR f)).map bu),(.nil,8,([]:List NU).map gW),(.nil,1,(([]:acm).map Q).map int),(.nil,1,(([]:acm).map Q).map int),(aw,5,ws.map jx)]:=by
  have n0:∀kk,Tok (σ.del c) bB .nil kk []:=λkk=>⟨b6,.inl ⟨rfl,rfl⟩⟩
  refine⟨b6,λt q=>?_,?_⟩
  . simp at q
    rcases q with rfl|rfl|rfl|rfl
    . exact n0 6
    . exact n0 8
    . exact n0 1
    . exact R.head
  . simp[br]
 refine aa.loop f.aB.length (λi s=>∃env σ' aE Z aO aL E C cs,s=⟨env,σ',[],.no⟩/\(env 0=.ref c 0/\env 7=.cp (dz f) 0/\env 8=ints U/\env 4=.ref H 0/\env 9=.ref G 0/\env 11=aO/\env 12=aL/\env 13=int i)/\bj c nums (k+540+3*i) σ'/\σ' H=some (.cells [.nil,.nil,int 0,int 0,int 0,int 0,int 0,.nil,.nil])/\σ' G=some (.cells [aE,rows f.roads,int f.aQ,int f.eP,int f.cM,int M,int T,aw,Z])/\nL (σ.del c) σ' [(aE,6,((E:acm).map (aR f)).map bu),(Z,8,(cs:List NU).map gW),(aO,1,(E.map Q).map int),(aL,1,((C:acm).map Q).map int),(aw,5,ws.map jx)]/\E.length+C.length=i/\(∀x∈E++C,0<=x/\x<f.aB.length)/\cs.map (·.lost)=C.map (aR f)/\cs.length<=3/\∀x∈cs,(0<=x.town/\x.town<T)/\(0<=x.hour/\x.hour<=72)/\x.lost.hour<=x.hour) ?_ ?_
 . refine⟨_,_,.nil,.nil,.nil,.nil,[],[],[],rfl,?_,eB,eK,dm,b7,rfl,by simp,rfl,by simp⟩
   simp_all
 clear b7 R b6 eK dm eB v A B D F bs cZ d env
 rintro c0 i _ hi ⟨env,σ',aE,Z,aO,aL,E,C,cs,rfl,⟨v,A,B,D,F,bs,cZ,d⟩,dx,q4,V,J,gD,c5,dy,eN,ea⟩ ih
 have g:=J.head.cells;have o:Z.cells=[Z]/\Z.flat=true:=(J.2.1 (Z,8,cs.map gW) (by simp)).cells
 have u:aO.cells=[aO]/\aO.flat=true:=(J.2.1 (aO,1,(E.map Q).map int) (by simp)).cells
 have p:aL.cells=[aL]/\aL.flat=true:=(J.2.1 (aL,1,(C.map Q).map int) (by simp)).cells
 have fO:∀l,(Z,8,cs.map gW)=l->True:=λ_ _=>trivial
 refine aa.runN lay [] 20 ?_;simp[v,A,B,D,F,bs,cZ,d,V,g.1,g.2,o.1,o.2,u.1,u.2,p.1,p.2];apply aG.intro<;>intro g1<;>simp at g1<;>simp[v,A,B,D,F,bs,cZ,d,V,g.1,g.2,o.1,o.2,u.1,u.2,p.1,p.2,g1]
 . refine aa.runN lay [] 2 ?_
   simp[v,A,B,D,F,bs,cZ,d,V,g.1,g.2,o.1,o.2,u.1,u.2,p.1,p.2];refine bV.intro λgd eR=>?_
   simp[v,A,B,D,F,bs,cZ,d,V,g.1,g.2,o.1,o.2,u.1,u.2,p.1,p.2,aJ]
   change aa _ _ _ _ _ _ _ _ _
   refine aa.bD 14 (b:=gd) (bu f.aB[i]) (ab.ai _ _ _) (by simp) rfl ?_
   rw[eY eR];have gG:=fx _ (zD g1);have eW:aR f i=f.aB[i]:=by simp[aR,g1]
   generalize f.aB[i]=e at *;clear eR;apply rn;simp[v,A,B,D,F,bs,cZ,d,V,g.1,g.2,o.1,o.2,u.1,u.2,p.1,p.2];refine cf Tryz.func20 rfl (vM (by omega) hn (by omega) dx λon O b1=>?_)
   have dj:∃l,σ' c=some (.cells l):=by obtain⟨_,_,_,q⟩:=dx;exact⟨_,q⟩
   have L:=J.OG (by simp[ab.del]) dj b1.2
   have r9:O G=some (.cells [aE,rows f.roads,int f.aQ,int f.eP,int f.cM,int M,int T,aw,Z]):=by rw[b1.2 G n9];exact V
   have r4:O H=some (.cells [.nil,.nil,int 0,int 0,int 0,int 0,int 0,.nil,.nil]):=by rw[b1.2 H (zj n4)];exact q4
   have eX:=(L.2.1 (Z,8,cs.map gW) (by simp)).Qq
   refine Pq (P:=?P3) (λkey=>?f3) ?p3
   case f3 =>
    have gf:∀b,b=decide ((cs.length:Int)<3)->b=true->cs.length<3:=λb q1 q2=>by rw[q1]at q2;have:=abh q2;clear key;omega
    cases on with
    | false=>
      refine aa.runN lay [] 7 ?_;simp[v,A,B,D,F,bs,cZ,d,V,g.1,g.2,o.1,o.2,u.1,u.2,p.1,p.2];refine aa.iC (λenv r=>O=r/\env 0=.ref c 0/\env 7=.cp (dz f) 0/\env 8=ints U/\env 4=.ref H 0/\env 9=.ref G 0/\env 11=aO/\env 12=aL/\env 13=int i/\env 14=.cp (bu e) 0/\∃b,env 71=bool b/\(b=true->cs.length<3)) ?_ ?_
      . refine⟨rfl,?_,?_,?_,?_,?_,?_,?_,?_,?_,false,?_⟩<;>simp[v,A,B,D,F,bs,cZ,d,V,g.1,g.2,o.1,o.2,u.1,u.2,p.1,p.2]
      . exact key
    | true=>
      rcases eX with ⟨q1,q2⟩|⟨sp,q1⟩
      . change Z=_ at q1
        rw[q1]at r9;refine aa.runN lay [] 7 ?_;simp[v,A,B,D,F,bs,cZ,d,V,g.1,g.2,o.1,o.2,u.1,u.2,p.1,p.2,r9];refine aa.iC (λenv r=>O=r/\env 0=.ref c 0/\env 7=.cp (dz f) 0/\env 8=ints U/\env 4=.ref H 0/\env 9=.ref G 0/\env 11=aO/\env 12=aL/\env 13=int i/\env 14=.cp (bu e) 0/\∃b,env 71=bool b/\(b=true->cs.length<3)) ?_ ?_
        . have hz:cs.length<3:=by
           cases cs with
           |nil=>exact(by decide)
           |cons a l=>cases q2
          refine⟨rfl,?_,?_,?_,?_,?_,?_,?_,?_,?_,true,?_,λ_=>hz⟩<;>simp[v,A,B,D,F,bs,cZ,d,V,g.1,g.2,o.1,o.2,u.1,u.2,p.1,p.2]
        . exact key
      . change Z=_ at q1
        rw[q1]at r9;refine aa.runN lay [] 7 ?_;simp[v,A,B,D,F,bs,cZ,d,V,g.1,g.2,o.1,o.2,u.1,u.2,p.1,p.2,r9];refine aa.iC (λenv r=>O=r/\env 0=.ref c 0/\env 7=.cp (dz f) 0/\env 8=ints U/\env 4=.ref H 0/\env 9=.ref G 0/\env 11=aO/\env 12=aL/\env 13=int i/\env 14=.cp (bu e) 0/\∃b,env 71=bool b/\(b=true->cs.length<3)) ?_ ?_
        . refine⟨rfl,?_,?_,?_,?_,?_,?_,?_,?_,?_,decide ((cs.length:Int)<3),?_,gf _ rfl⟩<;>simp[v,A,B,D,F,bs,cZ,d,V,g.1,g.2,o.1,o.2,u.1,u.2,p.1,p.2]
        . exact key
   case p3=>
   clear v A B D F bs cZ d env eX
   rintro env _ ⟨rfl,v,A,B,D,F,bs,cZ,d,m8,b,QN,bb⟩
   have rT:-9223372036854775808<=T-1/\T-1<=9223372036854775807:=by omega
   have rh:-9223372036854775808<=e.hour+6/\e.hour+6<=9223372036854775807:=by omega
   have gH:E.length<=i/\C.length<=i:=by omega
   cases b with
   | true=>
     have bb:=bb rfl
     apply yr (I:=λenv r=>∃a' nc,env 0=.ref c 0/\env 7=.cp (dz f) 0/\env 8=ints U/\env 4=.ref H 0/\env 9=.ref G 0/\env 11=aO/\env 12=aL/\env 13=int i/\bj c nums (k+540+3*i+3) r/\r H=some (.cells [.nil,.nil,int 0,int 0,int 0,int 0,int 0,.nil,.nil])/\r G=some (.cells [aE,rows f.roads,int f.aQ,int f.eP,int f.cM,int M,int T,aw,a'])/\nL (σ.del c) r [(a',8,cs.map gW++[gW nc]),(aE,6,(E.map (aR f)).map bu),(aO,1,(E.map Q).map int),(aL,1,(C.map Q).map int),(aw,5,ws.map jx)]/\nc.lost=e/\(0<=nc.town/\nc.town<T)/\(0<=nc.hour/\nc.hour<=72)/\nc.lost.hour<=nc.hour)
     . intro Y
       apply rn;simp[v,A,B,D,F,bs,cZ,d,m8,QN,r9,g.1,g.2,o.1,o.2,rT.1,rT.2,rh.1,rh.2]
       repeat' (first
                 |apply And.intro
                 | (refine cf Tryz.func18 rfl (eV (by omega) hn (by omega) b1.1 λy1 ep gI b8=>?_)
                    have b0:=L.OG (by simp[ab.del]) (by obtain⟨_,_,_,q⟩:=b1.1;exact⟨_,q⟩) b8.2
                    have v9:=(b8.2 G n9).trans r9;have v4:=(b8.2 H (zj n4)).trans r4;apply pg;simp[v,A,B,D,F,bs,cZ,d,m8,r9,v9,g.1,g.2,o.1,o.2,rT.1,rT.2,rh.1,rh.2])
                 | (refine cf Tryz.func19 rfl (eF (by omega) hn (by omega) ⟨by split<;>omega,by split<;>omega⟩ b8.1 λy2 bm gj a9=>?_)
                    have fc:=b0.OG (by simp[ab.del]) (by obtain⟨_,_,_,q⟩:=b8.1;exact⟨_,q⟩) a9.2
                    have x9:=(a9.2 G n9).trans v9;have x4:=(a9.2 H (zj n4)).trans v4;apply pg;simp[v,A,B,D,F,bs,cZ,d,m8,x9,g.1,g.2,o.1,o.2,aJ])
                 | (have hp:=fc.perm (List.Perm.swap (Z,8,cs.map gW) _ _)
                    refine aK lay rfl rfl rfl OY rfl OY rfl Ud (by decide) (by simp;omega) (σ0:=bm.off Z) (es:=cs.map gW) (xs:=[gW ⟨e,y1,y2⟩]) (by simpa using hp.head.here.1) (.inr ⟨.exact,by simp[aJ]⟩) λa' ad ax=>?_
                    obtain⟨N,k5⟩:=hp.app ax;have K:=N.head.cells;have t9:=k5 _ _ x9;have t4:=k5 _ _ x4;apply pg;simp[v,A,B,D,F,bs,cZ,d,m8,t9,K.1,K.2,aJ];obtain⟨nb,zb,av,S⟩:=a9.1;have tc:=k5 _ _ S
                    refine Y _ _ ⟨a',⟨e,y1,y2⟩,by simp[v],by simp[A],by simp[B],by simp[D],by simp[F],by simp[bs],by simp[cZ],by simp[d],⟨nb,zb,by omega,by rw[ab.ah _ _ (zj n9)];exact tc⟩,by rw[ab.ah _ _ (zj a8)];exact t4,ab.ai _ _ _,N.OG (by simp[ab.del,n9,s9]) ⟨_,t9⟩ λy hy=>ab.ah _ _ hy,rfl,by simp only;omega,?_,?_⟩
                    . simp only;revert gj;split<;>omega
                    . simp only;omega))
     clear v A B D F bs cZ d m8 QN env
     rintro env ad ⟨a',nc,v,A,B,D,F,bs,cZ,d,eb,ec,ed,N,gl,gP,gR,gU⟩
     have b2:i<U.length:=by omega
     have K:=N.head.cells;apply rn;simp[v,A,B,D,F,bs,cZ,d,K.1,K.2,p.1,p.2,b2];have hp:=N.perm (abD (a:=(aL,1,(C.map Q).map int)) (l₁:=[(a',8,cs.map gW++[gW nc]),(aE,6,(E.map (aR f)).map bu),(aO,1,(E.map Q).map int)]) (l₂:=[(aw,5,ws.map jx)]));have b9:Q (i:Int)=U[i]:=by rw[dr];simp[b2]
     refine aK lay rfl rfl rfl dM rfl dM rfl rS (by decide) (by simp;omega) (σ0:=ad.off aL) (es:=(C.map Q).map int) (xs:=[int U[i]]) (by simpa using hp.head.here.1) (.inr ⟨_,rfl⟩) λfg bB ax=>?_
     obtain⟨R,k6⟩:=hp.app ax;have ca:=R.head.cells;have t9:=k6 _ _ ed;have t4:=k6 _ _ ec;apply rn;simp[v,A,B,D,F,bs,cZ,d,K.1,K.2,p.1,p.2,ca.1,ca.2];obtain⟨nb,zb,av,S⟩:=eb;have tc:=k6 _ _ S;have ee:=R.perm ((abD (a:=(fg,1,(C.map Q).map int++[int U[i]])) (l₁:=[(a',8,cs.map gW++[gW nc]),(aE,6,(E.map (aR f)).map bu),(aO,1,(E.map Q).map int)]) (l₂:=[(aw,5,ws.map jx)])).symm.trans (List.Perm.swap _ _ _))
     refine⟨by omega,ih _ g1 ⟨_,_,aE,a',aO,fg,E,C++[(i:Int)],cs++[nc],rfl,?_,⟨nb,zb,by omega,tc⟩,t4,t9,?_,?_,?_,?_,?_,?_⟩⟩
     . exact by simp[v,A,B,D,F,bs,cZ,d,K.1,K.2,p.1,p.2]
     . simpa[b9]using ee
     . simp;omega
     . intro x hx
       rw[<-List.append_assoc]at hx
       rcases ZA.1 hx with q|q
       . exact c5 x q
       . rw[lb.1 q];omega
     . rw[ZO,ZO,dy];simp[gl,eW]
     . simp;omega
     . intro x hx
       rcases ZA.1 hx with q|q
       . exact ea x q
       . rw[lb.1 q];omega
   | false=>
     have b2:i<U.length:=by omega
     have b9:Q (i:Int)=U[i]:=by rw[dr];simp[b2]
     apply yr (I:=λenv r=>∃al ay,env 0=.ref c 0/\env 7=.cp (dz f) 0/\env 8=ints U/\env 4=.ref H 0/\env 9=.ref G 0/\env 11=ay/\env 12=aL/\env 13=int i/\bj c nums (k+540+3*i+3) r/\r H=some (.cells [.nil,.nil,int 0,int 0,int 0,int 0,int 0,.nil,.nil])/\r G=some (.cells [al,rows f.roads,int f.aQ,int f.eP,int f.cM,int M,int T,aw,Z])/\nL (σ.del c) r [(ay,1,(E.map Q).map int++[int U[i]]),(al,6,(E.map (aR f)).map bu++[bu e]),(Z,8,cs.map gW),(aL,1,(C.map Q).map int),(aw,5,ws.map jx)])
     . intro Y
       apply rn;simp[v,A,B,D,F,bs,cZ,d,m8,QN,r9,g.1,g.2,u.1,u.2,b2]
       repeat' (first
                 |apply And.intro
                 | (refine aK lay rfl rfl rfl mW rfl mW rfl yP (by decide) (by simp;omega) (σ0:=O.off aE) (es:=(E.map (aR f)).map bu) (xs:=[bu e]) (by simpa using L.head.here.1) (.inr ⟨.exact,by simp⟩) λal ad ax=>?_
                    obtain⟨N,k5⟩:=L.app ax;have K:=N.head.cells;have t9:=k5 _ _ r9;have t4:=k5 _ _ r4;apply pg;simp[v,A,B,D,F,bs,cZ,d,m8,t9,K.1,K.2,u.1,u.2,b2])
                 | (have hp:=N.perm (abD (a:=(aO,1,(E.map Q).map int)) (l₁:=[(al,6,(E.map (aR f)).map bu++[bu e]),(Z,8,cs.map gW)]) (l₂:=[(aL,1,(C.map Q).map int),(aw,5,ws.map jx)]))
                    refine aK lay rfl rfl rfl dM rfl dM rfl rS (by decide) (by simp;omega) (σ0:=ad.off aO) (es:=(E.map Q).map int) (xs:=[int U[i]]) (by simpa using hp.head.here.1) (.inr ⟨.exact,by simp⟩) λay bB gp=>?_
                    obtain⟨R,k6⟩:=hp.app gp;have cb:=R.head.cells;have x9:=k6 _ _ t9;have x4:=k6 _ _ t4;apply pg;simp[v,A,B,D,F,bs,cZ,d,m8,x9,K.1,K.2,cb.1,cb.2,aJ];obtain⟨nb,zb,av,S⟩:=b1.1;have tc:=k6 _ _ (k5 _ _ S);exact Y _ _ ⟨al,ay,by simp[v],by simp[A],by simp[B],by simp[D],by simp[F],by simp,by simp[cZ],by simp[d],⟨nb,zb,by omega,by rw[ab.ah _ _ (zj n9)];exact tc⟩,by rw[ab.ah _ _ (zj a8)];exact x4,ab.ai _ _ _,R.OG (by simp[ab.del,n9,s9]) ⟨_,x9⟩ λy hy=>ab.ah _ _ hy⟩))
     clear v A B D F bs cZ d m8 QN env
     rintro env ad ⟨al,ay,v,A,B,D,F,bs,cZ,d,eb,ec,ed,N⟩
     apply rn;simp[v,A,B,D,F,bs,cZ,d];have ee:=N.perm ((abD (a:=(ay,1,(E.map Q).map int++[int U[i]])) (l₁:=[(al,6,(E.map (aR f)).map bu++[bu e]),(Z,8,cs.map gW)]) (l₂:=[(aL,1,(C.map Q).map int),(aw,5,ws.map jx)])).symm);refine⟨by omega,ih _ g1 ⟨_,_,al,Z,ay,aL,E++[(i:Int)],C,cs,rfl,?_,eb.mono (by omega),ec,ed,?_,?_,?_,dy,eN,ea⟩⟩
     . exact by simp[v,A,B,D,F,bs,cZ,d]
     . simpa[b9,eW]using ee
     . simp;omega
     . intro x hx
       rcases ZA.1 hx with q|q
       . rcases ZA.1 q with q|q
         . exact c5 x (List.mem_append_left _ q)
         . rw[lb.1 q];omega
       . exact c5 x (List.mem_append_right _ q)
 . have ei:i=f.aB.length:=by omega
   have fi:aw.cells=[aw]/\aw.flat=true:=(J.2.1 (aw,5,ws.map jx) (by simp)).cells
   simp[v,A,B,D,F,bs,cZ,d,V,g.1,g.2,o.1,o.2,u.1,u.2,p.1,p.2,fi.1,fi.2,q4,ab.ah,a8,zj a8,aJ];apply rn;simp[v,A,B,D,F,bs,cZ,d,V,g.1,g.2,o.1,o.2,u.1,u.2,p.1,p.2];obtain⟨w,hw⟩:∃w:gn,w=⟨⟨E.map (aR f),f.roads,f.aQ,f.eP,f.cM,M⟩,T,ws,cs⟩:=⟨_,rfl⟩
   have eg:NI cnt w (E.map Q) (C.map Q):=by subst hw;subst dr;exact Px hS c6.2 c5 (by omega) rfl dy rfl rfl rfl rfl fp fu b5 (show ws.length<=5 by omega) eN ea
   obtain⟨nb,zb,av,S⟩:=dx
   have gw:(AV.agg [aE,rows f.roads,int f.aQ,int f.eP,int f.cM,int M,int T,aw,Z]).W (dv w):=by
    subst hw;refine pP rfl λi x y h1 h2=>?_
    match i with
    |0=>cases h1;cases h2;exact J.head.W
    |1=>cases h1;cases h2;exact .refl _
    |2=>cases h1;cases h2;exact .refl _
    |3=>cases h1;cases h2;exact .refl _
    |4=>cases h1;cases h2;exact .refl _
    |5=>cases h1;cases h2;exact .refl _
    |6=>cases h1;cases h2;exact .refl _
    |7=>cases h1;cases h2;exact(J.2.1 (aw,5,ws.map jx) (by simp)).W
    |8=>cases h1;cases h2;exact(J.2.1 (Z,8,cs.map gW) (by simp)).W
    |i+9=>cases h1
   have gx:(AV.ck [.agg [aE,rows f.roads,int f.aQ,int f.eP,int f.cM,int M,int T,aw,Z],aO,aL]).W (.ck [dv w,ints (E.map Q),ints (C.map Q)]):=by
    refine MN rfl λi x y h1 h2=>?_
    match i with
    |0=>cases h1;cases h2;exact gw
    |1=>cases h1;cases h2;exact(J.2.1 (aO,1,(E.map Q).map int) (by simp)).W
    |2=>cases h1;cases h2;exact (J.2.1 (aL,1,(C.map Q).map int) (by simp)).W
    |i+3=>cases h1
   refine .oW gx (.less (σ':=σ.set c (.cells [ints nums,int nb,.lit (.int .u64 zb)])) (λy x hy=>?_) (.done (h w _ _ _ eg ⟨⟨nb,zb,by omega,ab.ai _ _ _⟩,λy hy=>ab.ah _ _ hy⟩)))
   by_cases y1:y=c
   . subst y1
     rw[ab.ai]at hy;rw[ab.ah _ _ n4,S];exact hy
   . rw[ab.ah _ _ y1]at hy
     have y4:y≠H:=λe=>by subst e;grind
     rw[ab.ah _ _ y4];exact J.1 y x (by simpa[ab.del,y1]using hy)
end WA
end
end
section
open Go.cz Go.Conc
variable{m:Mo}{σ:ab}{KF:abW}
theorem yt{w}(f:mY w=0){a b c}(d:∀x∈a,0<=x/\x<=72)(hb:∀x∈b,0<=x/\x<(w.fair.aB.length:Int))(e:∀x∈c,0<=x/\x<(w.aD.length:Int)):eH w a b c=0:=by
 have g:a.all (bI · 0 72)=true:=ZF.2 λx q=>by have:=d x q;simp only[bI,za,zU];omega
 have h:b.all (bI · 0 (w.fair.aB.length-1))=true:=ZF.2 λx q=>by have:=hb x q;simp only[bI,za,zU];omega
 have i:c.all (bI · 0 (w.aD.length-1))=true:=ZF.2 λx q=>by have:=e x q;simp only[bI,za,zU];omega
 unfold eH
 grind
end
section
open Go.cz Go.Conc
section
variable{w:gn}{i:Int}
structure RB  w   i  (h:Nat) (s:Int) (L:abO):Prop where
 FL:∀r∈L,0<=r.1/\r.1<=r.2/\r.2<=72/\r.2<h
 apart:L.Pairwise λr r'=>r.2+1<r'.1
 YC:s=1048576->∀r∈L,r.2+1<h
 since:s<1048576->(0<=s/\s<h)/\h<=73/\(∀r∈L,r.2+1<s)/\∀x ,s<=x->x<h->km w x i=true
 all:∀x:Int,0<=x->x<h->x<=72->km w x i=true->(∃r∈L,r.1<=x/\x<=r.2)\/s<=x
 only:∀r∈L,∀x ,r.1<=x->x<=r.2->km w x i=true
theorem Hq  w   i :∀h ,h<=74->RB w i h (bn w i h).1 (bn w i h).2
 |0,_=>⟨by simp[bn],by simp[bn],by simp[bn],by simp[bn],λx b d=>by omega,by simp[bn]⟩
 | h + 1,t=>by
   have hb:=tv w i h;have a:=Hq w i h (by omega);have m:((h+1:Nat):Int)=(h:Int)+1:=by omega
   unfold bn;split
   . next q=>
     by_cases g:(h:Int)<(bn w i h).1
     . have n:(bn w i h).1=1048576:=by
        rcases abG (bn w i h).1 1048576 with z|z
        . have:=(a.since z).1;omega
        . omega
       rw[ZG g];refine⟨λr c=>by have:=a.FL r c;omega,a.apart,λz=>by simp only at z;omega,λ_=>⟨by simp only;omega,by omega,λr c=>a.YC n r c,λx b d=>?_⟩,λx b d f j=>?_,a.only⟩
       . have:x=(h:Int):=by simp only at b;omega
         rw[this];exact q.2
       . by_cases e:x=(h:Int)
         . exact .inr (by simp only;omega)
         . rcases a.all x b (by omega) f j with z|z
           . exact .inl z
           . omega
     . rw[ZB g]
       have l:=a.since (by omega);refine⟨λr c=>by have:=a.FL r c;omega,a.apart,λz=>by simp only at z;omega,λ_=>⟨by simp only;omega,by omega,l.2.2.1,λx b d=>?_⟩,λx b d f j=>?_,a.only⟩
       . by_cases e:x=(h:Int)
         . rw[e];exact q.2
         . exact l.2.2.2 x b (by omega)
       . by_cases e:x=(h:Int)
         . exact .inr (by simp only;omega)
         . exact a.all x b (by omega) f j
   next q=>
   have k:¬((h:Int)<=72/\km w (h:Int) i=true):=q;split
   . next g=>
     have l:=a.since g;refine⟨λr c=>?_,?_,λ_ r c=>?_,λz=>by simp only at z;omega,λx b d f j=>?_,λr c x b d=>?_⟩
     . rcases ZA.1 c with z|z
       . have:=a.FL r z;omega
       . rw[lb.1 z];simp only;omega
     . rw[List.pairwise_append]
       refine⟨a.apart,List.pairwise_singleton _ _,λr c u o=>?_⟩;rw[lb.1 o];exact l.2.2.1 r c
     . rcases ZA.1 c with z|z
       . have:=l.2.2.1 r z;omega
       . rw[lb.1 z];simp only;omega
     . by_cases e:x=(h:Int)
       . subst e;exact absurd ⟨f,j⟩ k
       . rcases a.all x b (by omega) f j with⟨r,p,s⟩|z
         . exact .inl ⟨r,List.mem_append_left _ p,s⟩
         . exact .inl ⟨_,List.mem_append_right _ (lb.2 rfl),by simp only;omega⟩
     . rcases ZA.1 c with z|z
       . exact a.only r z x b d
       . rw[lb.1 z]at b d
         simp only at b d;exact l.2.2.2 x b (by omega)
   . next g=>
     have n:(bn w i h).1=1048576:=by omega
     refine⟨λr c=>by have:=a.FL r c;omega,a.apart,λ_ r c=>by have:=a.YC n r c;omega,λz=>by simp only at z;omega,λx b d f j=>?_,a.only⟩;by_cases e:x=(h:Int)
     . subst e;exact absurd ⟨f,j⟩ k
     . rcases a.all x b (by omega) f j with z|z
       . exact .inl z
       . omega
theorem Eh  w   i :(∀r∈bF w i,0<=r.1/\r.1<=r.2/\r.2<=72)/\(bF w i).Pairwise (λr b=>r.2+1<b.1)/\∀x ,0<=x->x<=72->(km w x i=true↔∃r∈bF w i,r.1<=x/\x<=r.2):=by
 have h:=Hq w i 74 (ZI _)
 have j:(bn w i 74).1=1048576:=by
  have:=tv w i 74;rcases abG (bn w i 74).1 1048576 with z|z
  . have:=(h.since z).2.1;omega
  . omega
 refine⟨λr a=>⟨(h.FL r a).1,(h.FL r a).2.1,(h.FL r a).2.2.1⟩,h.apart,λx c d=>⟨λz=>?_,λ⟨r,e,f,g⟩=>h.only r e x f g⟩⟩;rcases h.all x c (by omega) d z with y|y
 . exact y
 . omega
theorem NJ{h}(hi:0<=i/\i<w.fair.aB.length):i∈js w h↔km w h i=true:=by unfold js km;rw[aaA];exact⟨λq=>q.2,λq=>⟨Rw hi,q⟩⟩
end
end
open Go.cz Go.Conc
variable{m:Mo}{σ:ab}{KF:abW}
theorem aa.Jy{P:acw}{m:Mo}{fid n:Nat}{ro:ace}{hold:acb}{K:cz.Exit->St->Prop}{todo:aci}{env:Env}{σ:ab}{D:List vV}{rc:Rec}(t:Nat){b c:Nat}{l:acs}(hb:σ b=some (.cells l))(g:env t=.gh b 0 c c)(i:l.length=c)(d:∀e∈l,e.cells=[e])(h:aa P m fid n ro hold todo ⟨env.upd t (.sl 1 l .any),σ.del b,D,rc⟩ K):aa P m fid n ro hold todo ⟨env,σ,D,rc⟩ K:=
 aa.freeze b l hb (λu=>Fz.upd (t:=t) (a':=.sl 1 l .any) (by
  rw[g,<-i];refine Fz.sl 0 l.length 1 l .any (ZI _) (by omega) (λe k=>by rw[d e k];rfl) (λj a f=>?_) (.inl rfl);rw[dk d]at f;rw[aaK];exact f) u) (JQ.del _ _ _) h
def Py(l:abO)(x:Nat):Bool:=l.any λr=>decide (r.1<=(x:Int)) && decide ((x:Int)<=r.2)
theorem NK(l:abO)(r:Int × Int)(x:Nat):Py (l++[r]) x=(Py l x||(decide (r.1<=(x:Int)) && decide ((x:Int)<=r.2))):=by unfold Py;rw[List.any_append];simp
theorem Pz(l:abO)(x:Nat):Py l x=true↔∃r∈l,r.1<=(x:Int)/\(x:Int)<=r.2:=by unfold Py;simp[aac]
theorem Ei(w:gn)(k:Nat):dO w (k+1)=dO w k+kq (bF w k):=by unfold dO;rw[ZQ,aak];rfl
theorem Ar(l:abO)(k:Nat)(a:k<l.length):kq (l.take (k+1))=kq (l.take k)+(l[k].2-l[k].1+1):=by rw[zA a,Al]
theorem NL(w:gn)(i:Int)(k:Nat):0<=kq ((bF w i).take k)/\kq ((bF w i).take k)<=73*74:=by
 have h:=(Eh w i).1;have a:(bF w i).length<=74:=lf w i 74;generalize bF w i=l at h a
 have key:∀k:Nat,0<=kq (l.take k)/\kq (l.take k)<=73*(min k l.length:Nat):=λk=>by
  induction k with
  |zero=>simp[kq]
  | succ k b=>
    by_cases g:k<l.length
    . rw[Ar l k g]
      have:=h _ (zD g);omega
    . rw[aan (by omega)]
      rw[aan (by omega)]at b;omega
 have:=key k;omega
namespace CS
abbrev Zs:acb:=[⟨22,.take [0,1,2,3,4,5,6,7,8,9,10,11,12,13,14,15,16,17,18,19,20,21,22,23,24,25,26,27,28] true (.done)⟩,⟨33,.take [0,1,2,3,4,5,6,7,8] false (.one 9 (.one 10 (.one 11 (.done))))⟩,⟨42,.take [0,1,2,3,4,5,6] false (.one 7 (.take [8] true (.done)))⟩]
theorem F9(hs:m.solo=true){nums:acm}(hn:nums.length<1152921504606846976)(h:∀σ',KF (.val (bool true)) σ'):wY prog lay m 5 [ints nums] σ KF:=by
 refine wY.start lay [] Zs 1 Tryz.func5 rfl rfl (by rfl) (by kernel_rfl) ?_
 simp[Tryz.f5];refine cf Tryz.func10 rfl (Ji λc dj hc hb P=>?_)
 apply rn;simp;refine cf Tryz.func9 rfl (WA.F8 (by omega) hn ⟨by omega,by omega⟩ hb λw own lost dm hm hd=>?_)
 refine aa.runN lay [] 8 ?_;simp;refine bV.intro λd a7=>?_
 simp[aJ]
 change aa _ _ _ _ _ _ _ _ _
 refine aa.bD 3 (b:=d) (dv w) (ab.ai _ _ _) (by simp) rfl ?_
 rw[eY a7];have Q:=hm.valid;have Y:=hm.EB;have hO:=Q.open;have c3:=Q.Nd.1;have h6:=Q.qH;clear hm hd hb P hc a7;obtain⟨H,hH⟩:∃H:Int->acm,H=js w:=⟨_,rfl⟩;have F:∀x,(H x).length<=w.fair.aB.length:=λx=>by rw[hH];exact qF w x
 apply rn;simp;refine aa.iC (λenv _=>env 3=.cp (dv w) 0/\env 6=.lit (.slice none 0 0)/\env 7=int 0) ?_ ?_
 . exact⟨by simp,by simp,by simp⟩
 rintro env G ⟨g,f,I⟩
 refine aa.loop 73 (λi s=>∃env σ' a,s=⟨env,σ',[],.no⟩/\env 3=.cp (dv w) 0/\env 6=a/\env 7=int i/\Tok G σ' a 1 ((List.range i).map λx=>ints (H (x:Nat)))) ⟨env,G,_,rfl,g,f,I,by simpa using Tok.nil G 1⟩ ?_
 clear g f I env
 rintro c0 i _ hi ⟨env,dr,a,rfl,g,f,I,z⟩ ih
 have p:=z.cells;apply rn;simp[g,f,I,p.1,p.2];refine aG.intro (λg1=>?_) (λg1=>?_)<;>(try simp[-Int.not_lt,-Int.not_le,-Nat.not_lt,-Nat.not_le]at g1)<;>(try simp[g,f,I,p.1,p.2,g1])
 . have o1:eH w [(i:Int)] [] []=0:=yt Y (by simp;omega) (by simp) (by simp)
   refine cf Tryz.func11 rfl (DY hs Q.Jn hO (λq=>absurd o1 q) λ_=>?_)
   rw[<-hH];have dx:=F i;apply rn;simp[g,f,I,p.1,p.2];refine aK lay rfl rfl rfl oy rfl oy rfl dM (by decide) (by simp only[ZT,aaJ,aav];omega) (σ0:=G) (es:=(List.range i).map λx=>ints (H (x:Nat))) (xs:=[ints (H i)]) (by simpa using z) (.inr ⟨_,by simp;rfl⟩) λa2 a8 a9=>?_
   have K:=a9.cells;apply rn;simp[g,f,I,p.1,p.2,K.1,K.2];refine⟨by omega,ih _ (by omega) ⟨_,_,a2,rfl,by simp[g,f,I,p.1,p.2],by simp,by simp,?_⟩⟩
   rw[ZQ,ZO];simpa using a9
 . have ei : i=73:=by omega
   subst ei;obtain⟨u,A⟩:∃u,u=(List.range 73).map λx:Nat=>ints (H x):=⟨_,rfl⟩
   rw[<-A]at z;have Sx:u.length=73:=by rw[A,ZT,aaJ]
   have C:∀x:Nat,x<73->u[x]?=some (ints (H x)):=λx v=>by rw[A,ZY,abp v];rfl
   have b5:∀e∈u,e.cells=[e]:=λe Z=>by rw[A]at Z;obtain⟨x,_,rfl⟩:=ZU.1 Z;rfl
   have ad:=dk b5;have al:=z.W;clear A;refine aa.Ii 6 (a':=.sl 1 u .any) (by simpa[f]using al) ?_
   refine aa.iC (λenv _=>env 3=.cp (dv w) 0/\env 6=.sl 1 u .any/\env 10=int 0/\env 11=int 0) ?_ ?_
   . exact⟨by simp[g],by simp,by simp,by simp⟩
   clear z p al;clear g f I env
   rintro env a8 ⟨g,f,bp,bs⟩
   refine aa.loop w.fair.aB.length (λi s=>∃env σ',s=⟨env,σ',[],.no⟩/\env 3=.cp (dv w) 0/\env 6=.sl 1 u .any/\env 10=int (dO w i)/\env 11=int i) ⟨env,a8,rfl,g,f,by rw[bp];rfl,bs⟩ ?_
   clear g f bp bs env
   rintro c1 i _ hi ⟨env,dy,rfl,g,f,bp,bs⟩ b6
   apply rn;simp[g,f,bp,bs];refine aG.intro (λg2=>?_) (λg2=>?_)<;>(try simp[-Int.not_lt,-Int.not_le,-Nat.not_lt,-Nat.not_le]at g2)<;>(try simp[g,f,bp,bs,g2])
   . have oi:eH w [] [(i:Int)] []=0:=yt Y (by simp) (by simp;omega) (by simp)
     refine cf Tryz.func23 rfl (Ak hs Q.Jn hO (by omega) (λq=>absurd oi q) λ_=>?_)
     obtain⟨R,av,ax⟩:=Eh w i;have ay:=NL w i;have e0:=yk w i;have aC:=Ei w i;have b7:(bF w i).length<=74:=lf w i 74;obtain⟨L,hL⟩:∃L,L=bF w i:=⟨_,rfl⟩;rw[<-hL]at R av ax ay aC b7 ⊢;apply rn;simp[g,f,bp,bs];refine ou lay rfl V5 rfl Xm rfl (by decide) rfl rfl (n:=73) (by simp) (by simp) ⟨by omega,by omega⟩ λbb ea=>?_
     apply rn;simp[g,f,bp,bs];have aE:∀x:Nat,x<73->(List.replicate 73 (bool false))[x]?=some (bool (Py (L.take 0) x)):=λx v=>by rw[abB,ZG v];rfl
     refine aa.loop L.length (λk s=>∃env σ' B q,s=⟨env,σ',[],.no⟩/\(env 3=.cp (dv w) 0/\env 6=.sl 1 u .any/\env 10=int (dO w i+kq (L.take k))/\env 11=int i/\env 12=kL L/\env 14=int q/\env 15=.gh bb 0 73 73/\env 16=int k)/\σ' bb=some (.cells B)/\B.length=73/\(∀x:Nat,x<73->B[x]?=some (bool (Py (L.take k) x)))/\(-2<=q/\q<=72)/\∀Y:k<L.length,q+1<L[k].1) ⟨_,_,List.replicate 73 (bool false),-2,rfl,by simp[g,f,bp,bs,kq],by simp,by simp,aE,by omega,λY=>by have:=(R _ (zD Y)).1;omega⟩ ?_
     clear g f bp bs env aE
     rintro c2 k _ eb ⟨env,aL,B,q,rfl,⟨g,f,bp,bs,cZ,m8,il,jP⟩,hB,aO,J,hq,b8⟩ b9
     apply rn;simp[g,f,bp,bs,cZ,m8,il,jP];refine aG.intro (λy=>?_) (λy=>?_)<;>(try simp[-Int.not_lt,-Int.not_le,-Nat.not_lt,-Nat.not_le]at y)<;>(try simp[g,f,bp,bs,cZ,m8,il,jP,y])
     . have bm:=b8 y
       have bw:=R _ (zD y);have x1:¬L[k].1<=q+1:=by omega
       have x2:¬L[k].2<L[k].1:=by omega
       have x3:¬72<L[k].2:=by omega
       have f1:-9223372036854775808<=q+1/\q+1<=9223372036854775807:=by omega
       simp[g,f,bp,bs,cZ,m8,il,jP,x1,x2,x3,f1.1,f1.2,y];apply rn;simp[g,f,bp,bs,cZ,m8,il,jP,y];obtain⟨r,hr⟩:∃r,r=L[k]:=⟨_,rfl⟩;rw[<-hr]at bm bw x1 x2 x3;simp only[<-hr]
       refine aa.loop (r.2-r.1+1).toNat (λj s=>∃env σ' B,s=⟨env,σ',[],.no⟩/\(env 3=.cp (dv w) 0/\env 6=.sl 1 u .any/\env 10=int (dO w i+kq (L.take k)+j)/\env 11=int i/\env 12=kL L/\env 14=int r.2/\env 15=.gh bb 0 73 73/\env 16=int k/\env 17=int (r.1+j))/\σ' bb=some (.cells B)/\B.length=73/\∀x:Nat,x<73->B[x]?=some (bool (Py (L.take k) x||(decide (r.1<=(x:Int)) && decide ((x:Int)<r.1+j))))) ?_ ?_
       . refine⟨_,_,B,rfl,by simp[g,f,bp,bs,cZ,m8,il,jP],hB,aO,λx v=>?_⟩
         rw[J x v];have:(decide (r.1<=(x:Int)) && decide ((x:Int)<r.1+(0:Nat)))=false:=by rw[Bool.and_eq_false_iff,aad,aad];omega
         rw[this,Bool.or_false]
       clear g f bp bs cZ m8 il jP env
       rintro c3 j _ hj ⟨env,T,B2,rfl,⟨g,f,bp,bs,cZ,m8,il,jP,l⟩,b0,M,O⟩ bA
       obtain⟨N,hN⟩:∃N:Nat,(N:Int)=r.1+j:=⟨(r.1+j).toNat,by omega⟩
       rw[<-hN]at l;apply rn;simp[g,f,bp,bs,cZ,m8,il,jP,l,y,<-hr];refine aG.intro (λg4=>?_) (λg4=>?_)<;>(try simp[-Int.not_lt,-Int.not_le,-Nat.not_lt,-Nat.not_le]at g4)<;>(try simp[g,f,bp,bs,cZ,m8,il,jP,l,g4])
       . have cm:N<73:=by omega
         have ec:(N:Int)<73:=by omega
         refine⟨by omega,?_⟩
         have t:List.take N B2++bool true::List.drop (N+1) B2=B2.set N (bool true):=by rw[abc,ZG (by omega)]
         have f3:N+1<=B2.length:=by omega
         have cv:=ay k;simp[g,f,bp,bs,cZ,m8,il,jP,l,b0,aJ,f3]
         refine⟨by omega,by omega,bA _ (by omega) ⟨_,_,B2.set N (bool true),rfl,⟨by simp[g,f,bp,bs,cZ,m8,il,jP,l],by simp[g,f,bp,bs,cZ,m8,il,jP,l],by simp<;>omega,by simp[g,f,bp,bs,cZ,m8,il,jP,l],by simp[g,f,bp,bs,cZ,m8,il,jP,l],by simp[g,f,bp,bs,cZ,m8,il,jP,l],by simp[g,f,bp,bs,cZ,m8,il,jP,l],by simp[g,f,bp,bs,cZ,m8,il,jP,l],by simp<;>omega⟩,by rw[ab.ai];exact congrArg (λx=>some (rk.cells x)) t,by rw[aaM];exact M,λx v=>?_⟩⟩
         have q1:=O x v
         by_cases e:N=x
         . subst e
           rw[aax (by omega)]
           have:(decide (r.1<=(N:Int)) && decide ((N:Int)<r.1+(j+1:Nat)))=true:=by rw[za,zU,zU];omega
           rw[this,Bool.or_true]
         . rw[aaq e,q1]
           have:(decide (r.1<=(x:Int)) && decide ((x:Int)<r.1+j))=(decide (r.1<=(x:Int)) && decide ((x:Int)<r.1+(j+1:Nat))):=by rw[aaL,za,za,zU,zU,zU];omega
           rw[this]
       . have ej:(j:Int)=r.2-r.1+1:=by omega
         have b1:=Ar L k y;rw[<-hr]at b1;refine⟨by omega,b9 _ y ⟨_,_,B2,r.2,rfl,⟨by simp[g,f,bp,bs,cZ,m8,il,jP,l],by simp[g,f,bp,bs,cZ,m8,il,jP,l],by simp[bp,b1,ej]<;>omega,by simp[g,f,bp,bs,cZ,m8,il,jP,l],by simp[g,f,bp,bs,cZ,m8,il,jP,l],by simp[g,f,bp,bs,cZ,m8,il,jP,l],by simp[g,f,bp,bs,cZ,m8,il,jP,l],by simp⟩,b0,M,λx v=>?_,⟨by omega,by omega⟩,λbB=>?_⟩⟩
         . rw[O x v,zA y,NK,<-hr]
           have:(decide (r.1<=(x:Int)) && decide ((x:Int)<r.1+j))=(decide (r.1<=(x:Int)) && decide ((x:Int)<=r.2)):=by rw[aaL,za,za,zU,zU,zU];omega
           rw[this]
         . have:=List.pairwise_iff_getElem.1 av k (k+1) y bB (by omega)
           rw[<-hr]at this;exact this
     . have ek:k=L.length:=by omega
       subst ek;rw[ZL]at bp J;rw[<-aC]at bp
       have b2:∀e∈B,e.cells=[e]:=λe Z=>by
        obtain⟨x,v,rfl⟩:=List.getElem_of_mem Z;have:=J x (by omega)
        rw[Rp v]at this;rw[ZR this];rfl
       refine aa.Jy 15 hB (by simp[g,f,bp,bs,cZ,m8,il,jP]) aO b2 ?_
       refine aa.iC (λenv _=>env 3=.cp (dv w) 0/\env 6=.sl 1 u .any/\env 10=int (dO w (i+1:Nat))/\env 11=int i/\env 15=.sl 1 B .any/\env 18=int 0) ?_ ?_
       . exact⟨by simp[g,f,bp,bs,cZ,m8,il,jP],by simp[g,f,bp,bs,cZ,m8,il,jP],by simp[g,f,bp,bs,cZ,m8,il,jP],by simp[g,f,bp,bs,cZ,m8,il,jP],by simp,by simp⟩
       clear g f bp bs cZ m8 il jP env
       rintro env T ⟨g,f,bp,bs,il,lU⟩
       have c6:=dk b2;refine aa.loop 73 (λh s=>∃env σ',s=⟨env,σ',[],.no⟩/\(env 3=.cp (dv w) 0/\env 6=.sl 1 u .any/\env 10=int (dO w (i+1:Nat))/\env 11=int i/\env 15=.sl 1 B .any/\env 18=int h)) ⟨env,T,rfl,g,f,bp,bs,il,lU⟩ ?_
       clear g f bp bs il lU env
       rintro c4 x _ v ⟨env,ed,rfl,g,f,bp,bs,il,lU⟩ c7
       apply rn;simp[g,f,bp,bs,il,lU];refine aG.intro (λg5=>?_) (λg5=>?_)<;>(try simp[-Int.not_lt,-Int.not_le,-Nat.not_lt,-Nat.not_le]at g5)<;>(try simp[g,f,bp,bs,il,lU,g5])
       . have o:x<73:=by omega
         have c9:=J x o;have U:=C x o;have ee:=F x
         have b3:decide (0<=pK (H x) i)=Py L x:=by rw[aaL,zU,jW,Pz,hH];exact (NJ (by omega)).trans (ax x (by omega) (by omega))
         simp[g,f,bp,bs,il,lU,c9,U,c6,ad];refine cf Tryz.func24 rfl (pL (by omega) ?_)
         apply pg;simp[g,f,bp,bs,il,lU,b3];apply rn;simp[g,f,bp,bs,il,lU];refine⟨by omega,c7 _ o ⟨_,_,rfl,by simp[g,f,bp,bs,il,lU],by simp[g,f,bp,bs,il,lU],by simp[g,f,bp,bs,il,lU],by simp[g,f,bp,bs,il,lU],by simp[g,f,bp,bs,il,lU],by simp⟩⟩
       . refine⟨by omega,b6 _ g2 ⟨_,_,rfl,by simp[g,f,bp,bs,il,lU],by simp[g,f,bp,bs,il,lU],by simp[g,f,bp,bs,il,lU],by simp⟩⟩
   . have ei:i=w.fair.aB.length:=by omega
     subst ei;have o2:eH w [] [] []=0:=yt Y (by simp) (by simp) (by simp)
     refine cf Tryz.func25 rfl (An hs Q.Jn hO o2 ?_);obtain⟨S,hS⟩:∃S,S=dO w w.fair.aB.length:=⟨_,rfl⟩;rw[<-hS]at bp ⊢;apply rn;simp[g,f,bp,bs];refine cf Tryz.func26 rfl (Ea hs Q.Jn hO o2 λs t=>?_)
     unfold Ao at t;rw[<-hH]at t;obtain⟨eg,aQ,D⟩:=t;have y1:¬(s:Int)<0:=by omega
     have y2:¬72<(s:Int):=by omega
     apply rn;simp[g,f,bp,bs,y1,y2];refine aa.iC (λenv _=>env 6=.sl 1 u .any/\env 21=int s/\env 23=int 0) ?_ ?_
     . exact⟨by simp[g,f,bp,bs],by simp,by simp⟩
     clear g f bp bs env
     rintro env aL ⟨f,m9,rR⟩
     refine aa.loop 73 (λx q=>∃env σ',q=⟨env,σ',[],.no⟩/\(env 6=.sl 1 u .any/\env 21=int s/\env 23=int x)) ⟨env,aL,rfl,f,m9,rR⟩ ?_
     clear f m9 rR env
     rintro c5 x _ v ⟨env,T,rfl,f,m9,rR⟩ V
     apply rn;simp[f,m9,rR];refine aG.intro (λg6=>?_) (λg6=>?_)<;>(try simp[-Int.not_lt,-Int.not_le,-Nat.not_lt,-Nat.not_le]at g6)<;>(try simp[f,m9,rR,g6])
     . have o:x<73:=by omega
       have U:=C x o;have ca:u[72]?=some (ints (H 72)):=C 72 (by omega)
       have l1:=F x;have l2:=F 72;simp[f,m9,rR,U,ca,ad];refine cf Tryz.func15 rfl (pM (by omega) (by omega) ?_)
       apply pg;simp[f,m9,rR];have f4:-9223372036854775808<=(s:Int)-1/\(s:Int)-1<=9223372036854775807:=by omega
       by_cases X:(s:Int)<=x
       . have Z:H x=H 72:=aQ x (by omega) (by omega)
         have E:((x:Int)==(s:Int)-1)=false:=by rw[beq_eq_false_iff_ne];omega
         apply rn;simp[f,m9,rR,X,Z,E,f4.1,f4.2];refine⟨by omega,V _ o ⟨_,_,rfl,by simp[f,m9,rR],by simp[f,m9,rR],by simp⟩⟩
       . by_cases E:(x:Int)=s-1
         . have cb:H x≠H 72:=by rw[E];exact D (by omega)
           have b4:(s:Int)-1=x:=E.symm;apply rn;simp[f,m9,rR,X,cb,b4];refine⟨by omega,by omega,V _ o ⟨_,_,rfl,by simp[f,m9,rR],by simp[f,m9,rR],by simp⟩⟩
         . have cg:((x:Int)==(s:Int)-1)=false:=by rw[beq_eq_false_iff_ne];exact E
           apply rn;simp[f,m9,rR,X,cg,f4.1,f4.2];refine⟨by omega,V _ o ⟨_,_,rfl,by simp[f,m9,rR],by simp[f,m9,rR],by simp⟩⟩
     . refine cf Tryz.func16 rfl (NB hs ?_)
       apply rn;simp[f,m9,rR];exact .done (h _)
end CS

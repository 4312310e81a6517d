import Derived.Test.YtkcceaplmgdnfaaGreatDoorC20
set_option linter.all false
set_option maxHeartbeats 2000000
set_option maxRecDepth 4000
namespace Go.Proofs.YtkcceaplmgdnfaaGreatDoor
open Go.Proofs.Tryz (prog)
section
open Go Go.cz Go.Conc
variable{m:Mo}{σ:ab}{KF:adm}
def oa(σ0 σ:ab)(l:List (AV × Nat × List AV)):Prop:=σ0.Le σ/\(∀t∈l,Tok σ0 σ t.1 t.2.1 t.2.2)/\l.Pairwise λt a=>∀b,bt t.1=some b->bt a.1≠some b
theorem oa.head{σ0 σ a kk es l}(h:oa σ0 σ ((a,kk,es)::l)):Tok σ0 σ a kk es:=h.2.1 _ (acJ)
theorem oa.perm{σ0 σ l d}(h:oa σ0 σ l)(e:l.Perm d):oa σ0 σ d:=⟨h.1,λt q=>h.2.1 t (e.mem_iff.2 q),(e.pairwise_iff λ{a b} q c f g=>q c g f).1 h.2.2⟩
theorem oa.PR{σ0 σ σ2 l c}(h:oa σ0 σ l)(b:σ0 c=none)(d:∃l,σ c=some (.cells l))(a:∀y,y≠c->σ2 y=σ y):oa σ0 σ2 l:=⟨λy x f=>by rw[a y λe=>by simp_all];exact h.1 y x f,λt q=>qX (h.2.1 t q) b d a,h.2.2⟩
theorem oa.app{σ0 σ σ' a a' kk kk' es c l}(h:oa σ0 σ ((a,kk,es)::l))(d:Tok (σ.off a) σ' a' kk' c):oa σ0 σ' ((a',kk',c)::l)/\∀y x,σ y=some (.cells x)->σ' y=some (.cells x):=by
 have f:=h.head;obtain⟨j,k⟩:=abg.1 h.2.2;have hb:=d.base f.here.2;have key:∀t∈l,Tok σ0 σ' t.1 t.2.1 t.2.2/\∀b,bt t.1=some b->bt a'≠some b:=λt q=>CE (h.2.1 t (abP _ q)) f (λb g i=>j t q b i g) d
 refine⟨⟨hb.1,λt q=>?_,abg.2 ⟨λt q b g i=>(key t q).2 b i g,k⟩⟩,λy x m=>d.1 _ _ ?_⟩
 . grind
 . rw[ab.dT λe=>by obtain⟨_,_,q⟩:=f.aZ e;simp_all];exact m
section
variable{c k:Nat}{nums:adA}
namespace WA
abbrev pl9:adr:=[⟨11,.take [0,2,3,8] false (.both 1 (.one 4 (.one 5 (.one 6 (.one 7 (.one 9 (.done)))))) (.one 4 (.both 1 (.one 5 (.one 6 (.one 7 (.one 9 (.done))))) (.one 5 (.both 1 (.one 6 (.one 7 (.one 9 (.done)))) (.one 6 (.take [1] true (.one 7 (.one 9 (.done))))))))))⟩,⟨18,.take [0,2,3,4,8,9,10,11,12,13,19] false (.both 1 (.both 5 (.take [6] false (.both 7 (.one 14 (.one 15 (.one 16 (.one 17 (.one 18 (.one 20 (.done))))))) (.one 14 (.one 7 (.one 15 (.one 16 (.one 17 (.one 18 (.one 20 (.done)))))))))) (.one 14 (.one 5 (.take [6] false (.one 7 (.one 15 (.one 16 (.one 17 (.one 18 (.one 20 (.done))))))))))) (.both 5 (.take [6] false (.both 1 (.both 7 (.one 14 (.one 15 (.one 16 (.one 17 (.one 18 (.one 20 (.done))))))) (.one 14 (.one 7 (.one 15 (.one 16 (.one 17 (.one 18 (.one 20 (.done))))))))) (.both 7 (.both 1 (.one 14 (.one 15 (.one 16 (.one 17 (.one 18 (.one 20 (.done))))))) (.one 14 (.both 1 (.one 15 (.one 16 (.one 17 (.one 18 (.one 20 (.done)))))) (.one 15 (.both 1 (.one 16 (.one 17 (.one 18 (.one 20 (.done))))) (.one 16 (.both 1 (.one 17 (.one 18 (.one 20 (.done)))) (.one 17 (.take [1] true (.one 18 (.one 20 (.done)))))))))))) (.one 14 (.both 1 (.one 7 (.one 15 (.one 16 (.one 17 (.one 18 (.one 20 (.done))))))) (.one 7 (.both 1 (.one 15 (.one 16 (.one 17 (.one 18 (.one 20 (.done)))))) (.one 15 (.both 1 (.one 16 (.one 17 (.one 18 (.one 20 (.done))))) (.one 16 (.both 1 (.one 17 (.one 18 (.one 20 (.done)))) (.one 17 (.take [1] true (.one 18 (.one 20 (.done)))))))))))))))) (.one 14 (.both 1 (.one 5 (.take [6] false (.one 7 (.one 15 (.one 16 (.one 17 (.one 18 (.one 20 (.done))))))))) (.one 5 (.take [6] false (.both 1 (.one 7 (.one 15 (.one 16 (.one 17 (.one 18 (.one 20 (.done))))))) (.one 7 (.both 1 (.one 15 (.one 16 (.one 17 (.one 18 (.one 20 (.done)))))) (.one 15 (.both 1 (.one 16 (.one 17 (.one 18 (.one 20 (.done))))) (.one 16 (.both 1 (.one 17 (.one 18 (.one 20 (.done)))) (.one 17 (.take [1] true (.one 18 (.one 20 (.done))))))))))))))))))⟩,⟨20,.take [0,1,3,6,7,8,9,10,13,14] false (.both 2 (.both 4 (.both 5 (.one 11 (.one 12 (.take [16] false (.one 15 (.done))))) (.one 11 (.one 5 (.one 12 (.take [16] false (.one 15 (.done))))))) (.one 11 (.one 4 (.one 5 (.one 12 (.take [16] false (.one 15 (.done)))))))) (.both 4 (.both 2 (.both 5 (.one 11 (.one 12 (.take [16] false (.one 15 (.done))))) (.one 11 (.one 5 (.one 12 (.take [16] false (.one 15 (.done))))))) (.one 11 (.one 2 (.one 5 (.one 12 (.take [16] false (.one 15 (.done)))))))) (.one 11 (.both 2 (.one 4 (.one 5 (.one 12 (.take [16] false (.one 15 (.done)))))) (.one 4 (.one 2 (.one 5 (.one 12 (.take [16] false (.one 15 (.done)))))))))))⟩]
theorem G1{cnt}(hk:k+600<1000000)(hn:nums.length<1152921504606846976)(c6:1<=cnt/\cnt<=6)(hb:bo c nums k σ)(h:∀  w   own lost  σ',OP cnt w own lost->pG c nums (k+600) σ σ'->KF (.val (.cA [dP w,ints own,ints lost])) σ'):az prog m 9 [.ref c 0,int cnt] σ KF:=by
 obtain⟨n0,s0,_,fi⟩:=id hb;refine fs pl9 Tryz.func9 rfl (by kernel_rfl) ?_
 simp[Tryz.f9];refine bS.intro λH h4=>?_
 have n4:c≠H:=λe=>by simp_all
 have av:∀x,bo c nums k (σ.set H x):=λx=>⟨n0,s0,by assumption,by rw[ab.ah _ _ n4];exact fi⟩
 simp;refine cf Tryz.func40 rfl (Kx (by omega) hn c6 (av _) λf U ej hS b3=>?_)
 refine aa.runN lay [] 6 ?_;simp;refine bS.intro λc7 h7=>?_
 simp[aM]
 change aa _ _ _ _ _ _ _ _ _
 refine aa.bd 7 (b:=c7) (bI f) (ab.ai _ _ _) (by simp) rfl ?_
 rw[eE h7];clear h7;apply rn;simp;refine bS.intro λG h9=>?_
 have u4:ej H=some (.cells [.nil,.nil,int 0,int 0,int 0,int 0,int 0,.nil,.nil]):=by rw[b3.2 H (zj n4),ab.ai]
 have n9:G≠c:=λe=>by subst e;obtain⟨_,_,_,q⟩:=b3.1;simp_all
 have a8:G≠H:=λe=>by simp_all
 simp[aM]
 have S:∀X,bo c nums (k+500) (ej.set G X):=λX=>by obtain⟨n,z,g1,g2⟩:=b3.1;exact⟨n,z,g1,by rw[ab.ah _ _ (zj n9)];exact g2⟩
 refine cf Tryz.func20 rfl (wx (by omega) hn (by omega) (S _) λon O b4=>?_)
 refine aa.runN lay [] 3 ?_;simp;obtain⟨M,hM⟩:∃M:Int,M=if on=true then 6 else f.aY:=⟨_,rfl⟩
 apply QB
 . intro key
   have v9:O G=some (.cells [.nil,rows f.roads,int f.aT,int f.eL,int f.cB,int f.aY,int 0,.nil,.nil]):=by rw[b4.2 G n9,ab.ai]
   have v4:O H=some (.cells [.nil,.nil,int 0,int 0,int 0,int 0,int 0,.nil,.nil]):=by rw[b4.2 H (zj n4),ab.ah _ _ (zj a8)];exact u4
   have vk:∀y,y≠c->y≠H->y≠G->O y=σ y:=λy y1 y2 y3=>by rw[b4.2 y y1,ab.ah _ _ y3,b3.2 y y1,ab.ah _ _ y2]
   cases on with
   | false=>
     simp;refine aa.runN lay [] 1 ?_;simp;refine aa.jQ (λenv σ'=>env 0=.ref c 0/\env 7=.cp (bI f) 0/\env 8=ints U/\env 4=.ref H 0/\env 9=.ref G 0/\bo c nums (k+501) σ'/\σ' H=some (.cells [.nil,.nil,int 0,int 0,int 0,int 0,int 0,.nil,.nil])/\σ' G=some (.cells [.nil,rows f.roads,int f.aT,int f.eL,int f.cB,int M,int 0,.nil,.nil])/\∀y,y≠c->y≠H->y≠G->σ' y=σ y) ?_ ?_
     . exact⟨by simp,by simp,by simp,by simp,by simp,b4.1,v4,by rw[hM];exact v9,vk⟩
     . exact key
   | true=>
     simp;refine aa.runN lay [] 5 ?_;simp[v9,aM];obtain⟨n,z,g1,g2⟩:=b4.1;refine aa.jQ (λenv σ'=>env 0=.ref c 0/\env 7=.cp (bI f) 0/\env 8=ints U/\env 4=.ref H 0/\env 9=.ref G 0/\bo c nums (k+501) σ'/\σ' H=some (.cells [.nil,.nil,int 0,int 0,int 0,int 0,int 0,.nil,.nil])/\σ' G=some (.cells [.nil,rows f.roads,int f.aT,int f.eL,int f.cB,int M,int 0,.nil,.nil])/\∀y,y≠c->y≠H->y≠G->σ' y=σ y) ?_ ?_
     . exact⟨by simp,by simp,by simp,by simp,by simp,⟨n,z,g1,by rw[ab.ah _ _ (zj n9)];exact g2⟩,by rw[ab.ah _ _ (zj a8)];exact v4,by rw[hM];exact ab.ai _ _ _,λy y1 y2 y3=>by rw[ab.ah _ _ y3];exact vk y y1 y2 y3⟩
     . exact key
 have fl:f.aY<=M/\M<=6:=by have:=hS.qh.aY;omega
 have s9:σ G=none:=by rw[<-h9,b3.2 G n9,ab.ah _ _ a8]
 rintro env ep ⟨v,A,B,D,F,bm,u4,u9,fp⟩
 apply rn;simp[v,A,B,D,F,u9];refine cf Tryz.func19 rfl (eV (by omega) hn (by omega) (by omega) bm λT bq hT a9=>?_)
 have ft:1<=T/\T<=4:=by omega
 have v9:bq G=some (.cells [.nil,rows f.roads,int f.aT,int f.eL,int f.cB,int M,int 0,.nil,.nil]):=by rw[a9.2 G n9];exact u9
 apply rn;simp[v,A,B,D,F,v9,aM]
 have fu:∀X,bo c nums (k+502) (bq.set G X):=λX=>by obtain⟨n,z,g1,g2⟩:=a9.1;exact⟨n,z,by omega,by rw[ab.ah _ _ (zj n9)];exact g2⟩
 refine cf Tryz.func18 rfl (eU (by omega) hn (by omega) (fu _) λx ad hx bw=>?_)
 have gx:0<=x/\x<=5:=by omega
 obtain⟨X,hX⟩:∃X:Nat,(X:Int)=x:=⟨x.toNat,by omega⟩
 apply rn;simp[v,A,B,D,F,v9]
 have et:(σ.del c).Le ad:=λy z hy=>by
  have y1:y≠c:=λe=>by subst e;simp[ab.del]at hy
  have y0:σ y=some z:=by simpa[ab.del,y1]using hy
  have y4:y≠H:=λe=>by simp_all
  have y9:y≠G:=λe=>by simp_all
  rw[bw.2 y y1,ab.ah _ _ y9,a9.2 y y1,fp y y1 y4 y9];exact y0
 have ev:oa (σ.del c) ad [(.nil,5,([]:List Way).map jN)]:=⟨et,λt q=>by rw[lb.1 q];exact⟨et,.inl ⟨rfl,rfl⟩⟩,List.pairwise_singleton _ _⟩
 have ey:bo c nums (k+503+7*0) ad:=bw.1.mono (by omega)
 refine QB (P:=?P2) (λkey=>?f2) ?p2
 case f2=>
  refine aa.loop X (λj s=>∃env σ' aw ws,s=⟨env,σ',[],.no⟩/\(env 0=.ref c 0/\env 7=.cp (bI f) 0/\env 8=ints U/\env 4=.ref H 0/\env 9=.ref G 0/\env 10=int (X-j))/\bo c nums (k+503+7*j) σ'/\σ' H=some (.cells [.nil,.nil,int 0,int 0,int 0,int 0,int 0,.nil,.nil])/\σ' G=some (.cells [.nil,rows f.roads,int f.aT,int f.eL,int f.cB,int M,int T,aw,.nil])/\oa (σ.del c) σ' [(aw,5,(ws:List Way).map jN)]/\ws.length<=j/\∀x∈ws,qy T x=0) ?_ ?_
  . exact⟨_,_,.nil,[],rfl,by simp[v,A,B,D,F,v9,hX],ey,by rw[bw.2 H (zj n4),ab.ah _ _ (zj a8),a9.2 H (zj n4)];exact u4,by rw[bw.2 G n9,ab.ai],ev,by simp⟩
  rintro c0 j _ hj ⟨env,σ',aw,ws,rfl,⟨v,A,B,D,F,cX⟩,bA,q4,V,J,fv,b5⟩ ih
  have a7:=J.head.cells;apply rn;simp[v,A,B,D,F,cX,V,a7.1,a7.2];refine sm.intro (λg1=>?_) (λg1=>?_)<;>(try simp[-Nat.not_lt,-Nat.not_le]at g1)<;>(try simp[v,A,B,D,F,cX,V,a7.1,a7.2,g1])
  rotate_left
  . have cg:k+503+7*j<=k+540:=by omega
    have cm:ws.length<=5:=by omega
    refine aa.jQ (λenv σ'=>∃aw ws,env 0=.ref c 0/\env 7=.cp (bI f) 0/\env 8=ints U/\env 4=.ref H 0/\env 9=.ref G 0/\env 11=.nil/\env 12=.nil/\env 13=int 0/\bo c nums (k+540) σ'/\σ' H=some (.cells [.nil,.nil,int 0,int 0,int 0,int 0,int 0,.nil,.nil])/\σ' G=some (.cells [.nil,rows f.roads,int f.aT,int f.eL,int f.cB,int M,int T,aw,.nil])/\oa (σ.del c) σ' [(aw,5,(ws:List Way).map jN)]/\ws.length<=5/\∀x∈ws,qy T x=0) ?_ ?_
    . refine⟨aw,ws,?_,?_,?_,?_,?_,?_,?_,?_,bA.mono cg,q4,V,J,cm,b5⟩<;>simp[v,A,B,D,F,cX,V,a7.1,a7.2]
    . exact key
  apply aG.intro<;>intro g2<;>simp at g2<;>simp[v,A,B,D,F,cX,V,a7.1,a7.2,g2]
  rotate_left
  . have cg:k+503+7*j<=k+540:=by omega
    have cm:ws.length<=5:=by omega
    refine aa.jQ (λenv σ'=>∃aw ws,env 0=.ref c 0/\env 7=.cp (bI f) 0/\env 8=ints U/\env 4=.ref H 0/\env 9=.ref G 0/\env 11=.nil/\env 12=.nil/\env 13=int 0/\bo c nums (k+540) σ'/\σ' H=some (.cells [.nil,.nil,int 0,int 0,int 0,int 0,int 0,.nil,.nil])/\σ' G=some (.cells [.nil,rows f.roads,int f.aT,int f.eL,int f.cB,int M,int T,aw,.nil])/\oa (σ.del c) σ' [(aw,5,(ws:List Way).map jN)]/\ws.length<=5/\∀x∈ws,qy T x=0) ?_ ?_
    . refine⟨aw,ws,?_,?_,?_,?_,?_,?_,?_,?_,bA.mono cg,q4,V,J,cm,b5⟩<;>simp[v,A,B,D,F,cX,V,a7.1,a7.2]
    . exact key
  apply yV (I:=λenv r=>∃a' x,env 0=.ref c 0/\env 7=.cp (bI f) 0/\env 8=ints U/\env 4=.ref H 0/\env 9=.ref G 0/\env 10=int (X-j)/\qy T x=0/\bo c nums (k+503+7*j+7) r/\r H=some (.cells [.nil,.nil,int 0,int 0,int 0,int 0,int 0,.nil,.nil])/\r G=some (.cells [.nil,rows f.roads,int f.aT,int f.eL,int f.cB,int M,int T,a',.nil])/\oa (σ.del c) r [(a',5,(ws.map jN)++[jN x])])
  . intro Y
    repeat' (first
              |apply And.intro
              | (refine cf Tryz.func21 rfl (WY.OK (by omega) hn (by omega) bA λx O cv hd=>?_)
                 have dj:∃l,σ' c=some (.cells l):=by obtain⟨_,_,_,q⟩:=bA;exact⟨_,q⟩
                 have L:=J.PR (by simp[ab.del]) dj hd.2
                 have ez:=L.head.cells;have r9:O G=some (.cells [.nil,rows f.roads,int f.aT,int f.eL,int f.cB,int M,int T,aw,.nil]):=by rw[hd.2 G n9];exact V
                 have r4:O H=some (.cells [.nil,.nil,int 0,int 0,int 0,int 0,int 0,.nil,.nil]):=by rw[hd.2 H (zj n4)];exact q4
                 apply pg;simp[v,A,B,D,F,cX,r9,ez.1,ez.2])
              | (refine aP lay rfl rfl rfl So rfl So rfl Vq (by decide) (by simp;omega) (σ0:=O.off aw) (es:=ws.map jN) (xs:=[jN x]) (by simpa using L.head.here.1) (.inr ⟨_,by simp;rfl⟩) λa' ep ax=>?_
                 obtain⟨b0,k3⟩:=L.app ax;have K:=b0.head.cells;have t9:=k3 _ _ r9;have t4:=k3 _ _ r4;apply pg;simp[v,A,B,D,F,cX,t9,K.1,K.2,aM];obtain⟨nb,zb,av,S⟩:=hd.1;have tc:=k3 _ _ S;refine Y _ _ ⟨a',x,by simp[v],by simp[A],by simp[B],by simp[D],by simp[F],by simp[cX],cv,⟨nb,zb,av,by rw[ab.ah _ _ (zj n9)];exact tc⟩,by rw[ab.ah _ _ (zj a8)];exact t4,ab.ai _ _ _,?_⟩
                 exact(b0.PR (by simp[ab.del,n9,s9]) ⟨_,t9⟩ λy hy=>ab.ah _ _ hy)))
  clear v A B D F cX env
  rintro env O ⟨a',x,v,A,B,D,F,cX,cv,S,r4,r9,L⟩
  apply rn;simp[v,A,B,D,F,cX];have r1:-9223372036854775808<=(X:Int)-j-1/\(X:Int)-j-1<=9223372036854775807:=by omega
  refine⟨r1,ih _ g1 ⟨_,_,a',ws++[x],rfl,⟨by simp[v,A,B,D,F,cX],by simp[v,A,B,D,F,cX],by simp[v,A,B,D,F,cX],by simp[v,A,B,D,F,cX],by simp[v,A,B,D,F,cX],?_⟩,?_,r4,r9,?_,?_,?_⟩⟩
  . simp;omega
  . omega
  . simpa using L
  . simp;omega
  . intro y hy
    rcases aaN.1 hy with q|q
    . exact b5 y q
    . rw[lb.1 q];exact cv
 case p2=>
 clear v A B D F env
 rintro env bB ⟨aw,ws,v,A,B,D,F,cq,fq,d,eA,eB,dm,R,fv,b5⟩
 obtain⟨Q,dr⟩:∃Q:Int->Int,Q=λi=>U.getD i.toNat 0:=⟨_,rfl⟩
 have h6:=hS.qh.pI;have gA:=hS.len;have gB:U.length=f.aA.length:=by obtain⟨_,_,_,_,q,_⟩:=hS.seen;exact q.len
 have fw:∀e∈f.aA,0<=e.hour/\e.hour<=72:=λe he=>(kB (hS.qh.qV e he)).1
 apply rn;simp[v,A,B,D,F,cq,fq,d,dm];have b6:=R.1
 have b7:oa (σ.del c) bB [(.nil,6,(([]:adA).map (aJ f)).map bc),(.nil,8,([]:List O4).map iv),(.nil,1,(([]:adA).map Q).map int),(.nil,1,(([]:adA).map Q).map int),(aw,5,ws.map jN)]:=by
  have n0:∀kk,Tok (σ.del c) bB .nil kk []:=λkk=>⟨b6,.inl ⟨rfl,rfl⟩⟩
  refine⟨b6,λt q=>?_,?_⟩
  . simp at q
    rcases q with rfl|rfl|rfl|rfl
    . exact n0 6
    . exact n0 8
    . exact n0 1
    . exact R.head
  . simp[bt]
 refine aa.loop f.aA.length (λi s=>∃env σ' aE Z aO aL E C cs,s=⟨env,σ',[],.no⟩/\(env 0=.ref c 0/\env 7=.cp (bI f) 0/\env 8=ints U/\env 4=.ref H 0/\env 9=.ref G 0/\env 11=aO/\env 12=aL/\env 13=int i)/\bo c nums (k+540+3*i) σ'/\σ' H=some (.cells [.nil,.nil,int 0,int 0,int 0,int 0,int 0,.nil,.nil])/\σ' G=some (.cells [aE,rows f.roads,int f.aT,int f.eL,int f.cB,int M,int T,aw,Z])/\oa (σ.del c) σ' [(aE,6,((E:adA).map (aJ f)).map bc),(Z,8,(cs:List O4).map iv),(aO,1,(E.map Q).map int),(aL,1,((C:adA).map Q).map int),(aw,5,ws.map jN)]/\E.length+C.length=i/\(∀x∈E++C,0<=x/\x<f.aA.length)/\cs.map (·.lost)=C.map (aJ f)/\cs.length<=3/\∀x∈cs,(0<=x.town/\x.town<T)/\(0<=x.hour/\x.hour<=72)/\x.lost.hour<=x.hour) ?_ ?_
 . refine⟨_,_,.nil,.nil,.nil,.nil,[],[],[],rfl,?_,eA,eB,dm,b7,rfl,by simp,rfl,by simp⟩
   simp_all
 clear b7 R b6 eB dm eA v A B D F cq fq d env
 rintro c0 i _ hi ⟨env,σ',aE,Z,aO,aL,E,C,cs,rfl,⟨v,A,B,D,F,cq,fq,d⟩,dx,q4,V,J,gC,c5,dy,eK,ea⟩ ih
 have g:=J.head.cells;have o:Z.cells=[Z]/\Z.flat=true:=(J.2.1 (Z,8,cs.map iv) (by simp)).cells
 have u:aO.cells=[aO]/\aO.flat=true:=(J.2.1 (aO,1,(E.map Q).map int) (by simp)).cells
 have p:aL.cells=[aL]/\aL.flat=true:=(J.2.1 (aL,1,(C.map Q).map int) (by simp)).cells
 have fx:∀l,(Z,8,cs.map iv)=l->True:=λ_ _=>trivial
 refine aa.runN lay [] 20 ?_;simp[v,A,B,D,F,cq,fq,d,V,g.1,g.2,o.1,o.2,u.1,u.2,p.1,p.2];apply aG.intro<;>intro g1<;>simp at g1<;>simp[v,A,B,D,F,cq,fq,d,V,g.1,g.2,o.1,o.2,u.1,u.2,p.1,p.2,g1]
 . refine aa.runN lay [] 2 ?_
   simp[v,A,B,D,F,cq,fq,d,V,g.1,g.2,o.1,o.2,u.1,u.2,p.1,p.2];refine bS.intro λfO eN=>?_
   simp[v,A,B,D,F,cq,fq,d,V,g.1,g.2,o.1,o.2,u.1,u.2,p.1,p.2,aM]
   change aa _ _ _ _ _ _ _ _ _
   refine aa.bd 14 (b:=fO) (bc f.aA[i]) (ab.ai _ _ _) (by simp) rfl ?_
   rw[eE eN];have gD:=fw _ (zs g1);have eR:aJ f i=f.aA[i]:=by simp[aJ,g1]
   generalize f.aA[i]=e at *;clear eN;apply rn;simp[v,A,B,D,F,cq,fq,d,V,g.1,g.2,o.1,o.2,u.1,u.2,p.1,p.2];refine cf Tryz.func20 rfl (wx (by omega) hn (by omega) dx λon O b1=>?_)
   have dj:∃l,σ' c=some (.cells l):=by obtain⟨_,_,_,q⟩:=dx;exact⟨_,q⟩
   have L:=J.PR (by simp[ab.del]) dj b1.2
   have r9:O G=some (.cells [aE,rows f.roads,int f.aT,int f.eL,int f.cB,int M,int T,aw,Z]):=by rw[b1.2 G n9];exact V
   have r4:O H=some (.cells [.nil,.nil,int 0,int 0,int 0,int 0,int 0,.nil,.nil]):=by rw[b1.2 H (zj n4)];exact q4
   have eW:=(L.2.1 (Z,8,cs.map iv) (by simp)).RA
   refine QB (P:=?P3) (λkey=>?f3) ?p3
   case f3 =>
    have gd:∀b,b=decide ((cs.length:Int)<3)->b=true->cs.length<3:=λb q1 q2=>by rw[q1]at q2;have:=abV q2;clear key;omega
    cases on with
    | false=>
      refine aa.runN lay [] 7 ?_;simp[v,A,B,D,F,cq,fq,d,V,g.1,g.2,o.1,o.2,u.1,u.2,p.1,p.2];refine aa.jQ (λenv r=>O=r/\env 0=.ref c 0/\env 7=.cp (bI f) 0/\env 8=ints U/\env 4=.ref H 0/\env 9=.ref G 0/\env 11=aO/\env 12=aL/\env 13=int i/\env 14=.cp (bc e) 0/\∃b,env 71=bool b/\(b=true->cs.length<3)) ?_ ?_
      . refine⟨rfl,?_,?_,?_,?_,?_,?_,?_,?_,?_,false,?_⟩<;>simp[v,A,B,D,F,cq,fq,d,V,g.1,g.2,o.1,o.2,u.1,u.2,p.1,p.2]
      . exact key
    | true=>
      rcases eW with ⟨q1,q2⟩|⟨sp,q1⟩
      . change Z=_ at q1
        rw[q1]at r9;refine aa.runN lay [] 7 ?_;simp[v,A,B,D,F,cq,fq,d,V,g.1,g.2,o.1,o.2,u.1,u.2,p.1,p.2,r9];refine aa.jQ (λenv r=>O=r/\env 0=.ref c 0/\env 7=.cp (bI f) 0/\env 8=ints U/\env 4=.ref H 0/\env 9=.ref G 0/\env 11=aO/\env 12=aL/\env 13=int i/\env 14=.cp (bc e) 0/\∃b,env 71=bool b/\(b=true->cs.length<3)) ?_ ?_
        . have hz:cs.length<3:=by
           cases cs with
           |nil=>exact(by decide)
           |cons a l=>cases q2
          refine⟨rfl,?_,?_,?_,?_,?_,?_,?_,?_,?_,true,?_,λ_=>hz⟩<;>simp[v,A,B,D,F,cq,fq,d,V,g.1,g.2,o.1,o.2,u.1,u.2,p.1,p.2]
        . exact key
      . change Z=_ at q1
        rw[q1]at r9;refine aa.runN lay [] 7 ?_;simp[v,A,B,D,F,cq,fq,d,V,g.1,g.2,o.1,o.2,u.1,u.2,p.1,p.2,r9];refine aa.jQ (λenv r=>O=r/\env 0=.ref c 0/\env 7=.cp (bI f) 0/\env 8=ints U/\env 4=.ref H 0/\env 9=.ref G 0/\env 11=aO/\env 12=aL/\env 13=int i/\env 14=.cp (bc e) 0/\∃b,env 71=bool b/\(b=true->cs.length<3)) ?_ ?_
        . refine⟨rfl,?_,?_,?_,?_,?_,?_,?_,?_,?_,decide ((cs.length:Int)<3),?_,gd _ rfl⟩<;>simp[v,A,B,D,F,cq,fq,d,V,g.1,g.2,o.1,o.2,u.1,u.2,p.1,p.2]
        . exact key
   case p3=>
   clear v A B D F cq fq d env eW
   rintro env _ ⟨rfl,v,A,B,D,F,cq,fq,d,pW,b,R2,bm⟩
   have rT:-9223372036854775808<=T-1/\T-1<=9223372036854775807:=by omega
   have rh:-9223372036854775808<=e.hour+6/\e.hour+6<=9223372036854775807:=by omega
   have gG:E.length<=i/\C.length<=i:=by omega
   cases b with
   | true=>
     have bm:=bm rfl
     apply yV (I:=λenv r=>∃a' nc,env 0=.ref c 0/\env 7=.cp (bI f) 0/\env 8=ints U/\env 4=.ref H 0/\env 9=.ref G 0/\env 11=aO/\env 12=aL/\env 13=int i/\bo c nums (k+540+3*i+3) r/\r H=some (.cells [.nil,.nil,int 0,int 0,int 0,int 0,int 0,.nil,.nil])/\r G=some (.cells [aE,rows f.roads,int f.aT,int f.eL,int f.cB,int M,int T,aw,a'])/\oa (σ.del c) r [(a',8,cs.map iv++[iv nc]),(aE,6,(E.map (aJ f)).map bc),(aO,1,(E.map Q).map int),(aL,1,(C.map Q).map int),(aw,5,ws.map jN)]/\nc.lost=e/\(0<=nc.town/\nc.town<T)/\(0<=nc.hour/\nc.hour<=72)/\nc.lost.hour<=nc.hour)
     . intro Y
       apply rn;simp[v,A,B,D,F,cq,fq,d,pW,R2,r9,g.1,g.2,o.1,o.2,rT.1,rT.2,rh.1,rh.2]
       repeat' (first
                 |apply And.intro
                 | (refine cf Tryz.func18 rfl (eU (by omega) hn (by omega) b1.1 λy1 ep gH b8=>?_)
                    have b0:=L.PR (by simp[ab.del]) (by obtain⟨_,_,_,q⟩:=b1.1;exact⟨_,q⟩) b8.2
                    have v9:=(b8.2 G n9).trans r9;have v4:=(b8.2 H (zj n4)).trans r4;apply pg;simp[v,A,B,D,F,cq,fq,d,pW,r9,v9,g.1,g.2,o.1,o.2,rT.1,rT.2,rh.1,rh.2])
                 | (refine cf Tryz.func19 rfl (eV (by omega) hn (by omega) ⟨by split<;>omega,by split<;>omega⟩ b8.1 λy2 bq gf a9=>?_)
                    have eX:=b0.PR (by simp[ab.del]) (by obtain⟨_,_,_,q⟩:=b8.1;exact⟨_,q⟩) a9.2
                    have x9:=(a9.2 G n9).trans v9;have x4:=(a9.2 H (zj n4)).trans v4;apply pg;simp[v,A,B,D,F,cq,fq,d,pW,x9,g.1,g.2,o.1,o.2,aM])
                 | (have hp:=eX.perm (List.Perm.swap (Z,8,cs.map iv) _ _)
                    refine aP lay rfl rfl rfl Qb rfl Qb rfl Vr (by decide) (by simp;omega) (σ0:=bq.off Z) (es:=cs.map iv) (xs:=[iv ⟨e,y1,y2⟩]) (by simpa using hp.head.here.1) (.inr ⟨.exact,by simp[aM]⟩) λa' ad ax=>?_
                    obtain⟨N,k5⟩:=hp.app ax;have K:=N.head.cells;have t9:=k5 _ _ x9;have t4:=k5 _ _ x4;apply pg;simp[v,A,B,D,F,cq,fq,d,pW,t9,K.1,K.2,aM];obtain⟨nb,zb,av,S⟩:=a9.1;have tc:=k5 _ _ S
                    refine Y _ _ ⟨a',⟨e,y1,y2⟩,by simp[v],by simp[A],by simp[B],by simp[D],by simp[F],by simp[cq],by simp[fq],by simp[d],⟨nb,zb,by omega,by rw[ab.ah _ _ (zj n9)];exact tc⟩,by rw[ab.ah _ _ (zj a8)];exact t4,ab.ai _ _ _,N.PR (by simp[ab.del,n9,s9]) ⟨_,t9⟩ λy hy=>ab.ah _ _ hy,rfl,by simp only;omega,?_,?_⟩
                    . simp only;revert gf;split<;>omega
                    . simp only;omega))
     clear v A B D F cq fq d pW R2 env
     rintro env ad ⟨a',nc,v,A,B,D,F,cq,fq,d,eb,ec,ed,N,gj,gI,gP,gR⟩
     have b2:i<U.length:=by omega
     have K:=N.head.cells;apply rn;simp[v,A,B,D,F,cq,fq,d,K.1,K.2,p.1,p.2,b2];have hp:=N.perm (acQ (a:=(aL,1,(C.map Q).map int)) (l₁:=[(a',8,cs.map iv++[iv nc]),(aE,6,(E.map (aJ f)).map bc),(aO,1,(E.map Q).map int)]) (l₂:=[(aw,5,ws.map jN)]));have b9:Q (i:Int)=U[i]:=by rw[dr];simp[b2]
     refine aP lay rfl rfl rfl dD rfl dD rfl rH (by decide) (by simp;omega) (σ0:=ad.off aL) (es:=(C.map Q).map int) (xs:=[int U[i]]) (by simpa using hp.head.here.1) (.inr ⟨_,rfl⟩) λfc bB ax=>?_
     obtain⟨R,k6⟩:=hp.app ax;have ca:=R.head.cells;have t9:=k6 _ _ ed;have t4:=k6 _ _ ec;apply rn;simp[v,A,B,D,F,cq,fq,d,K.1,K.2,p.1,p.2,ca.1,ca.2];obtain⟨nb,zb,av,S⟩:=eb;have tc:=k6 _ _ S;have ee:=R.perm ((acQ (a:=(fc,1,(C.map Q).map int++[int U[i]])) (l₁:=[(a',8,cs.map iv++[iv nc]),(aE,6,(E.map (aJ f)).map bc),(aO,1,(E.map Q).map int)]) (l₂:=[(aw,5,ws.map jN)])).symm.trans (List.Perm.swap _ _ _))
     refine⟨by omega,ih _ g1 ⟨_,_,aE,a',aO,fc,E,C++[(i:Int)],cs++[nc],rfl,?_,⟨nb,zb,by omega,tc⟩,t4,t9,?_,?_,?_,?_,?_,?_⟩⟩
     . exact by simp[v,A,B,D,F,cq,fq,d,K.1,K.2,p.1,p.2]
     . simpa[b9]using ee
     . simp;omega
     . intro x hx
       rw[<-List.append_assoc]at hx
       rcases aaN.1 hx with q|q
       . exact c5 x q
       . rw[lb.1 q];omega
     . rw[aaY,aaY,dy];simp[gj,eR]
     . simp;omega
     . intro x hx
       rcases aaN.1 hx with q|q
       . exact ea x q
       . rw[lb.1 q];omega
   | false=>
     have b2:i<U.length:=by omega
     have b9:Q (i:Int)=U[i]:=by rw[dr];simp[b2]
     apply yV (I:=λenv r=>∃al ay,env 0=.ref c 0/\env 7=.cp (bI f) 0/\env 8=ints U/\env 4=.ref H 0/\env 9=.ref G 0/\env 11=ay/\env 12=aL/\env 13=int i/\bo c nums (k+540+3*i+3) r/\r H=some (.cells [.nil,.nil,int 0,int 0,int 0,int 0,int 0,.nil,.nil])/\r G=some (.cells [al,rows f.roads,int f.aT,int f.eL,int f.cB,int M,int T,aw,Z])/\oa (σ.del c) r [(ay,1,(E.map Q).map int++[int U[i]]),(al,6,(E.map (aJ f)).map bc++[bc e]),(Z,8,cs.map iv),(aL,1,(C.map Q).map int),(aw,5,ws.map jN)])
     . intro Y
       apply rn;simp[v,A,B,D,F,cq,fq,d,pW,R2,r9,g.1,g.2,u.1,u.2,b2]
       repeat' (first
                 |apply And.intro
                 | (refine aP lay rfl rfl rfl nk rfl nk rfl zE (by decide) (by simp;omega) (σ0:=O.off aE) (es:=(E.map (aJ f)).map bc) (xs:=[bc e]) (by simpa using L.head.here.1) (.inr ⟨.exact,by simp⟩) λal ad ax=>?_
                    obtain⟨N,k5⟩:=L.app ax;have K:=N.head.cells;have t9:=k5 _ _ r9;have t4:=k5 _ _ r4;apply pg;simp[v,A,B,D,F,cq,fq,d,pW,t9,K.1,K.2,u.1,u.2,b2])
                 | (have hp:=N.perm (acQ (a:=(aO,1,(E.map Q).map int)) (l₁:=[(al,6,(E.map (aJ f)).map bc++[bc e]),(Z,8,cs.map iv)]) (l₂:=[(aL,1,(C.map Q).map int),(aw,5,ws.map jN)]))
                    refine aP lay rfl rfl rfl dD rfl dD rfl rH (by decide) (by simp;omega) (σ0:=ad.off aO) (es:=(E.map Q).map int) (xs:=[int U[i]]) (by simpa using hp.head.here.1) (.inr ⟨.exact,by simp⟩) λay bB gl=>?_
                    obtain⟨R,k6⟩:=hp.app gl;have cb:=R.head.cells;have x9:=k6 _ _ t9;have x4:=k6 _ _ t4;apply pg;simp[v,A,B,D,F,cq,fq,d,pW,x9,K.1,K.2,cb.1,cb.2,aM];obtain⟨nb,zb,av,S⟩:=b1.1;have tc:=k6 _ _ (k5 _ _ S);exact Y _ _ ⟨al,ay,by simp[v],by simp[A],by simp[B],by simp[D],by simp[F],by simp,by simp[fq],by simp[d],⟨nb,zb,by omega,by rw[ab.ah _ _ (zj n9)];exact tc⟩,by rw[ab.ah _ _ (zj a8)];exact x4,ab.ai _ _ _,R.PR (by simp[ab.del,n9,s9]) ⟨_,x9⟩ λy hy=>ab.ah _ _ hy⟩))
     clear v A B D F cq fq d pW R2 env
     rintro env ad ⟨al,ay,v,A,B,D,F,cq,fq,d,eb,ec,ed,N⟩
     apply rn;simp[v,A,B,D,F,cq,fq,d];have ee:=N.perm ((acQ (a:=(ay,1,(E.map Q).map int++[int U[i]])) (l₁:=[(al,6,(E.map (aJ f)).map bc++[bc e]),(Z,8,cs.map iv)]) (l₂:=[(aL,1,(C.map Q).map int),(aw,5,ws.map jN)])).symm);refine⟨by omega,ih _ g1 ⟨_,_,al,Z,ay,aL,E++[(i:Int)],C,cs,rfl,?_,eb.mono (by omega),ec,ed,?_,?_,?_,dy,eK,ea⟩⟩
     . exact by simp[v,A,B,D,F,cq,fq,d]
     . simpa[b9,eR]using ee
     . simp;omega
     . intro x hx
       rcases aaN.1 hx with q|q
       . rcases aaN.1 q with q|q
         . exact c5 x (List.mem_append_left _ q)
         . rw[lb.1 q];omega
       . exact c5 x (List.mem_append_right _ q)
 . have ei:i=f.aA.length:=by omega
   have fg:aw.cells=[aw]/\aw.flat=true:=(J.2.1 (aw,5,ws.map jN) (by simp)).cells
   simp[v,A,B,D,F,cq,fq,d,V,g.1,g.2,o.1,o.2,u.1,u.2,p.1,p.2,fg.1,fg.2,q4,ab.ah,a8,zj a8,aM];apply rn;simp[v,A,B,D,F,cq,fq,d,V,g.1,g.2,o.1,o.2,u.1,u.2,p.1,p.2];obtain⟨w,hw⟩:∃w:gO,w=⟨⟨E.map (aJ f),f.roads,f.aT,f.eL,f.cB,M⟩,T,ws,cs⟩:=⟨_,rfl⟩
   have eg:OP cnt w (E.map Q) (C.map Q):=by subst hw;subst dr;exact QK hS c6.2 c5 (by omega) rfl dy rfl rfl rfl rfl fl ft b5 (show ws.length<=5 by omega) eK ea
   obtain⟨nb,zb,av,S⟩:=dx
   have gp:(AV.agg [aE,rows f.roads,int f.aT,int f.eL,int f.cB,int M,int T,aw,Z]).W (dP w):=by
    subst hw;refine qm rfl λi x y h1 h2=>?_
    match i with
    |0=>cases h1;cases h2;exact J.head.W
    |1=>cases h1;cases h2;exact .refl _
    |2=>cases h1;cases h2;exact .refl _
    |3=>cases h1;cases h2;exact .refl _
    |4=>cases h1;cases h2;exact .refl _
    |5=>cases h1;cases h2;exact .refl _
    |6=>cases h1;cases h2;exact .refl _
    |7=>cases h1;cases h2;exact(J.2.1 (aw,5,ws.map jN) (by simp)).W
    |8=>cases h1;cases h2;exact(J.2.1 (Z,8,cs.map iv) (by simp)).W
    |i+9=>cases h1
   have gw:(AV.cA [.agg [aE,rows f.roads,int f.aT,int f.eL,int f.cB,int M,int T,aw,Z],aO,aL]).W (.cA [dP w,ints (E.map Q),ints (C.map Q)]):=by
    refine NX rfl λi x y h1 h2=>?_
    match i with
    |0=>cases h1;cases h2;exact gp
    |1=>cases h1;cases h2;exact(J.2.1 (aO,1,(E.map Q).map int) (by simp)).W
    |2=>cases h1;cases h2;exact (J.2.1 (aL,1,(C.map Q).map int) (by simp)).W
    |i+3=>cases h1
   refine .om gw (.less (σ':=σ.set c (.cells [ints nums,int nb,.lit (.int .u64 zb)])) (λy x hy=>?_) (.done (h w _ _ _ eg ⟨⟨nb,zb,by omega,ab.ai _ _ _⟩,λy hy=>ab.ah _ _ hy⟩)))
   by_cases y1:y=c
   . subst y1
     rw[ab.ai]at hy;rw[ab.ah _ _ n4,S];exact hy
   . rw[ab.ah _ _ y1]at hy
     have y4:y≠H:=λe=>by subst e;grind
     rw[ab.ah _ _ y4];exact J.1 y x (by simpa[ab.del,y1]using hy)
end WA
end
end
section
open Go.cz Go.Conc
variable{m:Mo}{σ:ab}{KF:adm}
theorem E6{w}(f:nu w=0){a b c}(d:∀x∈a,0<=x/\x<=72)(hb:∀x∈b,0<=x/\x<(w.fair.aA.length:Int))(e:∀x∈c,0<=x/\x<(w.aD.length:Int)):fh w a b c=0:=by
 have g:a.all (br · 0 72)=true:=aaL.2 λx q=>by have:=d x q;simp only[br,za,aaG];omega
 have h:b.all (br · 0 (w.fair.aA.length-1))=true:=aaL.2 λx q=>by have:=hb x q;simp only[br,za,aaG];omega
 have i:c.all (br · 0 (w.aD.length-1))=true:=aaL.2 λx q=>by have:=e x q;simp only[br,za,aaG];omega
 unfold fh
 grind
end
section
open Go.cz Go.Conc
def dF(f:Fr)(e:wu)(h:Int):Bool:=if e.gg=0 then decide (e.aX=h)else if e.gg=1 then br (e.aX-h) f.aT f.eL else decide (e.aX=h)||br (e.aX-h) f.aT f.eL
def uS:adA:=(List.range 34).map λi:Nat=>(i:Int)-3
def ib(f:Fr)(l:adA):adA:=uS.filter λh=>l.all λn=>dF f (aJ f n) h
theorem qE{a lo hi}:br a lo hi=true↔lo<=a/\a<=hi:=by simp[br]
theorem Bg{f e h}(a:e.gg≠0):h∈gY f e↔f.aT<=e.aX-h/\e.aX-h<=f.eL:=by
 rw[Ek a,aaU];constructor
 . grind
 . rintro⟨b,c⟩
   exact⟨(h-(e.aX-f.eL)).toNat,Rp.2 (by omega),by omega⟩
theorem G2{f e}(a:e.gg=0):gY f e=[]:=by unfold gY;simp_all
theorem uT{f e h}(c:0<=e.gg/\e.gg<=2):h∈bH f e↔dF f e h=true:=by
 unfold dF;by_cases a:e.gg=0
 . rw[aaK a]
   unfold bH;rw[G2 a,aaK ⟨by omega,by simp⟩]
   grind
 rw[aaJ a];by_cases b:e.gg=1
 . rw[aaK b]
   unfold bH;rw[aaJ (by simp[b]),Bg a,qE]
 . rw[aaJ b,abX,aaG,qE,<-Bg a]
   unfold bH
   grind
theorem CG:∀{l c:adA},l.Pairwise (·<·)->c.Pairwise (·<·)->(∀x,x∈l↔x∈c)->l=c
 |[],[],_,_,_=>rfl
 |[],b::c,_,_,h=>absurd ((h b).2 (by simp)) (by simp)
 |a::l,[],_,_,h=>absurd ((h a).1 (by simp)) (by simp)
 | a::l,b::c,d,f,h=>by
   obtain⟨j,g⟩:=abg.1 d;obtain⟨k,i⟩:=abg.1 f
   have e:a=b:=by
    have m:=(h a).1 (by simp);have hb:=(h b).2 (by simp)
    grind
   subst e;rw[CG g i λx=>?_]
   grind
theorem OQ{h}:h∈uS↔-3<=h/\h<=30:=by
 unfold uS;rw[aaU];constructor
 . grind
 . rintro⟨a,b⟩
   exact⟨(h+3).toNat,Rp.2 (by omega),by omega⟩
theorem Ky{f}(b:f.Good){e}(c:e∈f.aA){h}(a:dF f e h=true):-3<=h/\h<=30:=by
 have hb:=(kB (b.qV e c)).2.2.2.1;have d:=b.fr;have g:=b.to;unfold dF at a;split at a
 . grind
 split at a
 . have:=qE.1 a;omega
 . rw[abX,aaG,qE]at a
   omega
theorem CH{f}(g:f.Good){l}(d:l≠[])(i:∀n∈l,0<=n/\n<f.aA.length){h}:h∈ib f l↔∀j∈l,h∈bH f (aJ f j):=by
 unfold ib;rw[abv,OQ,aaL];have e:∀j∈l,0<=(aJ f j).gg/\(aJ f j).gg<=2:=λj b=>(kB (g.qV _ (fI (i j b)))).2.2.2.2.1
 constructor
 . rintro⟨_,c⟩ j b
   exact(uT (e j b)).2 (c j b)
 . intro c
   obtain⟨a,r,rfl⟩:=List.exists_cons_of_ne_nil d;refine⟨Ky g (fI (i a (by simp))) ((uT (e a (by simp))).1 (c a (by simp))),λj b=>(uT (e j b)).1 (c j b)⟩
def tQ(a b:adA):Int:=(((List.range 5).filter λi:Nat=>decide ((i:Int)∈a)!=decide ((i:Int)∈b)).length:Int)
def Io:adg:=(List.range 32).map λx:Nat=>((List.range 5).map λi:Nat=>(i:Int)).filter λi=>x.testBit i.toNat
theorem E7:∀{l p},mE p l=0->(∀q,p=some q->∀x∈l,q<x)/\l.Pairwise (·<·)
 |[],p,_=>⟨λ_ _ x b=>(by cases b),List.Pairwise.nil⟩
 | a::l,p,h=>by
   unfold mE at h;split at h
   . cases h
   split at h
   . cases h
   next c=>
   obtain⟨d,e⟩:=E7 h;have b:∀x∈l,a<x:=d a rfl;refine⟨λq f x g=>?_,abg.2 ⟨b,e⟩⟩;subst f;have:q<a:=by simpa[yj]using c
   grind
theorem Kz:∀a b c d e ,(((List.range 5).map λi:Nat=>(i:Int)).filter λi=>[a,b,c,d,e].getD i.toNat false)∈Io:=by decide +kernel
theorem Bh{l}(h:mE none l=0):l∈Io:=by
 have c:=ln h;have d:=(E7 h).2
 have:l=((List.range 5).map λi:Nat=>(i:Int)).filter λi=>[decide ((0:Int)∈l),decide ((1:Int)∈l),decide ((2:Int)∈l),decide ((3:Int)∈l),decide ((4:Int)∈l)].getD i.toNat false:=by
  refine CG d ?_ λx=>?_
  . refine List.Pairwise.filter _ ?_
    simp_all
  . rw[abv,aaU]
    constructor
    . intro a
      have hb:=c x a;refine⟨⟨x.toNat,Rp.2 (by omega),by omega⟩,?_⟩;have:x=0\/x=1\/x=2\/x=3\/x=4:=by omega
      rcases this with rfl|rfl|rfl|rfl|rfl<;>simpa using a
    . rintro⟨⟨i,b,rfl⟩,a⟩
      have b:=Rp.1 b;have:i=0\/i=1\/i=2\/i=3\/i=4:=by omega
      rcases this with rfl|rfl|rfl|rfl|rfl<;>simpa using a
 rw[this];exact Kz _ _ _ _ _
theorem QL:∀a∈Io,∀b∈Io,tQ a b=bx (aR a) (aR b):=by decide +kernel
theorem E8{a b}(c:mE none a=0)(hb:mE none b=0):tQ a b=bx (aR a) (aR b):=QL _ (Bh c) _ (Bh hb)
def tR(f:Fr)(l:adA):adA:=((List.range f.aA.length).map λi:Nat=>(i:Int)).filter λi=>decide (i∈l)
def CI(f:Fr)(l:adA):Bool:=l.all λn=>decide ((aJ f n).bX=(aJ f (l.getD 0 0)).bX)
theorem Ip  f   l :(tR f l).Pairwise (·<·):=by refine List.Pairwise.filter _ ?_;rw[List.pairwise_map];exact List.pairwise_lt_range.imp λh=>by omega
theorem yX{f l x}:x∈tR f l↔(0<=x/\x<f.aA.length)/\x∈l:=by
 unfold tR;rw[abv,aaU,aaG];constructor
 . grind
 . rintro⟨a,h⟩
   exact⟨⟨x.toNat,Rp.2 (by omega),by omega⟩,h⟩
theorem OR  f  {l}(b:l≠[]):CI f l=!dt f (aI f l):=by
 have c:=iR f l;have d:∀n,n∈aI f l↔n∈l:=λn=>c.mem_iff
 have z:∀{r:adA},r≠[]->r.getD 0 0∈r:=λ{r} h=>by grind
 have a:aI f l≠[]:=λe=>by simp_all
 rw[ach];unfold CI dt
 grind
theorem G3{f}(c:f.Good){l}(b:l≠[])(d:∀n∈l,0<=n/\n<f.aA.length):decide (ib f l≠[])=!cy f (aI f l):=by
 have g:=iR f l;have j:∀n,n∈aI f l↔n∈l:=λn=>g.mem_iff
 have a:aI f l≠[]:=λe=>by simp_all
 have key:∀x,x∈ib f l↔x∈fH f (aI f l):=λx=>by
  rw[CH c b d,oZ a]
  simp_all
 unfold cy;rw[ach,abZ,aaG,abq];constructor
 . intro h e
   obtain⟨x,i⟩:=abG _ h
   simp_all
 . intro h e
   obtain⟨x,i⟩:=abG _ h
   simp_all
end
section
open Go.cz Go.Conc
variable{m:Mo}{σ:ab}{KF:adm}
theorem du{n lo hi}(h:KF (.val (bool (br n lo hi))) σ):az prog m 171 [int n,int lo,int hi] σ KF:=by
 unfold br at h;refine fs [] Tryz.func171 rfl (by kernel_rfl) ?_;simp[Tryz.f171];refine sm.intro (λa=>?_) (λa=>?_)<;>(try simp[-Int.not_lt,-Int.not_le]at a)<;>(try simp[a]at h)<;>(try simp[a])<;>(try exact .done h)
theorem CJ{l n}(i:l.length<1152921504606846976)(h:KF (.val (bool (decide (n∈l)))) σ):az prog m 173 [ints l,int n] σ KF:=by
 refine fs [] Tryz.func173 rfl (by kernel_rfl) ?_;simp[Tryz.f173];refine aa.loop l.length (λk s=>∃env,s=⟨env,σ,[],.no⟩/\env 0=ints l/\env 1=int n/\env 5=int k/\n∉l.take k) ⟨_,rfl,by simp⟩ ?_;rintro j k _ o ⟨env,rfl,a,b,c,d⟩ g;rcases aaX k l.length with g1|g1
 . have e:(k:Int)<l.length:=by omega
   have f1:-9223372036854775808<=(k:Int)+1/\(k:Int)+1<=9223372036854775807:=by omega
   apply rn;simp[a,b,c,g1,e];apply aG.intro<;>intro f<;>simp at f<;>simp[a,b,c,f]
   . have:n∈l:=by grind
     simp[this]at h;exact .done h
   . exact⟨by omega,g _ g1 ⟨_,rfl,by simp_all,by simp_all,by simp,tz g1 d f⟩⟩
 . have:k=l.length:=by omega
   subst this;rw[aaQ]at d;apply rn;simp[a,b,c];simp[d]at h;exact .done h
theorem vG{f n}(a:f.aA.length<1152921504606846976)(h:KF (.val (bool (br n 0 (f.aA.length-1)))) σ):az prog m 139 [bI f,int n] σ KF:=by
 have f1:-9223372036854775808<=(f.aA.length:Int)-1/\(f.aA.length:Int)-1<=9223372036854775807:=by omega
 refine fs [] Tryz.func139 rfl (by kernel_rfl) ?_;simp[Tryz.f139,f1.1,f1.2];refine cf Tryz.func171 rfl (du ?_);apply rn;simp;exact .done h
theorem yY{f e}(v:f.roads.length<1152921504606846976)(w:e.marks.length<1152921504606846976)(h:KF (.val (int (bL f.roads.length e))) σ):az prog m 172 [bI f,bc e] σ KF:=by
 unfold bL at h;have f1:-9223372036854775808<=(f.roads.length:Int)-1/\(f.roads.length:Int)-1<=9223372036854775807:=by omega
 refine fs VJ Tryz.func172 rfl (by kernel_rfl) ?_;simp[Tryz.f172];refine cf Tryz.func171 rfl (du ?_);apply rn;simp;refine aG.intro (λj=>?_) (λj=>?_)<;>(try simp at j)<;>(try simp[j]at h)<;>(try simp[j,f1.1,f1.2])<;>(try exact .done h);refine cf Tryz.func171 rfl (du ?_);apply rn;simp;refine aG.intro (λl=>?_) (λl=>?_)<;>(try simp at l)<;>(try simp[l]at h)<;>(try simp[l])<;>(try exact .done h);refine cf Tryz.func171 rfl (du ?_);apply rn;simp;refine aG.intro (λn=>?_) (λn=>?_)<;>(try simp at n)<;>(try simp[n]at h)<;>(try simp[n])<;>(try exact .done h);refine aa.loop e.marks.length (λk s=>∃env,s=⟨env,σ,[],.no⟩/\env 2=.cp (bI f) 0/\env 3=.cp (bc e) 0/\env 5=int k/\mE none e.marks=mE (if k=0 then none else e.marks[k-1]?) (e.marks.drop k)) ⟨_,rfl,by simp⟩ ?_;rintro x k _ y ⟨env,rfl,b,c,d,a⟩ z;rcases aaX k e.marks.length with g4|g4
 . have p:(k:Int)<e.marks.length:=by omega
   have A:-9223372036854775808<=(k:Int)+1/\(k:Int)+1<=9223372036854775807:=by omega
   rw[H2 _ k g4]at a;apply rn;simp[b,c,d,g4,p];refine cf Tryz.func171 rfl (du ?_);apply rn;simp[b,c,d];refine aG.intro (λg=>?_) (λg=>?_)<;>(try simp at g)<;>(try simp[g]at a)<;>(try simp[b,c,d,g])<;>(try exact .done a)
   . refine Lb.intro (λi=>?_) (λi=>?_)<;>(try simp at i)<;>(try simp[i]at a)<;>(try simp[b,c,d,i,g4])<;>(try exact .done a)
     . have r:(k:Int)-1=((k-1:Nat):Int):=by omega
       have q:k-1<e.marks.length:=by omega
       have t:¬k=0:=by omega
       simp[r,q];repeat refine⟨by omega,?_⟩
       try simp[q,t,yj]at a
       apply rn;simp[b,c,d];refine aG.intro (λo=>?_) (λo=>?_)<;>(try simp[-Int.not_lt,-Int.not_le]at o)<;>(try simp[o]at a)<;>(try simp[b,c,d,o])<;>(try exact .done a)
       . simp[a]at h
         exact .done h
       simp_all
     . have u:k=0:=by omega
       subst u;simp[yj]at a;apply rn
       simp_all
   . simp[a]at h
     exact .done h
 . have:k=e.marks.length:=by omega
   subst this;simp[mE]at a;simp[a]at h;apply rn;simp[b,c,d];refine cf Tryz.func171 rfl (du ?_);apply rn;simp[b,c,d];refine aG.intro (λg=>?_) (λg=>?_)<;>(try simp at g)<;>(try simp[g]at h)<;>(try simp[b,c,d,g])<;>(try exact .done h);refine cf Tryz.func171 rfl (du ?_);apply rn;simp[b,c,d];refine aG.intro (λi=>?_) (λi=>?_)<;>(try simp at i)<;>(try simp[i]at h)<;>(try simp[b,c,d,i])<;>(try exact .done h)
def yZ(r:adg)(i j:Nat):Bool:=(decide (i=j) && rd r i j !=0)||rd r i j !=rd r j i||(List.range r.length).any λk=>decide (rd r i j>rd r i k+rd r k j)
theorem KA{r i j}(a:yZ r i i=false)(b:yZ r i j=false):bY r i j=false:=by
 unfold yZ at a b;unfold bY
 grind
theorem y7{r}(hr:r.length<1152921504606846976)(hl:∀l∈r,l.length<1152921504606846976)(h:KF (.val (int (eT r))) σ):az prog m 170 [rows r] σ KF:=by
 unfold eT at h;refine fs VI Tryz.func170 rfl (by kernel_rfl) ?_
 simp[Tryz.f170];refine aG.intro (λT=>?_) (λT=>?_)<;>simp at T<;>simp[T]
 . rw[aaK (show r.length<1 by simp[T])]at h
   exact .done h
 have P:¬r.length<1:=λq=>T (acp.1 (by omega))
 refine aG.intro (λg2=>?_) (λg2=>?_)<;>simp at g2<;>simp[g2]
 . have K:3<r.length:=by omega
   rw[aaJ P,aaK K]at h;exact .done h
 have K:¬3<r.length:=by omega
 rw[aaJ P,aaJ K]at h;refine aa.loop r.length (λk s=>∃env,s=⟨env,σ,[],.no⟩/\env 0=rows r/\env 3=int r.length/\env 4=int k/\fB r.length r=fB r.length (r.drop k)) ⟨_,rfl,by simp⟩ ?_
 rintro c0 k _ Q ⟨env,rfl,a,b,o,w⟩ ih
 rcases aaX k r.length with g4|g4
 . have g:(k:Int)<r.length:=by omega
   rw[yk _ _ k g4]at w;obtain⟨l,d⟩:∃l,l=r[k]:=⟨_,rfl⟩;have aC:l.length<1152921504606846976:=hl l (by rw[d];exact zs g4)
   by_cases g5:l.length=r.length
   . have L:((l.length:Int) !=r.length)=false:=by simp[g5]
     rw[<-d]at w;apply rn;simp[a,b,o,g4,g,d.symm,L];refine aa.loop l.length (λj s=>∃env,s=⟨env,σ,[],.no⟩/\env 0=rows r/\env 3=int r.length/\env 4=int k/\env 5=int j/\(l.take j).all (br · 0 9)=true) ⟨_,rfl,by simp[a,b,o]⟩ ?_
     clear a b o
     rintro c1 j _ R ⟨env,rfl,a,b,o,J,x⟩ E
     rcases aaX j l.length with g6|g6
     . have y:(j:Int)<r.length:=by omega
       apply rn;simp[a,b,o,J,g4,g,d.symm,g6,y];refine cf Tryz.func171 rfl (du ?_);apply rn;simp[a,b,o,J,g4,g,d.symm];refine aG.intro (λU=>?_) (λU=>?_)<;>(try simp at U)<;>(try simp[a,b,o,J,g4,g,d.symm,U])
       . refine⟨by omega,E _ g6 ⟨_,rfl,by simp[a,b,o,J,g4,g,d.symm],by simp[a,b,o,J,g4,g,d.symm],by simp[a,b,o,J,g4,g,d.symm],by simp,?_⟩⟩
         rw[zG g6,acC,x];simp[U]
       . have:l.all (br · 0 9)=false:=by
          rw[List.all_eq_false];exact⟨_,zs g6,by simp[U]⟩
         simp[jb,g5,this]at w;simp[w]at h;exact .done h
     . have:j=l.length:=by omega
       subst this;have V:¬(l.length:Int)<r.length:=by omega
       rw[aaQ]at x;have a8:jb r.length l=0:=by unfold jb;rw[aaJ (by simp[g5]),aaK x]
       rw[aaK a8]at w;apply rn;simp[a,b,o,J,g4,g,d.symm,V];refine⟨by omega,ih _ g4 ⟨_,rfl,?_,?_,?_,w⟩⟩<;>simp[a,b,o,J,g4,g,d.symm]
   . have L:((l.length:Int) !=r.length)=true:=by
      have:¬(l.length:Int)=r.length:=by omega
      simp[this]
     rw[<-d]at w;simp[jb,g5]at w;simp[w]at h;apply rn;simp[a,b,o,g4,g,d.symm,L];exact .done h
 have:k=r.length:=by omega
 subst this;simp[fB]at w;rw[aaJ (by omega)]at h
 clear ih;have t:∀(i:Nat) (D:i<r.length),r[i].length=r.length:=λi D=>(iq w _ (zs D)).1
 have F:∀(i:Nat) (D:i<r.length) (j:Nat) (R:j<r[i].length),0<=r[i][j]/\r[i][j]<=9:=λi D j R=>dA ((iq w _ (zs D)).2 _ (zs R))
 have u:∀i j,i<r.length->j<r.length->bY r i j=true->KF (.val (int 9)) σ:=λi j g5 g6 hb=>by
  have:((List.range r.length).any λi=>(List.range r.length).any λj=>bY r i j)=true:=abb.2 ⟨i,Rp.2 g5,abb.2 ⟨j,Rp.2 g6,hb⟩⟩
  simp_all
 have n4:¬(r.length:Int)<r.length:=by omega
 apply rn;simp[a,b,o,n4];refine aa.loop r.length (λi s=>∃env,s=⟨env,σ,[],.no⟩/\env 0=rows r/\env 3=int r.length/\env 6=int i/\∀i'<i,∀j<r.length,yZ r i' j=false) ⟨_,rfl,by simp[a,b]⟩ ?_
 clear a b o
 rintro c1 i _ D ⟨env,rfl,a,b,c,z⟩ ih
 rcases aaX i r.length with g5|g5
 . have A : (i : Int)<r.length:=by omega
   apply rn;simp[a,b,c,A];refine aa.loop r.length (λj s=>∃env,s=⟨env,σ,[],.no⟩/\env 0=rows r/\env 3=int r.length/\env 6=int i/\env 7=int j/\∀n<j,yZ r i n=false) ⟨_,rfl,by simp[a,b,c]⟩ ?_
   clear a b c
   rintro c2 j _ R ⟨env,rfl,a,b,c,f,W⟩ E
   rcases aaX j r.length with g6|g6
   . have y : (j:Int)<r.length:=by omega
     have X:i<r[i].length:=by grind
     have v:j<r[i].length:=by grind
     have S:i<r[j].length:=by grind
     have aE:((i:Int)==(j:Int))=decide (i=j):=by
      by_cases e:i=j
      . simp[e]
      grind
     by_cases b1:i=j/\r[i][j]≠0
     . obtain⟨rfl,b1⟩:=b1
       have a9:(r[i][i]!=0)=true:=by grind
       apply rn;simp[a,b,c,f,A,g5,X,a9];apply rn;simp[a,b,c,f];exact .done (u i i g5 g5 (by unfold bY;rw[dC g5 X];simp[b1]))
     have Y:i=j->r[i][j]=0:=λe=>abt λq=>b1 ⟨e,q⟩
     by_cases b2:r[i][j]=r[j][i]
     . have G:(r[i][j] !=r[j][i])=false:=by grind
       have hz:∃bq:Bool,((i:Int)==(j:Int))=bq/\(bq=true->(r[i][j] !=0)=false):=⟨_,rfl,λq=>by grind⟩
       obtain⟨bq,Z,ad⟩:=hz;cases bq
       . apply rn
         simp[a,b,c,f,A,g5,y,g6,X,v,S,Z,G];apply rn;simp[a,b,c,f]
         ((
           refine aa.loop r.length (λk s=>∃env,s=⟨env,σ,[],.no⟩/\env 0=rows r/\env 3=int r.length/\env 6=int i/\env 7=int j/\env 8=int k/\∀B<k,¬rd r i j>rd r i B+rd r B j) ⟨_,rfl,by simp[a],by simp[b],by simp[c],by simp[f],by simp,by simp⟩ ?_
           clear a b c f
           rintro c3 k _ Q ⟨env,rfl,a,b,c,f,M,C⟩ N
           rcases aaX k r.length with g9|g9
           . have O:(k:Int)<r.length:=by omega
             have H:k<r[i].length:=by rw[t i g5];exact g9
             have I:j<r[k].length:=by rw[t k g9];exact g6
             have al:=F i g5 k H;have av:=F k g9 j I;have f1:-9223372036854775808<=r[i][k]+r[k][j]:=by omega
             have f2:r[i][k]+r[k][j]<=9223372036854775807:=by omega
             apply rn;simp[a,b,c,f,M,O,g5,g6,g9,v,H,I,f1,f2];apply rn
             by_cases p:r[i][k]+r[k][j]<r[i][j]
             . simp[p]
               refine .done (u i j g5 g6 ?_);unfold bY;have:((List.range r.length).any λk=>decide (rd r i j>rd r i k+rd r k j))=true:=abb.2 ⟨k,Rp.2 g9,by rw[dC g5 v,dC g5 H,dC g9 I];simpa using p⟩
               rw[this];simp
             . simp[p,a,b,c,f,M]
               refine⟨by omega,N _ g9 ⟨_,rfl,by simp[a],by simp[b],by simp[c],by simp[f],by simp,λB ax=>?_⟩⟩
               by_cases e:B=k
               . subst e
                 rw[dC g5 v,dC g5 H,dC g9 I];omega
               . exact C B (by omega)
           . have:k=r.length:=by omega
             subst this;have n9:¬(r.length:Int)<r.length:=by omega
             apply rn;simp[a,b,c,f,M,n9];refine⟨by omega,E _ g6 ⟨_,rfl,by simp[a],by simp[b],by simp[c],by simp,λn a7=>?_⟩⟩
             by_cases e:n=j
             . subst e
               unfold yZ
               have P:((List.range r.length).any λk=>decide (rd r i n>rd r i k+rd r k n))=false:=by rw[abH];intro k Q;simpa using C k (Rp.1 Q)
               have K:(decide (i=n) && rd r i n !=0)=false:=by
                by_cases e:i=n
                . rw[dC g5 v,Y e];simp
                . simp[e]
               have e3:rd r i n=rd r n i:=by rw[dC g5 v,dC g6 S];exact b2
               rw[P,K,e3];simp
             . exact W n (by omega)))
       . have ay:=ad rfl
         apply rn;simp[a,b,c,f,A,g5,y,g6,X,v,S,Z,ay,G];apply rn;simp[a,b,c,f]
         ((
           refine aa.loop r.length (λk s=>∃env,s=⟨env,σ,[],.no⟩/\env 0=rows r/\env 3=int r.length/\env 6=int i/\env 7=int j/\env 8=int k/\∀B<k,¬rd r i j>rd r i B+rd r B j) ⟨_,rfl,by simp[a],by simp[b],by simp[c],by simp[f],by simp,by simp⟩ ?_
           clear a b c f
           rintro c3 k _ Q ⟨env,rfl,a,b,c,f,M,C⟩ N
           rcases aaX k r.length with g9|g9
           . have O:(k:Int)<r.length:=by omega
             have H:k<r[i].length:=by rw[t i g5];exact g9
             have I:j<r[k].length:=by rw[t k g9];exact g6
             have al:=F i g5 k H;have av:=F k g9 j I;have f1:-9223372036854775808<=r[i][k]+r[k][j]:=by omega
             have f2:r[i][k]+r[k][j]<=9223372036854775807:=by omega
             apply rn;simp[a,b,c,f,M,O,g5,g6,g9,v,H,I,f1,f2];apply rn
             by_cases p:r[i][k]+r[k][j]<r[i][j]
             . simp[p]
               refine .done (u i j g5 g6 ?_);unfold bY;have:((List.range r.length).any λk=>decide (rd r i j>rd r i k+rd r k j))=true:=abb.2 ⟨k,Rp.2 g9,by rw[dC g5 v,dC g5 H,dC g9 I];simpa using p⟩
               rw[this];simp
             . simp[p,a,b,c,f,M]
               refine⟨by omega,N _ g9 ⟨_,rfl,by simp[a],by simp[b],by simp[c],by simp[f],by simp,λB ax=>?_⟩⟩
               by_cases e:B=k
               . subst e
                 rw[dC g5 v,dC g5 H,dC g9 I];omega
               . exact C B (by omega)
           . have:k=r.length:=by omega
             subst this;have n9:¬(r.length:Int)<r.length:=by omega
             apply rn;simp[a,b,c,f,M,n9];refine⟨by omega,E _ g6 ⟨_,rfl,by simp[a],by simp[b],by simp[c],by simp,λn a7=>?_⟩⟩
             by_cases e:n=j
             . subst e
               unfold yZ
               have P:((List.range r.length).any λk=>decide (rd r i n>rd r i k+rd r k n))=false:=by rw[abH];intro k Q;simpa using C k (Rp.1 Q)
               have K:(decide (i=n) && rd r i n !=0)=false:=by
                by_cases e:i=n
                . rw[dC g5 v,Y e];simp
                . simp[e]
               have e3:rd r i n=rd r n i:=by rw[dC g5 v,dC g6 S];exact b2
               rw[P,K,e3];simp
             . exact W n (by omega)))
     . have G:(r[i][j]!=r[j][i])=true:=by grind
       have e:i≠j:=λe=>by grind
       have e':((i:Int)==(j:Int))=false:=by grind
       apply rn;simp[a,b,c,f,A,g5,y,g6,X,v,S,e',G];apply rn;simp[a,b,c,f];exact .done (u i j g5 g6 (by unfold bY;rw[dC g5 v,dC g6 S];simp[b2]))
   . have:j=r.length:=by omega
     subst this;have V:¬(r.length:Int)<r.length:=by omega
     apply rn;simp[a,b,c,f,V];refine⟨by omega,ih _ g5 ⟨_,rfl,by simp[a,b,c,f],by simp[a,b,c,f],by simp,λi' aL j a7=>?_⟩⟩
     grind
 . have:i=r.length:=by omega
   subst this
   have:((List.range r.length).any λi=>(List.range r.length).any λj=>bY r i j)=false:=by rw[abH];intro i D;rw[Bool.not_eq_true,abH];intro j R;rw[Bool.not_eq_true];exact KA (z i (Rp.1 D) i (Rp.1 D)) (z i (Rp.1 D) j (Rp.1 R))
   rw[this]at h;have V:¬(r.length:Int)<r.length:=by omega
   apply rn;simp[a,b,c,V];exact .done h
theorem KB{f}(b:f.Fits)(h:KF (.val (int (check f))) σ):az prog m 138 [bI f] σ KF:=by
 unfold check at h;have u:=b.roads;have r:=b.aA;refine fs VE Tryz.func138 rfl (by kernel_rfl) ?_;simp[Tryz.f138];refine cf Tryz.func170 rfl (y7 b.roads b.row ?_);apply rn;simp;refine aG.intro (λe=>?_) (λe=>?_)<;>(try simp at e)<;>(try simp[e]at h)<;>(try simp[e])<;>(try exact .done h);refine cf Tryz.func171 rfl (du ?_);apply rn;simp;refine sm.intro (λg=>?_) (λg=>?_)<;>(try simp at g)<;>(try simp[g]at h)<;>(try simp[g])<;>(try exact .done h);refine cf Tryz.func171 rfl (du ?_);apply rn;simp;refine aG.intro (λi=>?_) (λi=>?_)<;>(try simp at i)<;>(try simp[i]at h)<;>(try simp[i])<;>(try exact .done h);refine aG.intro (λj=>?_) (λj=>?_)<;>(try simp[-Int.not_lt,-Int.not_le]at j)<;>(try simp[j]at h)<;>(try simp[j])<;>(try exact .done h)
 refine cf Tryz.func171 rfl (du ?_);apply rn;simp;refine sm.intro (λl=>?_) (λl=>?_)<;>(try simp at l)<;>(try simp[l]at h)<;>(try simp[l])<;>(try exact .done h);refine cf Tryz.func171 rfl (du ?_);apply rn;simp;refine aG.intro (λn=>?_) (λn=>?_)<;>(try simp at n)<;>(try simp[n]at h)<;>(try simp[n])<;>(try exact .done h);refine aG.intro (λo=>?_) (λo=>?_)<;>(try simp[-Int.not_lt,-Int.not_le]at o)<;>(try simp[o]at h)<;>(try simp[o])<;>(try exact .done h);refine aa.loop f.aA.length (λk s=>∃env,s=⟨env,σ,[],.no⟩/\env 1=.cp (bI f) 0/\env 4=int k/\eh (bL f.roads.length) f.aA=eh (bL f.roads.length) (f.aA.drop k)) ⟨_,rfl,by simp⟩ ?_;rintro v k _ w ⟨env,rfl,c,d,a⟩ t;rcases aaX k f.aA.length with g8|g8
 . have q:(k:Int)<f.aA.length:=by omega
   rw[vv _ _ k g8]at a;apply rn;simp[c,d,g8,q];refine cf Tryz.func172 rfl (yY b.roads (b.marks _ (zs g8)) ?_);apply pg;simp[c,d];apply rn;simp[c,d];refine aG.intro (λp=>?_) (λp=>?_)<;>(try simp at p)<;>(try simp[p]at a)<;>(try simp[c,d,p])<;>(try exact .done a)
   . rw[a]at h
     exact .done h
   . exact⟨by omega,t _ g8 ⟨_,rfl,by simp[c,d],by simp,a⟩⟩
 . have:k=f.aA.length:=by omega
   subst this;simp[eh]at a;rw[a]at h;apply rn;simp[c,d];exact .done h
theorem KC{f x y}(e:f.Fits)(h:KF (.val (int (dB f [x,y]))) σ):az prog m 103 [bI f,int x,int y] σ KF:=by
 unfold dB at h;simp only[abr,acT,Bool.and_true]at h;have a:=e.aA;refine fs [] Tryz.func103 rfl (by kernel_rfl) ?_;simp[Tryz.f103];refine cf Tryz.func138 rfl (KB e ?_);apply rn;simp;refine aG.intro (λb=>?_) (λb=>?_)<;>(try simp at b)<;>(try simp[b]at h)<;>(try simp[b])<;>(try exact .done h);refine cf Tryz.func139 rfl (vG a ?_);apply rn;simp;refine sm.intro (λc=>?_) (λc=>?_)<;>(try simp at c)<;>(try simp[c]at h)<;>(try simp[c])<;>(try exact .done h);refine cf Tryz.func139 rfl (vG a ?_);apply rn;simp;refine aG.intro (λd=>?_) (λd=>?_)<;>(try simp at d)<;>(try simp[d]at h)<;>(try simp[d])<;>(try exact .done h)
theorem G4{f e a}(hb:-1000<=e.aX-a/\e.aX-a<=1000)(h:KF (.val (bool (dF f e a))) σ):az prog m 140 [bI f,bc e,int a] σ KF:=by
 have f1:-9223372036854775808<=e.aX-a/\e.aX-a<=9223372036854775807:=by omega
 unfold dF at h;refine fs [] Tryz.func140 rfl (by kernel_rfl) ?_;simp[Tryz.f140,f1.1,f1.2];refine cf Tryz.func171 rfl (du ?_);apply rn;simp;rw[show decide (e.aX=a)=(e.aX==a)from rfl]at h;generalize (e.aX==a)=d at h ⊢;refine aG.intro (λb=>?_) (λb=>?_)<;>simp at b
 . rw[aaK b]at h
   simp;exact .done h
 rw[aaJ b]at h;simp;refine aG.intro (λc=>?_) (λc=>?_)<;>simp at c
 . rw[aaK c]at h
   simp;exact .done h
 rw[aaJ c]at h;simp;cases d<;>first|exact .done h|(simp at h ⊢;exact .done h)
theorem y8{i}(h:i<=34):uS.take i=(List.range i).map λi:Nat=>(i:Int)-3:=by unfold uS;rw[<-List.map_take,List.take_range,Nat.min_eq_left h]
theorem QM{i}(h:i<34):uS.take (i+1)=uS.take i++[(i:Int)-3]:=by rw[y8 (by omega),y8 (by omega),aaZ,aaY];rfl
theorem zQ{f}{l:adA}{i}(h:i<34):(uS.take (i+1)).filter (λh=>l.all λn=>dF f (aJ f n) h)=(uS.take i).filter (λh=>l.all λn=>dF f (aJ f n) h)++if l.all (λn=>dF f (aJ f n) ((i:Int)-3))then[(i:Int)-3]else[]:=by
 rw[QM h,abz]
 grind
theorem QN{f l}(H:f.Good)(K:l.length<1000000)(z:∀n∈l,0<=n/\n<f.aA.length)(h:KF (.val (ints (ib f l))) σ):az prog m 104 [bI f,ints l] σ KF:=by
 refine fs VB Tryz.func104 rfl (by kernel_rfl) ?_
 simp[Tryz.f104];refine aa.loop 34 (λi s=>∃env p a,s=⟨env,p,[],.no⟩/\env 1=ints l/\env 2=.cp (bI f) 0/\env 5=a/\env 6=int ((i:Int)-3)/\Tok σ p a 1 (((uS.take i).filter λh=>l.all λn=>dF f (aJ f n) h).map int)) ⟨_,σ,.lit (.slice none 0 0),rfl,by simp,by simp,by simp,by simp,by simpa using Tok.nil σ 1⟩ ?_
 rintro L i _ M ⟨env,p,a,rfl,c,d,k,o,e⟩ F
 have r:=e.cells
 rcases aaX i 34 with g1|g1
 . have A:(i:Int)-3<=30:=by omega
   have f1:-9223372036854775808<=(i:Int)-3+1/\(i:Int)-3+1<=9223372036854775807:=by omega
   apply rn;simp[c,d,k,o,r.1,r.2,A];refine aa.loop l.length (λj s=>∃env,s=⟨env,p,[],.no⟩/\env 1=ints l/\env 2=.cp (bI f) 0/\env 5=a/\env 6=int ((i:Int)-3)/\env 7=bool ((l.take j).all λn=>dF f (aJ f n) ((i:Int)-3))/\env 8=int j) ⟨_,rfl,by simp[c,d,k,o]⟩ ?_
   clear c d k o
   rintro N j _ O ⟨env,rfl,c,d,k,o,t,u⟩ w
   rcases aaX j l.length with g2|g2
   . have BT:(j:Int)<l.length:=by omega
     have v:-9223372036854775808<=(j:Int)+1/\(j:Int)+1<=9223372036854775807:=by omega
     obtain⟨I,P⟩:=z _ (zs g2);have B:l[j].toNat<f.aA.length:=by omega
     have b:(l.take (j+1)).all (λn=>dF f (aJ f n) ((i:Int)-3))=((l.take j).all (λn=>dF f (aJ f n) ((i:Int)-3)) && dF f f.aA[l[j].toNat] ((i:Int)-3)):=by rw[zG g2,acC,<-iV B];simp
     by_cases q:(l.take j).all (λn=>dF f (aJ f n) ((i:Int)-3))=true
     . have Q:=(kB (H.qV _ (zs B))).2.2.2.1
       have g:env 7=bool true:=by rw[t,q]
       rw[q,acN]at b;apply rn;simp[c,d,k,o,g,u,g2,BT,I,B];refine cf Tryz.func140 rfl (G4 (by omega) ?_)
       apply pg;simp[c,d,k,o,t,u,v.1,v.2];apply rn;simp[c,d,k,o,t,u,v.1,v.2];exact w _ g2 ⟨_,rfl,by simp[c,d,k,o,t,u,b]⟩
     . have q:(l.take j).all (λn=>dF f (aJ f n) ((i:Int)-3))=false:=by grind
       have g:env 7=bool false:=by rw[t,q]
       rw[q,Bool.false_and]at b;apply rn;simp[c,d,k,o,g,u,g2,BT];apply rn;simp[c,d,k,o,g,u,g2,BT,v.1,v.2];exact w _ g2 ⟨_,rfl,by simp[c,d,k,o,b]⟩
   . have:j=l.length:=by omega
     subst this;rw[aaQ]at t;have G:=zQ (f:=f) (l:=l) g1
     by_cases q:l.all (λn=>dF f (aJ f n) ((i:Int)-3))=true
     . have g:env 7=bool true:=by rw[t,q]
       rw[aaK q]at G;apply rn;simp[c,d,k,o,g,u];refine aP lay rfl rfl rfl dD rfl dD rfl rH (by decide) (by grind) (σ0:=σ) (es:=((uS.take i).filter λh=>l.all λn=>dF f (aJ f n) h).map int) (xs:=[int ((i:Int)-3)]) (by simpa using e) (.inr ⟨_,by simp;rfl⟩) λJ C D=>?_
       have x:=D.cells;apply rn;simp[c,d,o,x.1,x.2,f1.1,f1.2];exact F _ g1 ⟨_,C,J,rfl,by simp[c],by simp[d],by simp,by simp;omega,by rw[G,List.map_append];exact D⟩
     . have q:l.all (λn=>dF f (aJ f n) ((i:Int)-3))=false:=by grind
       have g:env 7=bool false:=by rw[t,q]
       rw[aaJ (by simp[q]),abn]at G
       apply rn;simp[c,d,k,o,g,u,f1.1,f1.2];exact F _ g1 ⟨_,p,a,rfl,by simp[c],by simp[d],by simp[k],by simp;omega,by grind⟩
 . have E:i=34:=by omega
   subst E;apply rn;simp[c,d,k,o,r.1,r.2];have y:uS.take 34=uS:=by rw[y8 (aaP _)];rfl
   rw[y]at e;exact .om e.W (.less e.1 (.done h))
def O5(a b:adA)(k:Nat):Int:=(((List.range k).filter λi:Nat=>decide ((i:Int)∈a)!=decide ((i:Int)∈b)).length:Int)
theorem OS  a b   k :O5 a b (k+1)=O5 a b k+if(decide ((k:Int)∈a)!=decide ((k:Int)∈b))=true then 1 else 0:=by
 unfold O5;rw[aaZ,abz,aaV,List.filter_cons]
 grind
theorem SP  a b   k :0<=O5 a b k/\O5 a b k<=k:=by
 unfold O5
 grind
namespace RC
abbrev Wg:adr:=[⟨5,.take [0,1,2,4,5,6] false (.one 3 (.one 7 (.one 8 (.done))))⟩]
theorem vH{a b}(r:a.marks.length<1152921504606846976)(hb:b.marks.length<1152921504606846976)(h:KF (.val (int (tQ a.marks b.marks))) σ):az prog m 142 [bc a,bc b] σ KF:=by
 refine fs Wg Tryz.func142 rfl (by kernel_rfl) ?_;simp[Tryz.f142];refine aa.loop 5 (λk s=>∃env,s=⟨env,σ,[],.no⟩/\env 2=.cp (bc a) 0/\env 3=.cp (bc b) 0/\env 5=int (O5 a.marks b.marks k)/\env 6=int k) ⟨_,rfl,by simp[O5]⟩ ?_;rintro v k _ w ⟨env,rfl,c,d,e,f⟩ t;rcases aaX k 5 with g1|g1
 . have g:(k:Int)<=4:=by omega
   have u:=SP a.marks b.marks k;have f1:-9223372036854775808<=(k:Int)+1/\(k:Int)+1<=9223372036854775807:=by omega
   have o:-9223372036854775808<=O5 a.marks b.marks k+1/\O5 a.marks b.marks k+1<=9223372036854775807:=by omega
   have i:=OS a.marks b.marks k;apply rn;simp[c,d,e,f,g];obtain⟨p,j⟩:∃p,p=decide ((k:Int)∈a.marks):=⟨_,rfl⟩;obtain⟨q,l⟩:∃q,q=decide ((k:Int)∈b.marks):=⟨_,rfl⟩;rw[<-j,<-l]at i;refine cf Tryz.func173 rfl (CJ r ?_);rw[<-j];apply pg;simp[c,d,e,f];refine cf Tryz.func173 rfl (CJ hb ?_);rw[<-l];apply pg;simp[c,d,e,f];clear j l;cases p<;>cases q<;>simp at i
   all_goals (
    apply rn;simp[c,d,e,f,f1.1,f1.2,o.1,o.2];exact t _ g1 ⟨_,rfl,by simp[c,d,i,e]⟩)
 . have n:k=5:=by omega
   subst n;apply rn;simp[c,d,e,f];exact .done h
end RC
abbrev jZ(f:Fr):Int->Int->Bool:=CP λn=>(aJ f n).hour
def fC(l:adA)(i:Nat):adA:=((List.range i).map λi:Nat=>(i:Int)).filter λi=>decide (i∈l)
theorem CN  l   i :fC l (i+1)=fC l i++if(i:Int)∈l then[(i:Int)]else[]:=by
 unfold fC;rw[aaZ,aaY,abz]
 grind
theorem E9{l i x}(h:x∈fC l i):0<=x/\x<i:=by
 unfold fC at h
 grind
theorem vI  l   i :(fC l i).length<=i:=by
 unfold fC
 grind
theorem G5{f l}(h6:f.aA.length<=1000)(hl:l.length<1000000)(h:KF (.val (ints (aI f (tR f l)))) σ):az prog m 141 [bI f,ints l] σ KF:=by
 have Z:∀i,(dg (jZ f) (fC l i)).length<=i:=λi=>by rw[jX];exact vI l i
 refine fs VF Tryz.func141 rfl (by kernel_rfl) ?_
 simp[Tryz.f141];refine aa.loop f.aA.length (λi s=>∃env I a,s=⟨env,I,[],.no⟩/\env 1=ints l/\env 2=.cp (bI f) 0/\env 5=a/\env 6=int i/\cd σ I a 1 ((dg (jZ f) (fC l i)).reverse.map int)) ⟨_,σ,.lit (.slice none 0 0),rfl,by simp,by simp,by simp,by simp,⟨ab.le_refl _,.inl ⟨by grind,.inl rfl⟩⟩⟩ ?_
 rintro c0 i _ hi ⟨env,I,a,rfl,g,j,q,o,r⟩ ih
 have C:=r.cells;have a7:=Z i
 rcases aaX i f.aA.length with g1|g1
 . have a8:(i:Int)<f.aA.length:=by omega
   have f1:-9223372036854775808<=(i:Int)+1/\(i:Int)+1<=9223372036854775807:=by omega
   have J:=CN l i;apply rn;simp[g,j,q,o,C.1,C.2,g1,a8];refine cf Tryz.func173 rfl (CJ (by omega) ?_)
   by_cases g2:(i:Int)∈l
   . rw [aaK g2]at J
     have K:dg (jZ f) (fC l (i+1))=dK (jZ f) i (dg (jZ f) (fC l i)):=by rw[J,dg,abo];rfl
     obtain⟨S,hS⟩:∃S,S=dg (jZ f) (fC l i):=⟨_,rfl⟩
     have a9:∀x∈S,0<=x/\x.toNat<f.aA.length:=λx L=>by have:=E9 ((qW _ _ x).1 (hS ▸ L));omega
     rw[<-hS]at K r a7;obtain⟨x,L⟩:∃x,x=(i:Int):=⟨_,rfl⟩;have P:x.toNat=i:=by omega
     have ad:(S.reverse.map int).length=S.length:=by simp
     rcases r.len with⟨rfl,F⟩|⟨sp,rfl⟩|⟨b0,ax,rfl⟩
     all_goals (
      apply rn;simp[g,j,q,o,g2,ad];refine oo lay rfl rfl rfl dD rfl dD rfl rH (by decide) (by simp;omega) (σ0:=σ) (es:=S.reverse.map int) (xs:=[int i]) (by simpa using r) (.inl (.inr ⟨_,by simp;rfl⟩)) (by simp) λa' D t=>?_
      rw[<-List.map_singleton (f:=int),<-List.map_append,<-L]at t
      obtain⟨b,cap,rest,rfl,t1,t2,t4,t5⟩:∃b cap rest,a'=.gn b 0 (S.length+1) cap/\σ b=none/\S.length+1<=cap/\D b=some (.cells ((S.reverse++[x]).map int++rest))/\rest.length=(cap-(S.length+1))*1:=by
       have Q:((S.reverse++[x]).map int).length=S.length+1:=by simp
       rcases t.2 with⟨e,_⟩|⟨b,cap,rest,r1,r2,r3,r4,r5,r6⟩
       . have:=congrArg List.length e
         rw[Q,abD]at this;omega
       . rw[Q]at r1 r3 r6
         rw[dS (λe R=>by obtain⟨_,_,rfl⟩:=aaU.1 R;rfl)]at r5
         exact⟨b,cap,rest,r1,r2,r3,r5,r6⟩
      have G:∀(d:ab) (T:adA),T.length=S.length+1->d b=some (.cells (T.reverse.map int++rest))->(∀y,y≠b->d y=D y)->cd σ d (.gn b 0 (S.length+1) cap) 1 (T.reverse.map int):=λd T M h5 U=>by
       refine⟨λy v hv=>?_,.inr ⟨b,cap,rest,by simp[M],t1,by simp[M];exact t2,λe R=>by obtain⟨_,_,rfl⟩:=aaU.1 R;rfl,?_,by simp[M];omega⟩⟩
       . have:y≠b:=λe=>by subst e;rw[t1]at hv;cases hv
         rw[U y this];exact t.1 y v hv
       . rw[dS (λe R=>by obtain⟨_,_,rfl⟩:=aaU.1 R;rfl)];exact h5
      apply rn;simp[g,j,o]
      refine aa.loop S.length (λk s=>∃env d p c,s=⟨env,d,[],.no⟩/\env 1=ints l/\env 2=.cp (bI f) 0/\env 5=.gn b 0 (S.length+1) cap/\env 6=int i/\env 7=int c.length/\S=p++c/\c.length+k=S.length/\dK (jZ f) x S=p++dK (jZ f) x c/\d b=some (.cells (c.reverse.map int++int x::(p.reverse.map int++rest)))/\∀y,y≠b->d y=D y)
       ⟨_,D,[],S,rfl,by simp[g],by simp[j],by simp,by simp[o],by first|(simp;done)|(simp at F;simp[F]),rfl,rfl,rfl,by rw[t4];simp,λ_ _=>rfl⟩ ?_
      clear g j q o
      rintro c1 k _ hk ⟨env,d,p,c,rfl,g,j,q,o,V,u,hlen,w,hc,U⟩ al
      cases c with
      | nil=>
        simp only[abD,abU]at hlen;simp only[abn]at u;have M:dg (jZ f) (fC l (i+1))=p++[x]:=by rw[K,<-L,w];rfl
        apply rn;simp[g,j,q,o,V];apply rn;simp[g,j,q,o,V,f1.1,f1.2];exact ih _ g1 ⟨_,d,.gn b 0 (S.length+1) cap,rfl,by simp[g],by simp[j],by simp[q],by simp,by rw[M];exact G d (p++[x]) (by rw[u];simp) (by simpa using hc) U⟩
      | cons z c=>
        obtain⟨q1,q2,q3,q4⟩:=VW (A:=c.reverse.map int) (B:=p.reverse.map int++rest) (x:=int x) (y:=int z) (n:=c.length) (by simp)
        have W:d b=some (.cells (c.reverse.map int++int z::int x::(p.reverse.map int++rest))):=by rw[hc];simp
        have N:=a9 z (by rw[u];simp)
        have p1:(0:Int)<(c.length:Int)+1:=by omega
        have H:S.length=p.length+(c.length+1):=by rw[u];simp
        have p2:(c.length:Int)+1<(S.length:Int)+1:=by omega
        have p3:(c.length:Int)<(S.length:Int)+1:=by omega
        have p4:(0:Int)<=(c.length:Int)+1:=by omega
        have p5:((c.length:Int)+1).toNat=c.length+1:=by omega
        have Y:-9223372036854775808<=(c.length:Int)/\(c.length:Int)<=9223372036854775807:=by omega
        apply rn;simp[g,j,q,o,V,p1,p2,p3,p4,p5,Y.1,Y.2,W,q1,q2,N.1,N.2,g1];have ez:=iV N.2;have ex:aJ f x=f.aA[i]:=by rw[iV (by rw[P];exact g1)];simp[P]
        by_cases E:f.aA[i].hour<f.aA[z.toNat].hour
        . have O:dK (jZ f) x (z::c)=z::dK (jZ f) x c:=wB (by rw[ez,ex];exact E)
          have p7:c.length+1+1<=c.length+(p.length+rest.length+1+1):=by omega
          have p8:c.length+1<=c.length+(p.length+rest.length+1+1):=by omega
          rw[<-L]at o;apply rn;simp[g,j,q,o,V,E,p1,p2,p3,p4,p5,Y.1,Y.2,W,q1,q2,p7,p8];refine al _ (by rw[H];simp at hlen;omega) ⟨_,_,p++[z],c,rfl,by simp[g],by simp[j],by simp[q],by simp[o,L],by simp,by rw[u];simp,by simp at hlen;omega,by rw[w,O];simp,?_,λy X=>?_⟩
          . rw[ab.ai];simp
          . rw[ab.ah _ _ X]
            exact U y X
        . have O:dK (jZ f) x (z::c)=x::z::c:=wC (by rw[ez,ex];exact E)
          have M:dg (jZ f) (fC l (i+1))=p++x::z::c:=by rw[K,<-L,w,O]
          apply rn;simp[g,j,q,o,V,E,f1.1,f1.2];exact ih _ g1 ⟨_,d,.gn b 0 (S.length+1) cap,rfl,by simp[g],by simp[j],by simp[q],by simp,by rw[M];exact G d (p++x::z::c) (by rw[H];simp;omega) (by simpa using hc) U⟩)
   . rw[aaJ g2,abn]at J
     apply rn
     simp_all
 . have av:i=f.aA.length:=by omega
   subst av;apply rn;simp[g,j,q,o,C.1,C.2];have:fC l f.aA.length=tR f l:=rfl;rw[this]at r;refine r.thaw ?_;rw[kD]at h;exact h
theorem G6{f l}(r:f.Good)(hl:l.length<1000000)(h:KF (.val (bool (!bu f (aI f (tR f l))))) σ):az prog m 105 [bI f,ints l] σ KF:=by
 have I:=r.cB;have h6:=r.pI;obtain⟨L,M⟩:∃L,L=aI f (tR f l):=⟨_,rfl⟩
 have h0:∀n∈L,0<=n/\n<f.aA.length:=λn hn=>by rw[M]at hn;exact(yX.1 (oY.1 hn)).1
 have hlen:L.length<=1000:=by rw[M];have:=(iR f (tR f l)).length_eq;rw[this];have:=vI l f.aA.length;show(fC l f.aA.length).length<=1000;omega
 rw[<-M]at h;unfold bu at h;refine fs VC Tryz.func105 rfl (by kernel_rfl) ?_
 simp[Tryz.f105];refine cf Tryz.func141 rfl (G5 (by omega) hl ?_)
 rw[<-M];apply rn;simp;refine aa.loop (L.length-1) (λk s=>∃env E,s=⟨env,E,[],.no⟩/\σ.Le E/\env 1=ints L/\env 2=.cp (bI f) 0/\env 5=int ((k:Int)+1)/\∀i<k,eo f (L.getD i 0) (L.getD (i+1) 0)=false) ⟨_,_,rfl,ab.le_refl _,by simp⟩ ?_
 rintro c0 k _ hk ⟨env,E,rfl,a,j,o,q,z⟩ ih
 rcases aaX (k+1) L.length with g1|g1
 . have W:(k:Int)+1<L.length:=by omega
   have X:k<L.length:=by omega
   obtain⟨x0,x1⟩:=h0 _ (zs X);obtain⟨y0,y1⟩:=h0 _ (zs g1);have N:L[k].toNat<f.aA.length:=by omega
   have O:L[k+1].toNat<f.aA.length:=by omega
   have f1:-9223372036854775808<=(k:Int)/\(k:Int)<=9223372036854775807:=by omega
   have f2:((k:Int)+1).toNat=k+1:=by omega
   have f3:(0:Int)<=(k:Int)+1:=by omega
   have P:-9223372036854775808<=(k:Int)+1+1/\(k:Int)+1+1<=9223372036854775807:=by omega
   obtain⟨A,Q⟩:∃A,A=f.aA[L[k].toNat]:=⟨_,rfl⟩;obtain⟨B,R⟩:∃B,B=f.aA[L[k+1].toNat]:=⟨_,rfl⟩;have eA:=iV N;have eB:=iV O;rw[<-Q]at eA;rw[<-R]at eB;have bA:=kB (r.qV A (by grind))
   have bB:=kB (r.qV B (by grind))
   have S:A.place.toNat<f.roads.length:=by omega
   obtain⟨r1,r2⟩:=r.row S;have T:B.place.toNat<f.roads[A.place.toNat].length:=by omega
   obtain⟨r3,r4⟩:=r2 _ (zs T);have Y:rd f.roads A.place.toNat B.place.toNat=f.roads[A.place.toNat][B.place.toNat]:=dC S T;have lA:=gZ (ln bA.2.2.2.2.2);have lB:=gZ (ln bB.2.2.2.2.2);obtain⟨_,Z,c3⟩:=Ci lA lB;have a7:=E8 bA.2.2.2.2.2 bB.2.2.2.2.2;obtain⟨ch,J⟩:∃ch,ch=bx (aR A.marks) (aR B.marks):=⟨_,rfl⟩;have C:tQ A.marks B.marks=ch:=by omega
   rw[<-J]at Z c3
   have hmul:0<=f.cB*ch/\f.cB*ch<=30:=by
    constructor
    . exact Int.mul_nonneg (by omega) Z
    . calc f.cB*ch<=6*5:=acI I.2 c3 Z (by omega)
       _=30:=by rfl
   have p:eo f L[k] L[k+1]=decide (B.hour-A.hour<f.roads[A.place.toNat][B.place.toNat]+f.cB*ch):=by unfold eo;rw[eA,eB,Y,J]
   have t:L.getD k 0=L[k]:=by simp[zD,X]
   have u:L.getD (k+1) 0=L[k+1]:=by simp[zD,g1]
   have D:-9223372036854775808<=B.hour-A.hour/\B.hour-A.hour<=9223372036854775807:=by omega
   have U:-9223372036854775808<=f.cB*ch/\f.cB*ch<=9223372036854775807:=by omega
   have V:-9223372036854775808<=f.roads[A.place.toNat][B.place.toNat]+f.cB*ch/\f.roads[A.place.toNat][B.place.toNat]+f.cB*ch<=9223372036854775807:=by omega
   apply rn;simp[j,o,q,W,X,g1,x0,N,y0,O,f1.1,f1.2,f2,f3,<-Q,<-R];refine⟨q8.intro λc K=>?_,q8.intro λc K=>?_⟩
   . simp [j,o,q]
     refine q8.intro λd hd=>?_
     obtain⟨v,F,hd⟩:=ab.aQ hd;simp[j,o,q,v,F,ab.ah];refine aa.bd 6 (b:=c) (bc A) (by simp[v,F,ab.ah]) (by simp) rfl ?_
     refine aa.bd 7 (b:=d) (bc B) (by simp[v,F,ab.ah,ab.del]) (by simp) rfl ?_
     ((
       apply rn;simp[j,o,q,D.1,D.2,S,T]
       repeat refine⟨by omega,?_⟩
       refine cf Tryz.func142 rfl (RC.vH (r.fits.marks A (by rw[Q];exact zs N)) (r.fits.marks B (by rw[R];exact zs O)) ?_)
       rw[C];apply pg;simp[j,o,q,D.1,D.2,U.1,U.2,V.1,V.2];apply rn
       by_cases w:B.hour-A.hour<f.roads[A.place.toNat][B.place.toNat]+f.cB*ch
       . simp[w]
         have:(List.range (L.length-1)).any (λi=>eo f (L.getD i 0) (L.getD (i+1) 0))=true:=abb.2 ⟨k,Rp.2 (by omega),by rw[t,u,p];simpa using w⟩
         rw[this]at h;refine .less ?_ (.done h);intro y x g;have G:y≠c:=λe=>by rw[e,a.none K]at g;cases g
         have H:y≠d:=λe=>by rw[e,a.none hd]at g;cases g
         simpa[ab.del,ab.ah,G,H]using a y x g
       . simp[w,j,o,q,P.1,P.2]
         refine ih _ (by omega) ⟨_,_,rfl,λy x g=>?_,by simp[j],by simp[o],by simp,λi hi=>?_⟩
         . have G:y≠c:=λe=>by rw[e,a.none K]at g;cases g
           have H:y≠d:=λe=>by rw[e,a.none hd]at g;cases g
           simpa[ab.del,ab.ah,G,H]using a y x g
         . by_cases e:i=k
           . subst e;rw[t,u,p];simpa using w
           . exact z i (by omega)))
   . simp [j,o,q]
     refine q8.intro λd hd=>?_
     obtain⟨v,F,hd⟩:=ab.aQ hd;simp[j,o,q,v,F,ab.ah];refine aa.bd 6 (b:=d) (bc A) (by simp[v,F,ab.ah]) (by simp) rfl ?_
     refine aa.bd 7 (b:=c) (bc B) (by simp[v,F,ab.ah,ab.del]) (by simp) rfl ?_
     ((
       apply rn;simp[j,o,q,D.1,D.2,S,T]
       repeat refine⟨by omega,?_⟩
       refine cf Tryz.func142 rfl (RC.vH (r.fits.marks A (by rw[Q];exact zs N)) (r.fits.marks B (by rw[R];exact zs O)) ?_)
       rw[C];apply pg;simp[j,o,q,D.1,D.2,U.1,U.2,V.1,V.2];apply rn
       by_cases w:B.hour-A.hour<f.roads[A.place.toNat][B.place.toNat]+f.cB*ch
       . simp[w]
         have:(List.range (L.length-1)).any (λi=>eo f (L.getD i 0) (L.getD (i+1) 0))=true:=abb.2 ⟨k,Rp.2 (by omega),by rw[t,u,p];simpa using w⟩
         rw[this]at h;refine .less ?_ (.done h);intro y x g;have G:y≠c:=λe=>by rw[e,a.none K]at g;cases g
         have H:y≠d:=λe=>by rw[e,a.none hd]at g;cases g
         simpa[ab.del,ab.ah,G,H]using a y x g
       . simp[w,j,o,q,P.1,P.2]
         refine ih _ (by omega) ⟨_,_,rfl,λy x g=>?_,by simp[j],by simp[o],by simp,λi hi=>?_⟩
         . have G:y≠c:=λe=>by rw[e,a.none K]at g;cases g
           have H:y≠d:=λe=>by rw[e,a.none hd]at g;cases g
           simpa[ab.del,ab.ah,G,H]using a y x g
         . by_cases e:i=k
           . subst e;rw[t,u,p];simpa using w
           . exact z i (by omega)))
 . have v:¬(k:Int)+1<L.length:=by omega
   apply rn;simp[j,o,q,v]
   have:(List.range (L.length-1)).any (λi=>eo f (L.getD i 0) (L.getD (i+1) 0))=false:=by grind
   rw[this]at h;exact .less a (.done h)
theorem KG{f}(d:f.Good){x}(e:0<=x/\x<f.aA.length):bu f (aI f [x,x])=false:=by
 have i:=iR f [x,x];refine nR ?_;have c:∀a∈aI f [x,x],a=x:=λa j=>by grind
 have key:∀l:adA,(∀a∈l,a=x)->l.Pairwise (Fit f):=by
  intro l;induction l with
  |nil=>simp_all
  | cons a l g=>
    intro h;refine abg.2 ⟨λb hb=>?_,g λb hb=>h b (by simp[hb])⟩;rw[h a (by simp),h b (by simp[hb])];exact EF d e
 simp_all
def wE(f:Fr)(x y:Int):Int:=if(aJ f x).bX≠(aJ f y).bX then 1 else if ib f [x,y]=[]then 2 else if bu f (aI f (tR f [x,y]))=true then 3 else 0
theorem G8{f}(g:f.Good){x y a b}(r:0<=x/\x<f.aA.length)(s:0<=y/\y<f.aA.length)(d:(x=a/\y=b)\/(x=b/\y=a))(h:a<=b):wE f x y=jM f [a,b]:=by
 have i:0<=a/\a<f.aA.length:=by omega
 have hb:0<=b/\b<f.aA.length:=by omega
 have j:∀n∈[a,b],0<=n/\n<f.aA.length:=λn t=>by grind
 have u:=OR f (l:=[a,b]) (by simp);have v:=G3 g (l:=[a,b]) (by simp) j
 have k:ib f [x,y]=ib f [a,b]:=by
  rcases d with⟨rfl,rfl⟩|⟨rfl,rfl⟩
  . rfl
  . unfold ib
    grind
 have m:CI f [a,b]=decide ((aJ f x).bX=(aJ f y).bX):=by
  unfold CI
  grind
 have o:bu f (aI f (tR f [x,y]))=bu f (aI f [a,b]):=by
  rcases Int.lt_or_le a b with q|q
  . have:tR f [x,y]=[a,b]:=by
     refine CG (Ip f _) (by simp[q]) λz=>?_
     rw[yX]
     grind
    rw[this]
  . have e:a=b:=by omega
    subst e;have c:x=a/\y=a:=by omega
    rw[c.1,c.2,KG g i]
    have:tR f [a,a]=[a]:=by
     refine CG (Ip f _) (by simp) λz=>?_
     rw[yX]
     simp_all
    rw[this];have p:aI f [a]=[a]:=by simp[aI,dg,dK]
    rw[p];rfl
 unfold wE jM
 grind
theorem Ha{f x y}(g:f.Fits)(t:dB f [x,y]≠0->KF (.val (.cA [int 0,int (dB f [x,y])])) σ)(u:dB f [x,y]=0->KF (.val (.cA [int (wE f x y),int 0])) σ):az prog m 62 [bI f,int x,int y] σ KF:=by
 have v:=g.aA;refine fs XG Tryz.func62 rfl (by kernel_rfl) ?_;simp[Tryz.f62];refine cf Tryz.func103 rfl (KC g ?_);apply rn;simp;refine aG.intro (λa=>?_) (λa=>?_)<;>simp at a<;>simp[a]
 . exact .done (t a)
 have h:=u a
 have i:check f=0/\(0<=x/\x<f.aA.length)/\(0<=y/\y<f.aA.length):=by
  unfold dB at a;split at a
  . omega
  next q=>
  split at a
  . next c=>simp only[abr,acT,Bool.and_true,za,qE]at c;omega
  . cases a
 obtain⟨w,o,p⟩:=i;have r:=Fr.qh g w;have j:x.toNat<f.aA.length:=by omega
 have k:y.toNat<f.aA.length:=by omega
 have z:∀n∈[x,y],0<=n/\n<f.aA.length:=λn A=>by grind
 unfold wE at h;rw[iV j,iV k]at h;have s:Wl [bI f,.sl 1 [int x,int y] .exact] [bI f,ints [x,y]]:=.cons (.refl _) (.cons (fL 1 [int x,int y] .exact) .nil);by_cases e:f.aA[x.toNat].bX=f.aA[y.toNat].bX
 . have b:(f.aA[x.toNat].bX !=f.aA[y.toNat].bX)=false:=by simp[e]
   rw[aaJ (by simp[e])]at h;simp[o.1,j,p.1,k,b];apply rn;simp;refine bK Tryz.func104 rfl rfl s (QN r (by simp) z ?_);apply rn;simp;by_cases c:ib f [x,y]=[]
   . rw[aaK c]at h
     simp[c];exact .done h
   . rw[aaJ c]at h
     have l:(((ib f [x,y]).length:Int)==0)=false:=by simp_all
     simp[l];refine bK Tryz.func105 rfl rfl s (G6 r (by simp) ?_);apply rn;simp;by_cases d:bu f (aI f (tR f [x,y]))=true
     . rw[aaK d]at h
       simp[d];exact .done h
     . rw[aaJ d]at h
       have d:bu f (aI f (tR f [x,y]))=false:=by simp_all
       simp[d];exact .done h
 . have b:(f.aA[x.toNat].bX !=f.aA[y.toNat].bX)=true:=by simp[e]
   rw[aaK e]at h;simp[o.1,j,p.1,k,b];apply rn;simp;exact .done h
end
section
open Go Go.cz Go.Conc
variable{m:Mo}{σ:ab}{KF:adm}
theorem OT{w i k}(hi:0<=i/\i<w.fair.aA.length)(g:0<=k/\k<w.aD.length)(r:w.fair.aA.length<=1000/\w.aD.length<=1000)(c:(bR w [i] [k]).Good)(h:KF (.val (bool (decide (jM (bR w [i] [k]) [0,1]=0)))) σ):az prog m 29 [dP w,int i,int k] σ KF:=by
 have e:i.toNat<w.fair.aA.length:=by omega
 have f:k.toNat<w.aD.length:=by omega
 have j:aJ w.fair i=w.fair.aA[i.toNat]:=by simp[aJ,e]
 have l:uQ w k=w.aD[k.toNat]:=by simp[uQ,f]
 have n:dB (bR w [i] [k]) [0,1]=0:=by unfold dB;simp[c.Fb];decide
 have o:=G8 c (x:=0) (y:=1) (a:=0) (b:=1) (by simp) (by simp) (.inl ⟨rfl,rfl⟩) (by omega)
 refine fs XA Tryz.func29 rfl (by kernel_rfl) ?_
 simp[Tryz.f29];refine bS.intro λd hd=>?_
 simp[aM,hi.1,hi.2,g.1,g.2];simp only[<-j,<-l]
 change aa _ _ _ _ _ _ _ _ _
 refine aa.bd 7 (b:=d) (.agg (.sl 6 [bc (aJ w.fair i),bc (uQ w k).lost] .exact::AX w.fair)) (ab.ai _ _ _) (by simp) rfl ?_
 rw[eE hd];apply rn;simp;have p:Wl [.agg (.sl 6 [bc (aJ w.fair i),bc (uQ w k).lost] .exact::AX w.fair),int 0,int 1] [bI (bR w [i] [k]),int 0,int 1]:=.cons (GN (fL 6 _ .exact)) (.cons (.refl _) (.cons (.refl _) .nil));refine bK Tryz.func62 rfl rfl p (Ha c.fits (λq=>absurd n q) λ_=>?_)
 rw[o];apply rn;simp;rw[show(jM (bR w [i] [k]) [0,1]==0)=decide (jM (bR w [i] [k]) [0,1]=0)from rfl]
 exact .done h
end
open Go.cz Go.Conc
variable{m:Mo}{σ:ab}{KF:adm}
theorem Iq  p   m :∀d ,(nz m).filter p <+: (nz (m+d)).filter p
 |0=>List.prefix_refl _
 | d+1=>by
   rw[show m+(d+1)=(m+d)+1 by omega,nX];exact(Iq p m d).trans (List.prefix_append _ _)
theorem SS  p  {n i}(hi:i<n) (a:p i=true):∃h ,((nz n).filter p)[((nz i).filter p).length]=(i:Int):=by
 obtain⟨t,b⟩:=Iq p (i+1) (n-(i+1));rw[show i+1+(n-(i+1))=n by omega,nX,aaK a]at b
 grind
theorem KH{w}(a:w.Valid){h i x}(hi:0<=i/\i<6)(b:x∈zM w h i):(0<=x/\x<(w.aD.length:Int))/\x∈ew w h/\(i∈fY w h)/\qC (ia w h i x)=true:=by
 obtain⟨c,d⟩:=abv.1 b;have hb:=Ct c;have e:=a.GK.1;have:=(Ih a hi ⟨hb.1,by omega⟩).1 d
 simp_all
theorem Hb(H:m.solo=true){nums}(W:nums.length<1152921504606846976)(h:∀σ',KF (.val (bool true)) σ'):xD prog lay m 6 [ints nums] σ KF:=by
 refine xD.start lay [] pl6 1 Tryz.func6 rfl rfl (by rfl) (by kernel_rfl) ?_
 simp[Tryz.f6];refine cf Tryz.func10 rfl (Kb λc a7 hc hb v=>?_)
 apply rn;simp;refine cf Tryz.func9 rfl (WA.G1 (by omega) W ⟨by omega,by omega⟩ hb λw own lost a8 K hd=>?_)
 refine aa.runN lay [] 6 ?_;simp;refine bS.intro λd B=>?_
 simp[aM]
 change aa _ _ _ _ _ _ _ _ _
 refine aa.bd 4 (b:=d) (dP w) (ab.ai _ _ _) (by simp) rfl ?_
 rw[eE B];have t:=K.valid;have X:=K.Fb;have M:=t.open;have c3:=t.GK.1;have h6:=t.pI;apply rn;simp;refine cf Tryz.func18 rfl (eU (by omega) W (by omega) hd.1 λo a9 ad N=>?_)
 have al:0<=o/\o<=72:=by omega
 have Y:fh w [o] [] []=0:=E6 X (by simp;omega) (by simp) (by simp)
 apply rn;simp;refine cf Tryz.func11 rfl (EV H t.Oi M (λq=>absurd Y q) λ_=>?_)
 obtain⟨p,Z⟩:∃p:Int->Bool,p=λi=>decide (0<(zM w o i).length):=⟨_,rfl⟩
 obtain⟨L,O⟩:∃L,L=(nz w.fair.aA.length).filter p:=⟨_,rfl⟩;have P:kX w o=L:=by rw[O,Z];rfl
 have av:L.length<=w.fair.aA.length:=by grind
 rw[P];apply rn;simp;refine cf Tryz.func27 rfl (Kk H t.Oi M.pI Y ?_);rw[t.kE,t.kC];have ax:=yR w o;clear K hd hb v hc B N;apply rn;simp;refine aa.jQ (λenv _=>env 4=.cp (dP w) 0/\env 7=int o/\env 8=ints L/\env 11=ints (ew w o)/\env 13=int 0/\env 14=int 0) ?_ ?_
 . simp_all
 rintro env r ⟨g,j,n,cq,a,pW⟩
 refine aa.loop w.fair.aA.length (λi s=>∃env σ',s=⟨env,σ',[],.no⟩/\env 4=.cp (dP w) 0/\env 7=int o/\env 8=ints L/\env 11=ints (ew w o)/\env 13=int ((nz i).filter p).length/\env 14=int i) ⟨env,r,rfl,g,j,n,cq,by grind,pW⟩ ?_
 clear g j n cq a pW env r
 rintro c0 i _ hi ⟨env,r,rfl,g,j,n,cq,a,pW⟩ ih
 have ay:((nz i).filter p).length<=i:=by grind
 apply rn;simp[g,j,n,cq,a,pW];apply aG.intro<;>intro y<;>simp at y<;>simp[g,j,n,cq,a,pW,y]
 . have ow:fh w [o] [(i:Int)] []=0:=E6 X (by simp;omega) (by simp;omega) (by simp)
   have z:(0:Int)<=i/\(i:Int)<6:=by omega
   refine cf Tryz.func28 rfl (Qv H t.Oi M z ow ?_);obtain⟨l,I⟩:∃l,l=zM w o i:=⟨_,rfl⟩
   have aC:l.length<=w.aD.length:=by
    rw[I];unfold zM
    grind
   have C:p i=decide (0<l.length):=by rw[Z,I]
   have u:=nX i p;rw[<-I];apply rn;simp[g,j,n,cq,a,pW];refine aa.loop l.length (λk s=>∃env σ',s=⟨env,σ',[],.no⟩/\env 4=.cp (dP w) 0/\env 7=int o/\env 8=ints L/\env 11=ints (ew w o)/\env 13=int ((nz i).filter p).length/\env 14=int i/\env 15=ints l/\env 17=int k) ?_ ?_
   . exact⟨_,_,rfl,by simp[g,j,n,cq,a,pW]⟩
   clear g j n cq a pW env r
   rintro c1 k _ aE ⟨env,r,rfl,g,j,n,cq,a,pW,rZ,f⟩ Q
   apply rn;simp[g,j,n,cq,a,pW,rZ,f];apply aG.intro<;>intro D<;>simp at D<;>simp[g,j,n,cq,a,pW,rZ,f,D]
   . have hx:l[k]∈zM w o i:=by rw[<-I];exact zs D
     obtain⟨x,A⟩:∃x,x=l[k]:=⟨_,rfl⟩;rw[<-A]at hx;obtain⟨E,R,S,T⟩:=KH t z hx;have n1:¬x<0:=by omega
     have n2:¬(w.aD.length:Int)<=x:=by omega
     have n3:¬qf (ew w o) x<0:=by have:=(kA (ew w o) x).2 R;omega
     have U:¬o<w.fair.aA[i].hour:=by
      have:=abV (abv.1 S).2;have e:aJ w.fair i=w.fair.aA[i]:=by simp[aJ,y]
      rw[e]at this;omega
     obtain⟨pz,pw⟩:=OC t z ⟨E.1,by omega⟩ T
     have F:l[k]?=some x:=by rw[A,zU D]
     simp only[<-A];have he:w.fair.aA[i]?=some w.fair.aA[i]:=zU y;simp[g,j,n,cq,a,pW,rZ,f,n1,n2,F];refine cf Tryz.func24 rfl (qg (by omega) ?_)
     apply pg;simp[g,j,n,cq,a,pW,rZ,f,n3,U,F,he];refine cf Tryz.func29 rfl (OT (by omega) E (by omega) pz ?_)
     rw[decide_eq_true pw];apply pg;simp[g,j,n,cq,a,pW,rZ,f];apply rn;simp[g,j,n,cq,a,pW,rZ,f];refine⟨by omega,Q _ D ⟨_,_,rfl,by simp[g,j,n,cq,a,pW,rZ,f]⟩⟩
   . apply aG.intro<;>intro J<;>simp at J<;>simp[g,j,n,cq,a,pW,rZ,f,J]
     . have V:p i=false:=by rw[C,J];rfl
       rw[V]at u;refine⟨by omega,ih _ y ⟨_,_,rfl,by simp[g,j,n,cq,a,pW,rZ,f,u]⟩⟩
     . have G:p i=true:=by rw[C];exact decide_eq_true (List.length_pos_iff.2 J)
       rw[G]at u;obtain⟨q1,q2⟩:=SS p y G;simp only[<-O]at q1 q2;have q3:¬L.length<=((nz i).filter p).length:=by omega
       have q4:L[((nz i).filter p).length]?=some (i:Int):=by rw[zU q1,q2]
       simp[g,j,n,cq,a,pW,rZ,f,q3,q4];refine⟨by omega,by omega,ih _ y ⟨_,_,rfl,by simp[g,j,n,cq,a,pW,rZ,f,u]⟩⟩
 . have ei:i=w.fair.aA.length:=by omega
   subst ei;rw[<-O];simp[g,j,n,cq,a,pW];refine cf Tryz.func16 rfl (OI H ?_);apply rn;simp[g,j,n,cq,a,pW];exact .done (h _)

import Derived.Test.YtkcceaplmgdnfaaGreatDoorC20
set_option linter.all false
set_option maxHeartbeats 2000000
set_option maxRecDepth 4000
namespace Go.Proofs.YtkcceaplmgdnfaaGreatDoor
open Go.Proofs.Tryz (prog)
section
open Go Go.cC Go.Conc
variable{m:Mo}{σ:ab}{KF:ach}
def nI(σ0 σ:ab)(l:List (AV × Nat × List AV)):Prop:=σ0.Le σ/\(∀t∈l,Tok σ0 σ t.1 t.2.1 t.2.2)/\l.Pairwise λt a=>∀b,bp t.1=some b->bp a.1≠some b
theorem nI.head{σ0 σ a kk es l}(h:nI σ0 σ ((a,kk,es)::l)):Tok σ0 σ a kk es:=h.2.1 _ (abG)
theorem nI.perm{σ0 σ l l'}(h:nI σ0 σ l)(d:l.Perm l'):nI σ0 σ l':=⟨h.1,λt q=>h.2.1 t (d.mem_iff.2 q),(d.pairwise_iff λ{a b} q c e f=>q c f e).1 h.2.2⟩
theorem nI.OS{σ0 σ σ2 l c}(h:nI σ0 σ l)(b:σ0 c=none)(d:∃l,σ c=some (.cells l))(a:∀y,y≠c->σ2 y=σ y):nI σ0 σ2 l:=⟨λy x f=>by rw[a y λe=>by simp_all];exact h.1 y x f,λt q=>qv (h.2.1 t q) b d a,h.2.2⟩
theorem nI.app{σ0 σ σ' a a' kk kk' es c l}(h:nI σ0 σ ((a,kk,es)::l))(d:Tok (σ.off a) σ' a' kk' c):nI σ0 σ' ((a',kk',c)::l)/\∀y x,σ y=some (.cells x)->σ' y=some (.cells x):=by
 have f:=h.head;obtain⟨j,k⟩:=aas.1 h.2.2;have hb:=d.base f.here.2;have key:∀t∈l,Tok σ0 σ' t.1 t.2.1 t.2.2/\∀b,bp t.1=some b->bp a'≠some b:=λt q=>B1 (h.2.1 t (aaQ _ q)) f (λb g i=>j t q b i g) d
 refine⟨⟨hb.1,λt q=>?_,aas.2 ⟨λt q b g i=>(key t q).2 b i g,k⟩⟩,λy x m=>d.1 _ _ ?_⟩
 . grind
 . rw[ab.du λe=>by obtain⟨_,_,q⟩:=f.aR e;simp_all];exact m
section
variable{c k:Nat}{nums:acy}
namespace WA
abbrev ZD:acn:=[⟨11,.take [0,2,3,8] false (.both 1 (.one 4 (.one 5 (.one 6 (.one 7 (.one 9 (.done)))))) (.one 4 (.both 1 (.one 5 (.one 6 (.one 7 (.one 9 (.done))))) (.one 5 (.both 1 (.one 6 (.one 7 (.one 9 (.done)))) (.one 6 (.take [1] true (.one 7 (.one 9 (.done))))))))))⟩,⟨18,.take [0,2,3,4,8,9,10,11,12,13,19] false (.both 1 (.both 5 (.take [6] false (.both 7 (.one 14 (.one 15 (.one 16 (.one 17 (.one 18 (.one 20 (.done))))))) (.one 14 (.one 7 (.one 15 (.one 16 (.one 17 (.one 18 (.one 20 (.done)))))))))) (.one 14 (.one 5 (.take [6] false (.one 7 (.one 15 (.one 16 (.one 17 (.one 18 (.one 20 (.done))))))))))) (.both 5 (.take [6] false (.both 1 (.both 7 (.one 14 (.one 15 (.one 16 (.one 17 (.one 18 (.one 20 (.done))))))) (.one 14 (.one 7 (.one 15 (.one 16 (.one 17 (.one 18 (.one 20 (.done))))))))) (.both 7 (.both 1 (.one 14 (.one 15 (.one 16 (.one 17 (.one 18 (.one 20 (.done))))))) (.one 14 (.both 1 (.one 15 (.one 16 (.one 17 (.one 18 (.one 20 (.done)))))) (.one 15 (.both 1 (.one 16 (.one 17 (.one 18 (.one 20 (.done))))) (.one 16 (.both 1 (.one 17 (.one 18 (.one 20 (.done)))) (.one 17 (.take [1] true (.one 18 (.one 20 (.done)))))))))))) (.one 14 (.both 1 (.one 7 (.one 15 (.one 16 (.one 17 (.one 18 (.one 20 (.done))))))) (.one 7 (.both 1 (.one 15 (.one 16 (.one 17 (.one 18 (.one 20 (.done)))))) (.one 15 (.both 1 (.one 16 (.one 17 (.one 18 (.one 20 (.done))))) (.one 16 (.both 1 (.one 17 (.one 18 (.one 20 (.done)))) (.one 17 (.take [1] true (.one 18 (.one 20 (.done)))))))))))))))) (.one 14 (.both 1 (.one 5 (.take [6] false (.one 7 (.one 15 (.one 16 (.one 17 (.one 18 (.one 20 (.done))))))))) (.one 5 (.take [6] false (.both 1 (.one 7 (.one 15 (.one 16 (.one 17 (.one 18 (.one 20 (.done))))))) (.one 7 (.both 1 (.one 15 (.one 16 (.one 17 (.one 18 (.one 20 (.done)))))) (.one 15 (.both 1 (.one 16 (.one 17 (.one 18 (.one 20 (.done))))) (.one 16 (.both 1 (.one 17 (.one 18 (.one 20 (.done)))) (.one 17 (.take [1] true (.one 18 (.one 20 (.done))))))))))))))))))⟩,⟨20,.take [0,1,3,6,7,8,9,10,13,14] false (.both 2 (.both 4 (.both 5 (.one 11 (.one 12 (.take [16] false (.one 15 (.done))))) (.one 11 (.one 5 (.one 12 (.take [16] false (.one 15 (.done))))))) (.one 11 (.one 4 (.one 5 (.one 12 (.take [16] false (.one 15 (.done)))))))) (.both 4 (.both 2 (.both 5 (.one 11 (.one 12 (.take [16] false (.one 15 (.done))))) (.one 11 (.one 5 (.one 12 (.take [16] false (.one 15 (.done))))))) (.one 11 (.one 2 (.one 5 (.one 12 (.take [16] false (.one 15 (.done)))))))) (.one 11 (.both 2 (.one 4 (.one 5 (.one 12 (.take [16] false (.one 15 (.done)))))) (.one 4 (.one 2 (.one 5 (.one 12 (.take [16] false (.one 15 (.done)))))))))))⟩]
theorem Gf{cnt}(hk:k+600<1000000)(hn:nums.length<1152921504606846976)(ca:1<=cnt/\cnt<=6)(hb:bg c nums k σ)(h:∀  w   own lost  σ',NS cnt w own lost->ov c nums (k+600) σ σ'->KF (.val (.cu [dz w,ints own,ints lost])) σ'):az prog m 9 [.ref c 0,int cnt] σ KF:=by
 obtain⟨n0,s0,_,fp⟩:=id hb;refine fs ZD Tryz.func9 rfl (by kernel_rfl) ?_
 simp[Tryz.f9];refine bI.intro λH h4=>?_
 have n4:c≠H:=λe=>by simp_all
 have av:∀x,bg c nums k (σ.set H x):=λx=>⟨n0,s0,by assumption,by rw[ab.ah _ _ n4];exact fp⟩
 simp;refine cf Tryz.func40 rfl (JE (by omega) hn ca (av _) λf U ep hS b3=>?_)
 refine aa.runN lay [] 6 ?_;simp;refine bI.intro λc7 h7=>?_
 simp[aG]
 change aa _ _ _ _ _ _ _ _ _
 refine aa.bt 7 (b:=c7) (cM f) (ab.ai _ _ _) (by simp) rfl ?_
 rw[fh h7];clear h7;apply rn;simp;refine bI.intro λG h9=>?_
 have u4:ep H=some (.cells [.nil,.nil,int 0,int 0,int 0,int 0,int 0,.nil,.nil]):=by rw[b3.2 H (za n4),ab.ai]
 have n9:G≠c:=λe=>by subst e;obtain⟨_,_,_,q⟩:=b3.1;simp_all
 have a8:G≠H:=λe=>by simp_all
 simp[aG]
 have S:∀X,bg c nums (k+500) (ep.set G X):=λX=>by obtain⟨n,z,g1,g2⟩:=b3.1;exact⟨n,z,g1,by rw[ab.ah _ _ (za n9)];exact g2⟩
 refine cf Tryz.func20 rfl (sT (by omega) hn (by omega) (S _) λon O b4=>?_)
 refine aa.runN lay [] 3 ?_;simp;obtain⟨M,hM⟩:∃M:Int,M=if on=true then 6 else f.aW:=⟨_,rfl⟩
 apply Ek
 . intro key
   have v9:O G=some (.cells [.nil,rows f.roads,int f.aP,int f.dH,int f.cL,int f.aW,int 0,.nil,.nil]):=by rw[b4.2 G n9,ab.ai]
   have v4:O H=some (.cells [.nil,.nil,int 0,int 0,int 0,int 0,int 0,.nil,.nil]):=by rw[b4.2 H (za n4),ab.ah _ _ (za a8)];exact u4
   have vk:∀y,y≠c->y≠H->y≠G->O y=σ y:=λy y1 y2 y3=>by rw[b4.2 y y1,ab.ah _ _ y3,b3.2 y y1,ab.ah _ _ y2]
   cases on with
   | false=>
     simp;refine aa.runN lay [] 1 ?_;simp;refine aa.eu (λenv σ'=>env 0=.ref c 0/\env 7=.cp (cM f) 0/\env 8=ints U/\env 4=.ref H 0/\env 9=.ref G 0/\bg c nums (k+501) σ'/\σ' H=some (.cells [.nil,.nil,int 0,int 0,int 0,int 0,int 0,.nil,.nil])/\σ' G=some (.cells [.nil,rows f.roads,int f.aP,int f.dH,int f.cL,int M,int 0,.nil,.nil])/\∀y,y≠c->y≠H->y≠G->σ' y=σ y) ?_ ?_
     . exact⟨by simp,by simp,by simp,by simp,by simp,b4.1,v4,by rw[hM];exact v9,vk⟩
     . exact key
   | true=>
     simp;refine aa.runN lay [] 5 ?_;simp[v9,aG];obtain⟨n,z,g1,g2⟩:=b4.1;refine aa.eu (λenv σ'=>env 0=.ref c 0/\env 7=.cp (cM f) 0/\env 8=ints U/\env 4=.ref H 0/\env 9=.ref G 0/\bg c nums (k+501) σ'/\σ' H=some (.cells [.nil,.nil,int 0,int 0,int 0,int 0,int 0,.nil,.nil])/\σ' G=some (.cells [.nil,rows f.roads,int f.aP,int f.dH,int f.cL,int M,int 0,.nil,.nil])/\∀y,y≠c->y≠H->y≠G->σ' y=σ y) ?_ ?_
     . exact⟨by simp,by simp,by simp,by simp,by simp,⟨n,z,g1,by rw[ab.ah _ _ (za n9)];exact g2⟩,by rw[ab.ah _ _ (za a8)];exact v4,by rw[hM];exact ab.ai _ _ _,λy y1 y2 y3=>by rw[ab.ah _ _ y3];exact vk y y1 y2 y3⟩
     . exact key
 have ft:f.aW<=M/\M<=6:=by have:=hS.pJ.aW;omega
 have s9:σ G=none:=by rw[<-h9,b3.2 G n9,ab.ah _ _ a8]
 rintro env et ⟨v,A,B,D,F,bm,u4,u9,fu⟩
 apply rn;simp[v,A,B,D,F,u9];refine cf Tryz.func19 rfl (dM (by omega) hn (by omega) (by omega) bm λT bw hT a9=>?_)
 have fv:1<=T/\T<=4:=by omega
 have v9:bw G=some (.cells [.nil,rows f.roads,int f.aP,int f.dH,int f.cL,int M,int 0,.nil,.nil]):=by rw[a9.2 G n9];exact u9
 apply rn;simp[v,A,B,D,F,v9,aG]
 have fw:∀X,bg c nums (k+502) (bw.set G X):=λX=>by obtain⟨n,z,g1,g2⟩:=a9.1;exact⟨n,z,by omega,by rw[ab.ah _ _ (za n9)];exact g2⟩
 refine cf Tryz.func18 rfl (eh (by omega) hn (by omega) (fw _) λx ad hx bA=>?_)
 have gB:0<=x/\x<=5:=by omega
 obtain⟨X,hX⟩:∃X:Nat,(X:Int)=x:=⟨x.toNat,by omega⟩
 apply rn;simp[v,A,B,D,F,v9]
 have ev:(σ.del c).Le ad:=λy z hy=>by
  have y1:y≠c:=λe=>by subst e;simp[ab.del]at hy
  have y0:σ y=some z:=by simpa[ab.del,y1]using hy
  have y4:y≠H:=λe=>by simp_all
  have y9:y≠G:=λe=>by simp_all
  rw[bA.2 y y1,ab.ah _ _ y9,a9.2 y y1,fu y y1 y4 y9];exact y0
 have ey:nI (σ.del c) ad [(.nil,5,([]:acB).map cU)]:=⟨ev,λt q=>by rw[lb.1 q];exact⟨ev,.inl ⟨rfl,rfl⟩⟩,List.pairwise_singleton _ _⟩
 have eA:bg c nums (k+503+7*0) ad:=bA.1.mono (by omega)
 refine Ek (P:=?P2) (λkey=>?f2) ?p2
 case f2=>
  refine aa.loop X (λj s=>∃env σ' aw ws,s=⟨env,σ',[],.no⟩/\(env 0=.ref c 0/\env 7=.cp (cM f) 0/\env 8=ints U/\env 4=.ref H 0/\env 9=.ref G 0/\env 10=int (X-j))/\bg c nums (k+503+7*j) σ'/\σ' H=some (.cells [.nil,.nil,int 0,int 0,int 0,int 0,int 0,.nil,.nil])/\σ' G=some (.cells [.nil,rows f.roads,int f.aP,int f.dH,int f.cL,int M,int T,aw,.nil])/\nI (σ.del c) σ' [(aw,5,(ws:acB).map cU)]/\ws.length<=j/\∀x∈ws,ki T x=0) ?_ ?_
  . exact⟨_,_,.nil,[],rfl,by simp[v,A,B,D,F,v9,hX],eA,by rw[bA.2 H (za n4),ab.ah _ _ (za a8),a9.2 H (za n4)];exact u4,by rw[bA.2 G n9,ab.ai],ey,by simp⟩
  rintro c0 j _ hj ⟨env,σ',aw,ws,rfl,⟨v,A,B,D,F,cd⟩,bB,q4,V,J,fx,b5⟩ ih
  have a7:=J.head.cells;apply rn;simp[v,A,B,D,F,cd,V,a7.1,a7.2];refine uK.intro (λg1=>?_) (λg1=>?_)<;>(try simp[-Nat.not_lt,-Nat.not_le]at g1)<;>(try simp[v,A,B,D,F,cd,V,a7.1,a7.2,g1])
  rotate_left
  . have cm:k+503+7*j<=k+540:=by omega
    have cv:ws.length<=5:=by omega
    refine aa.eu (λenv σ'=>∃aw ws,env 0=.ref c 0/\env 7=.cp (cM f) 0/\env 8=ints U/\env 4=.ref H 0/\env 9=.ref G 0/\env 11=.nil/\env 12=.nil/\env 13=int 0/\bg c nums (k+540) σ'/\σ' H=some (.cells [.nil,.nil,int 0,int 0,int 0,int 0,int 0,.nil,.nil])/\σ' G=some (.cells [.nil,rows f.roads,int f.aP,int f.dH,int f.cL,int M,int T,aw,.nil])/\nI (σ.del c) σ' [(aw,5,(ws:acB).map cU)]/\ws.length<=5/\∀x∈ws,ki T x=0) ?_ ?_
    . refine⟨aw,ws,?_,?_,?_,?_,?_,?_,?_,?_,bB.mono cm,q4,V,J,cv,b5⟩<;>simp[v,A,B,D,F,cd,V,a7.1,a7.2]
    . exact key
  apply aH.intro<;>intro g2<;>simp at g2<;>simp[v,A,B,D,F,cd,V,a7.1,a7.2,g2]
  rotate_left
  . have cm:k+503+7*j<=k+540:=by omega
    have cv:ws.length<=5:=by omega
    refine aa.eu (λenv σ'=>∃aw ws,env 0=.ref c 0/\env 7=.cp (cM f) 0/\env 8=ints U/\env 4=.ref H 0/\env 9=.ref G 0/\env 11=.nil/\env 12=.nil/\env 13=int 0/\bg c nums (k+540) σ'/\σ' H=some (.cells [.nil,.nil,int 0,int 0,int 0,int 0,int 0,.nil,.nil])/\σ' G=some (.cells [.nil,rows f.roads,int f.aP,int f.dH,int f.cL,int M,int T,aw,.nil])/\nI (σ.del c) σ' [(aw,5,(ws:acB).map cU)]/\ws.length<=5/\∀x∈ws,ki T x=0) ?_ ?_
    . refine⟨aw,ws,?_,?_,?_,?_,?_,?_,?_,?_,bB.mono cm,q4,V,J,cv,b5⟩<;>simp[v,A,B,D,F,cd,V,a7.1,a7.2]
    . exact key
  apply vh (I:=λenv r=>∃a' x,env 0=.ref c 0/\env 7=.cp (cM f) 0/\env 8=ints U/\env 4=.ref H 0/\env 9=.ref G 0/\env 10=int (X-j)/\ki T x=0/\bg c nums (k+503+7*j+7) r/\r H=some (.cells [.nil,.nil,int 0,int 0,int 0,int 0,int 0,.nil,.nil])/\r G=some (.cells [.nil,rows f.roads,int f.aP,int f.dH,int f.cL,int M,int T,a',.nil])/\nI (σ.del c) r [(a',5,(ws.map cU)++[cU x])])
  . intro Y
    repeat' (first
              |apply And.intro
              | (refine cf Tryz.func21 rfl (WY.Eo (by omega) hn (by omega) bB λx O dj hd=>?_)
                 have dm:∃l,σ' c=some (.cells l):=by obtain⟨_,_,_,q⟩:=bB;exact⟨_,q⟩
                 have L:=J.OS (by simp[ab.del]) dm hd.2
                 have eB:=L.head.cells;have r9:O G=some (.cells [.nil,rows f.roads,int f.aP,int f.dH,int f.cL,int M,int T,aw,.nil]):=by rw[hd.2 G n9];exact V
                 have r4:O H=some (.cells [.nil,.nil,int 0,int 0,int 0,int 0,int 0,.nil,.nil]):=by rw[hd.2 H (za n4)];exact q4
                 apply pg;simp[v,A,B,D,F,cd,r9,eB.1,eB.2])
              | (refine aN lay rfl rfl rfl Fu rfl Fu rfl Pb (by decide) (by simp;omega) (σ0:=O.off aw) (es:=ws.map cU) (xs:=[cU x]) (by simpa using L.head.here.1) (.inr ⟨_,by simp;rfl⟩) λa' et ax=>?_
                 obtain⟨b0,k3⟩:=L.app ax;have K:=b0.head.cells;have t9:=k3 _ _ r9;have t4:=k3 _ _ r4;apply pg;simp[v,A,B,D,F,cd,t9,K.1,K.2,aG];obtain⟨nb,zb,av,S⟩:=hd.1;have tc:=k3 _ _ S;refine Y _ _ ⟨a',x,by simp[v],by simp[A],by simp[B],by simp[D],by simp[F],by simp[cd],dj,⟨nb,zb,av,by rw[ab.ah _ _ (za n9)];exact tc⟩,by rw[ab.ah _ _ (za a8)];exact t4,ab.ai _ _ _,?_⟩
                 exact(b0.OS (by simp[ab.del,n9,s9]) ⟨_,t9⟩ λy hy=>ab.ah _ _ hy)))
  clear v A B D F cd env
  rintro env O ⟨a',x,v,A,B,D,F,cd,dj,S,r4,r9,L⟩
  apply rn;simp[v,A,B,D,F,cd];have r1:-9223372036854775808<=(X:Int)-j-1/\(X:Int)-j-1<=9223372036854775807:=by omega
  refine⟨r1,ih _ g1 ⟨_,_,a',ws++[x],rfl,⟨by simp[v,A,B,D,F,cd],by simp[v,A,B,D,F,cd],by simp[v,A,B,D,F,cd],by simp[v,A,B,D,F,cd],by simp[v,A,B,D,F,cd],?_⟩,?_,r4,r9,?_,?_,?_⟩⟩
  . simp;omega
  . omega
  . simpa using L
  . simp;omega
  . intro y hy
    rcases ZQ.1 hy with q|q
    . exact b5 y q
    . rw[lb.1 q];exact dj
 case p2=>
 clear v A B D F env
 rintro env c5 ⟨aw,ws,v,A,B,D,F,cY,eZ,d,eK,eN,dr,R,fx,b5⟩
 obtain⟨Q,dx⟩:∃Q:Int->Int,Q=λi=>U.getD i.toNat 0:=⟨_,rfl⟩
 have h6:=hS.pJ.tZ;have gC:=hS.len;have gD:U.length=f.aD.length:=by obtain⟨_,_,_,_,q,_⟩:=hS.seen;exact q.len
 have fO:∀e∈f.aD,0<=e.hour/\e.hour<=72:=λe he=>(oR (hS.pJ.u6 e he)).1
 apply rn;simp[v,A,B,D,F,cY,eZ,d,dr];have b6:=R.1
 have b7:nI (σ.del c) c5 [(.nil,6,(([]:acy).map (aX f)).map bn),(.nil,8,([]:List N5).map gg),(.nil,1,(([]:acy).map Q).map int),(.nil,1,(([]:acy).map Q).map int),(aw,5,ws.map cU)]:=by
  have n0:∀kk,Tok (σ.del c) c5 .nil kk []:=λkk=>⟨b6,.inl ⟨rfl,rfl⟩⟩
  refine⟨b6,λt q=>?_,?_⟩
  . simp at q
    rcases q with rfl|rfl|rfl|rfl
    . exact n0 6
    . exact n0 8
    . exact n0 1
    . exact R.head
  . simp[bp]
 refine aa.loop f.aD.length (λi s=>∃env σ' aE Z aO aL E C cs,s=⟨env,σ',[],.no⟩/\(env 0=.ref c 0/\env 7=.cp (cM f) 0/\env 8=ints U/\env 4=.ref H 0/\env 9=.ref G 0/\env 11=aO/\env 12=aL/\env 13=int i)/\bg c nums (k+540+3*i) σ'/\σ' H=some (.cells [.nil,.nil,int 0,int 0,int 0,int 0,int 0,.nil,.nil])/\σ' G=some (.cells [aE,rows f.roads,int f.aP,int f.dH,int f.cL,int M,int T,aw,Z])/\nI (σ.del c) σ' [(aE,6,((E:acy).map (aX f)).map bn),(Z,8,(cs:List N5).map gg),(aO,1,(E.map Q).map int),(aL,1,((C:acy).map Q).map int),(aw,5,ws.map cU)]/\E.length+C.length=i/\(∀x∈E++C,0<=x/\x<f.aD.length)/\cs.map (·.lost)=C.map (aX f)/\cs.length<=3/\∀x∈cs,(0<=x.town/\x.town<T)/\(0<=x.hour/\x.hour<=72)/\x.lost.hour<=x.hour) ?_ ?_
 . refine⟨_,_,.nil,.nil,.nil,.nil,[],[],[],rfl,?_,eK,eN,dr,b7,rfl,by simp,rfl,by simp⟩
   simp_all
 clear b7 R b6 eN dr eK v A B D F cY eZ d env
 rintro c0 i _ hi ⟨env,σ',aE,Z,aO,aL,E,C,cs,rfl,⟨v,A,B,D,F,cY,eZ,d⟩,dy,q4,V,J,gG,c6,ea,eR,eb⟩ ih
 have g:=J.head.cells;have o:Z.cells=[Z]/\Z.flat=true:=(J.2.1 (Z,8,cs.map gg) (by simp)).cells
 have u:aO.cells=[aO]/\aO.flat=true:=(J.2.1 (aO,1,(E.map Q).map int) (by simp)).cells
 have p:aL.cells=[aL]/\aL.flat=true:=(J.2.1 (aL,1,(C.map Q).map int) (by simp)).cells
 have gd:∀l,(Z,8,cs.map gg)=l->True:=λ_ _=>trivial
 refine aa.runN lay [] 20 ?_;simp[v,A,B,D,F,cY,eZ,d,V,g.1,g.2,o.1,o.2,u.1,u.2,p.1,p.2];apply aH.intro<;>intro g1<;>simp at g1<;>simp[v,A,B,D,F,cY,eZ,d,V,g.1,g.2,o.1,o.2,u.1,u.2,p.1,p.2,g1]
 . refine aa.runN lay [] 2 ?_
   simp[v,A,B,D,F,cY,eZ,d,V,g.1,g.2,o.1,o.2,u.1,u.2,p.1,p.2];refine bI.intro λgf eW=>?_
   simp[v,A,B,D,F,cY,eZ,d,V,g.1,g.2,o.1,o.2,u.1,u.2,p.1,p.2,aG]
   change aa _ _ _ _ _ _ _ _ _
   refine aa.bt 14 (b:=gf) (bn f.aD[i]) (ab.ai _ _ _) (by simp) rfl ?_
   rw[fh eW];have gH:=fO _ (zA g1);have eX:aX f i=f.aD[i]:=by simp[aX,g1]
   generalize f.aD[i]=e at *;clear eW;apply rn;simp[v,A,B,D,F,cY,eZ,d,V,g.1,g.2,o.1,o.2,u.1,u.2,p.1,p.2];refine cf Tryz.func20 rfl (sT (by omega) hn (by omega) dy λon O b1=>?_)
   have dm:∃l,σ' c=some (.cells l):=by obtain⟨_,_,_,q⟩:=dy;exact⟨_,q⟩
   have L:=J.OS (by simp[ab.del]) dm b1.2
   have r9:O G=some (.cells [aE,rows f.roads,int f.aP,int f.dH,int f.cL,int M,int T,aw,Z]):=by rw[b1.2 G n9];exact V
   have r4:O H=some (.cells [.nil,.nil,int 0,int 0,int 0,int 0,int 0,.nil,.nil]):=by rw[b1.2 H (za n4)];exact q4
   have fc:=(L.2.1 (Z,8,cs.map gg) (by simp)).QA
   refine Ek (P:=?P3) (λkey=>?f3) ?p3
   case f3 =>
    have gj:∀b,b=decide ((cs.length:Int)<3)->b=true->cs.length<3:=λb q1 q2=>by rw[q1]at q2;have:=abu q2;clear key;omega
    cases on with
    | false=>
      refine aa.runN lay [] 7 ?_;simp[v,A,B,D,F,cY,eZ,d,V,g.1,g.2,o.1,o.2,u.1,u.2,p.1,p.2];refine aa.eu (λenv r=>O=r/\env 0=.ref c 0/\env 7=.cp (cM f) 0/\env 8=ints U/\env 4=.ref H 0/\env 9=.ref G 0/\env 11=aO/\env 12=aL/\env 13=int i/\env 14=.cp (bn e) 0/\∃b,env 71=bool b/\(b=true->cs.length<3)) ?_ ?_
      . refine⟨rfl,?_,?_,?_,?_,?_,?_,?_,?_,?_,false,?_⟩<;>simp[v,A,B,D,F,cY,eZ,d,V,g.1,g.2,o.1,o.2,u.1,u.2,p.1,p.2]
      . exact key
    | true=>
      rcases fc with ⟨q1,q2⟩|⟨sp,q1⟩
      . change Z=_ at q1
        rw[q1]at r9;refine aa.runN lay [] 7 ?_;simp[v,A,B,D,F,cY,eZ,d,V,g.1,g.2,o.1,o.2,u.1,u.2,p.1,p.2,r9];refine aa.eu (λenv r=>O=r/\env 0=.ref c 0/\env 7=.cp (cM f) 0/\env 8=ints U/\env 4=.ref H 0/\env 9=.ref G 0/\env 11=aO/\env 12=aL/\env 13=int i/\env 14=.cp (bn e) 0/\∃b,env 71=bool b/\(b=true->cs.length<3)) ?_ ?_
        . have hz:cs.length<3:=by
           cases cs with
           |nil=>exact(by decide)
           |cons a l=>cases q2
          refine⟨rfl,?_,?_,?_,?_,?_,?_,?_,?_,?_,true,?_,λ_=>hz⟩<;>simp[v,A,B,D,F,cY,eZ,d,V,g.1,g.2,o.1,o.2,u.1,u.2,p.1,p.2]
        . exact key
      . change Z=_ at q1
        rw[q1]at r9;refine aa.runN lay [] 7 ?_;simp[v,A,B,D,F,cY,eZ,d,V,g.1,g.2,o.1,o.2,u.1,u.2,p.1,p.2,r9];refine aa.eu (λenv r=>O=r/\env 0=.ref c 0/\env 7=.cp (cM f) 0/\env 8=ints U/\env 4=.ref H 0/\env 9=.ref G 0/\env 11=aO/\env 12=aL/\env 13=int i/\env 14=.cp (bn e) 0/\∃b,env 71=bool b/\(b=true->cs.length<3)) ?_ ?_
        . refine⟨rfl,?_,?_,?_,?_,?_,?_,?_,?_,?_,decide ((cs.length:Int)<3),?_,gj _ rfl⟩<;>simp[v,A,B,D,F,cY,eZ,d,V,g.1,g.2,o.1,o.2,u.1,u.2,p.1,p.2]
        . exact key
   case p3=>
   clear v A B D F cY eZ d env fc
   rintro env _ ⟨rfl,v,A,B,D,F,cY,eZ,d,JK,b,QX,bm⟩
   have rT:-9223372036854775808<=T-1/\T-1<=9223372036854775807:=by omega
   have rh:-9223372036854775808<=e.hour+6/\e.hour+6<=9223372036854775807:=by omega
   have gI:E.length<=i/\C.length<=i:=by omega
   cases b with
   | true=>
     have bm:=bm rfl
     apply vh (I:=λenv r=>∃a' nc,env 0=.ref c 0/\env 7=.cp (cM f) 0/\env 8=ints U/\env 4=.ref H 0/\env 9=.ref G 0/\env 11=aO/\env 12=aL/\env 13=int i/\bg c nums (k+540+3*i+3) r/\r H=some (.cells [.nil,.nil,int 0,int 0,int 0,int 0,int 0,.nil,.nil])/\r G=some (.cells [aE,rows f.roads,int f.aP,int f.dH,int f.cL,int M,int T,aw,a'])/\nI (σ.del c) r [(a',8,cs.map gg++[gg nc]),(aE,6,(E.map (aX f)).map bn),(aO,1,(E.map Q).map int),(aL,1,(C.map Q).map int),(aw,5,ws.map cU)]/\nc.lost=e/\(0<=nc.town/\nc.town<T)/\(0<=nc.hour/\nc.hour<=72)/\nc.lost.hour<=nc.hour)
     . intro Y
       apply rn;simp[v,A,B,D,F,cY,eZ,d,JK,QX,r9,g.1,g.2,o.1,o.2,rT.1,rT.2,rh.1,rh.2]
       repeat' (first
                 |apply And.intro
                 | (refine cf Tryz.func18 rfl (eh (by omega) hn (by omega) b1.1 λy1 et gP b8=>?_)
                    have b0:=L.OS (by simp[ab.del]) (by obtain⟨_,_,_,q⟩:=b1.1;exact⟨_,q⟩) b8.2
                    have v9:=(b8.2 G n9).trans r9;have v4:=(b8.2 H (za n4)).trans r4;apply pg;simp[v,A,B,D,F,cY,eZ,d,JK,r9,v9,g.1,g.2,o.1,o.2,rT.1,rT.2,rh.1,rh.2])
                 | (refine cf Tryz.func19 rfl (dM (by omega) hn (by omega) ⟨by split<;>omega,by split<;>omega⟩ b8.1 λy2 bw gl a9=>?_)
                    have fg:=b0.OS (by simp[ab.del]) (by obtain⟨_,_,_,q⟩:=b8.1;exact⟨_,q⟩) a9.2
                    have x9:=(a9.2 G n9).trans v9;have x4:=(a9.2 H (za n4)).trans v4;apply pg;simp[v,A,B,D,F,cY,eZ,d,JK,x9,g.1,g.2,o.1,o.2,aG])
                 | (have hp:=fg.perm (List.Perm.swap (Z,8,cs.map gg) _ _)
                    refine aN lay rfl rfl rfl Iv rfl Iv rfl Rh (by decide) (by simp;omega) (σ0:=bw.off Z) (es:=cs.map gg) (xs:=[gg ⟨e,y1,y2⟩]) (by simpa using hp.head.here.1) (.inr ⟨.exact,by simp[aG]⟩) λa' ad ax=>?_
                    obtain⟨N,k5⟩:=hp.app ax;have K:=N.head.cells;have t9:=k5 _ _ x9;have t4:=k5 _ _ x4;apply pg;simp[v,A,B,D,F,cY,eZ,d,JK,t9,K.1,K.2,aG];obtain⟨nb,zb,av,S⟩:=a9.1;have tc:=k5 _ _ S
                    refine Y _ _ ⟨a',⟨e,y1,y2⟩,by simp[v],by simp[A],by simp[B],by simp[D],by simp[F],by simp[cY],by simp[eZ],by simp[d],⟨nb,zb,by omega,by rw[ab.ah _ _ (za n9)];exact tc⟩,by rw[ab.ah _ _ (za a8)];exact t4,ab.ai _ _ _,N.OS (by simp[ab.del,n9,s9]) ⟨_,t9⟩ λy hy=>ab.ah _ _ hy,rfl,by simp only;omega,?_,?_⟩
                    . simp only;revert gl;split<;>omega
                    . simp only;omega))
     clear v A B D F cY eZ d JK QX env
     rintro env ad ⟨a',nc,v,A,B,D,F,cY,eZ,d,ec,ed,ee,N,gp,gR,gU,h3⟩
     have b2:i<U.length:=by omega
     have K:=N.head.cells;apply rn;simp[v,A,B,D,F,cY,eZ,d,K.1,K.2,p.1,p.2,b2];have hp:=N.perm (abN (a:=(aL,1,(C.map Q).map int)) (l₁:=[(a',8,cs.map gg++[gg nc]),(aE,6,(E.map (aX f)).map bn),(aO,1,(E.map Q).map int)]) (l₂:=[(aw,5,ws.map cU)]));have b9:Q (i:Int)=U[i]:=by rw[dx];simp[b2]
     refine aN lay rfl rfl rfl dG rfl dG rfl rA (by decide) (by simp;omega) (σ0:=ad.off aL) (es:=(C.map Q).map int) (xs:=[int U[i]]) (by simpa using hp.head.here.1) (.inr ⟨_,rfl⟩) λfi c5 ax=>?_
     obtain⟨R,k6⟩:=hp.app ax;have cb:=R.head.cells;have t9:=k6 _ _ ee;have t4:=k6 _ _ ed;apply rn;simp[v,A,B,D,F,cY,eZ,d,K.1,K.2,p.1,p.2,cb.1,cb.2];obtain⟨nb,zb,av,S⟩:=ec;have tc:=k6 _ _ S;have eg:=R.perm ((abN (a:=(fi,1,(C.map Q).map int++[int U[i]])) (l₁:=[(a',8,cs.map gg++[gg nc]),(aE,6,(E.map (aX f)).map bn),(aO,1,(E.map Q).map int)]) (l₂:=[(aw,5,ws.map cU)])).symm.trans (List.Perm.swap _ _ _))
     refine⟨by omega,ih _ g1 ⟨_,_,aE,a',aO,fi,E,C++[(i:Int)],cs++[nc],rfl,?_,⟨nb,zb,by omega,tc⟩,t4,t9,?_,?_,?_,?_,?_,?_⟩⟩
     . exact by simp[v,A,B,D,F,cY,eZ,d,K.1,K.2,p.1,p.2]
     . simpa[b9]using eg
     . simp;omega
     . intro x hx
       rw[<-List.append_assoc]at hx
       rcases ZQ.1 hx with q|q
       . exact c6 x q
       . rw[lb.1 q];omega
     . rw[aab,aab,ea];simp[gp,eX]
     . simp;omega
     . intro x hx
       rcases ZQ.1 hx with q|q
       . exact eb x q
       . rw[lb.1 q];omega
   | false=>
     have b2:i<U.length:=by omega
     have b9:Q (i:Int)=U[i]:=by rw[dx];simp[b2]
     apply vh (I:=λenv r=>∃al ay,env 0=.ref c 0/\env 7=.cp (cM f) 0/\env 8=ints U/\env 4=.ref H 0/\env 9=.ref G 0/\env 11=ay/\env 12=aL/\env 13=int i/\bg c nums (k+540+3*i+3) r/\r H=some (.cells [.nil,.nil,int 0,int 0,int 0,int 0,int 0,.nil,.nil])/\r G=some (.cells [al,rows f.roads,int f.aP,int f.dH,int f.cL,int M,int T,aw,Z])/\nI (σ.del c) r [(ay,1,(E.map Q).map int++[int U[i]]),(al,6,(E.map (aX f)).map bn++[bn e]),(Z,8,cs.map gg),(aL,1,(C.map Q).map int),(aw,5,ws.map cU)])
     . intro Y
       apply rn;simp[v,A,B,D,F,cY,eZ,d,JK,QX,r9,g.1,g.2,u.1,u.2,b2]
       repeat' (first
                 |apply And.intro
                 | (refine aN lay rfl rfl rfl lM rfl lM rfl xN (by decide) (by simp;omega) (σ0:=O.off aE) (es:=(E.map (aX f)).map bn) (xs:=[bn e]) (by simpa using L.head.here.1) (.inr ⟨.exact,by simp⟩) λal ad ax=>?_
                    obtain⟨N,k5⟩:=L.app ax;have K:=N.head.cells;have t9:=k5 _ _ r9;have t4:=k5 _ _ r4;apply pg;simp[v,A,B,D,F,cY,eZ,d,JK,t9,K.1,K.2,u.1,u.2,b2])
                 | (have hp:=N.perm (abN (a:=(aO,1,(E.map Q).map int)) (l₁:=[(al,6,(E.map (aX f)).map bn++[bn e]),(Z,8,cs.map gg)]) (l₂:=[(aL,1,(C.map Q).map int),(aw,5,ws.map cU)]))
                    refine aN lay rfl rfl rfl dG rfl dG rfl rA (by decide) (by simp;omega) (σ0:=ad.off aO) (es:=(E.map Q).map int) (xs:=[int U[i]]) (by simpa using hp.head.here.1) (.inr ⟨.exact,by simp⟩) λay c5 gw=>?_
                    obtain⟨R,k6⟩:=hp.app gw;have cg:=R.head.cells;have x9:=k6 _ _ t9;have x4:=k6 _ _ t4;apply pg;simp[v,A,B,D,F,cY,eZ,d,JK,x9,K.1,K.2,cg.1,cg.2,aG];obtain⟨nb,zb,av,S⟩:=b1.1;have tc:=k6 _ _ (k5 _ _ S);exact Y _ _ ⟨al,ay,by simp[v],by simp[A],by simp[B],by simp[D],by simp[F],by simp,by simp[eZ],by simp[d],⟨nb,zb,by omega,by rw[ab.ah _ _ (za n9)];exact tc⟩,by rw[ab.ah _ _ (za a8)];exact x4,ab.ai _ _ _,R.OS (by simp[ab.del,n9,s9]) ⟨_,x9⟩ λy hy=>ab.ah _ _ hy⟩))
     clear v A B D F cY eZ d JK QX env
     rintro env ad ⟨al,ay,v,A,B,D,F,cY,eZ,d,ec,ed,ee,N⟩
     apply rn;simp[v,A,B,D,F,cY,eZ,d];have eg:=N.perm ((abN (a:=(ay,1,(E.map Q).map int++[int U[i]])) (l₁:=[(al,6,(E.map (aX f)).map bn++[bn e]),(Z,8,cs.map gg)]) (l₂:=[(aL,1,(C.map Q).map int),(aw,5,ws.map cU)])).symm);refine⟨by omega,ih _ g1 ⟨_,_,al,Z,ay,aL,E++[(i:Int)],C,cs,rfl,?_,ec.mono (by omega),ed,ee,?_,?_,?_,ea,eR,eb⟩⟩
     . exact by simp[v,A,B,D,F,cY,eZ,d]
     . simpa[b9,eX]using eg
     . simp;omega
     . intro x hx
       rcases ZQ.1 hx with q|q
       . rcases ZQ.1 q with q|q
         . exact c6 x (List.mem_append_left _ q)
         . rw[lb.1 q];omega
       . exact c6 x (List.mem_append_right _ q)
 . have ei:i=f.aD.length:=by omega
   have fl:aw.cells=[aw]/\aw.flat=true:=(J.2.1 (aw,5,ws.map cU) (by simp)).cells
   simp[v,A,B,D,F,cY,eZ,d,V,g.1,g.2,o.1,o.2,u.1,u.2,p.1,p.2,fl.1,fl.2,q4,ab.ah,a8,za a8,aG];apply rn;simp[v,A,B,D,F,cY,eZ,d,V,g.1,g.2,o.1,o.2,u.1,u.2,p.1,p.2];obtain⟨w,hw⟩:∃w:iw,w=⟨⟨E.map (aX f),f.roads,f.aP,f.dH,f.cL,M⟩,T,ws,cs⟩:=⟨_,rfl⟩
   have ej:NS cnt w (E.map Q) (C.map Q):=by subst hw;subst dx;exact PI hS ca.2 c6 (by omega) rfl ea rfl rfl rfl rfl ft fv b5 (show ws.length<=5 by omega) eR eb
   obtain⟨nb,zb,av,S⟩:=dy
   have gx:(AV.agg [aE,rows f.roads,int f.aP,int f.dH,int f.cL,int M,int T,aw,Z]).W (dz w):=by
    subst hw;refine lR rfl λi x y h1 h2=>?_
    match i with
    |0=>cases h1;cases h2;exact J.head.W
    |1=>cases h1;cases h2;exact .refl _
    |2=>cases h1;cases h2;exact .refl _
    |3=>cases h1;cases h2;exact .refl _
    |4=>cases h1;cases h2;exact .refl _
    |5=>cases h1;cases h2;exact .refl _
    |6=>cases h1;cases h2;exact .refl _
    |7=>cases h1;cases h2;exact(J.2.1 (aw,5,ws.map cU) (by simp)).W
    |8=>cases h1;cases h2;exact(J.2.1 (Z,8,cs.map gg) (by simp)).W
    |i+9=>cases h1
   have gA:(AV.cu [.agg [aE,rows f.roads,int f.aP,int f.dH,int f.cL,int M,int T,aw,Z],aO,aL]).W (.cu [dz w,ints (E.map Q),ints (C.map Q)]):=by
    refine M4 rfl λi x y h1 h2=>?_
    match i with
    |0=>cases h1;cases h2;exact gx
    |1=>cases h1;cases h2;exact(J.2.1 (aO,1,(E.map Q).map int) (by simp)).W
    |2=>cases h1;cases h2;exact (J.2.1 (aL,1,(C.map Q).map int) (by simp)).W
    |i+3=>cases h1
   refine .na gA (.less (σ':=σ.set c (.cells [ints nums,int nb,.lit (.int .u64 zb)])) (λy x hy=>?_) (.done (h w _ _ _ ej ⟨⟨nb,zb,by omega,ab.ai _ _ _⟩,λy hy=>ab.ah _ _ hy⟩)))
   by_cases y1:y=c
   . subst y1
     rw[ab.ai]at hy;rw[ab.ah _ _ n4,S];exact hy
   . rw[ab.ah _ _ y1]at hy
     have y4:y≠H:=λe=>by subst e;grind
     rw[ab.ah _ _ y4];exact J.1 y x (by simpa[ab.del,y1]using hy)
end WA
end
end
section
open Go.cC Go.Conc
variable{m:Mo}{σ:ab}{KF:ach}
theorem Es{w}(f:gX w=0){a b c}(d:∀x∈a,0<=x/\x<=72)(hb:∀x∈b,0<=x/\x<(w.fair.aD.length:Int))(e:∀x∈c,0<=x/\x<(w.aB.length:Int)):fE w a b c=0:=by
 have g:a.all (bu · 0 72)=true:=ZT.2 λx q=>by have:=d x q;simp only[bu,zj,ZL];omega
 have h:b.all (bu · 0 (w.fair.aD.length-1))=true:=ZT.2 λx q=>by have:=hb x q;simp only[bu,zj,ZL];omega
 have i:c.all (bu · 0 (w.aB.length-1))=true:=ZT.2 λx q=>by have:=e x q;simp only[bu,zj,ZL];omega
 unfold fE
 grind
end
section
open Go.cC Go.Conc
def tg(x:Way)(a b:Int):Prop:=(x.a=a/\x.b=b)\/(x.a=b/\x.b=a)
theorem RK{h a b best:Int}{x:Way}:yj h a b x best<=best/\(tg x a b/\gK h x<=x.dH->yj h a b x best<=gK h x+x.ba)/\(yj h a b x best=best\/(tg x a b/\gK h x<=x.dH)/\yj h a b x best=gK h x+x.ba):=by
 unfold yj;split
 . next q=>
   refine⟨aax _,λz=>absurd z.1 ?_,.inl rfl⟩
   unfold tg;omega
 next q=>
 have d:tg x a b:=by unfold tg;omega
 split
 . next c=>
   split
   . exact⟨by omega,λ_=>aax _,.inr ⟨⟨d,c⟩,rfl⟩⟩
   . exact⟨aax _,λ_=>by omega,.inl rfl⟩
 . next c=>exact⟨aax _,λz=>absurd z.2 c,.inl rfl⟩
theorem yA(h a b:Int):∀(l:acB) (best:Int),l.foldl (λbest x=>yj h a b x best) best<=best/\(∀x∈l,tg x a b/\gK h x<=x.dH->l.foldl (λbest x=>yj h a b x best) best<=gK h x+x.ba)/\
 (l.foldl (λbest x=>yj h a b x best) best=best\/∃x∈l,(tg x a b/\gK h x<=x.dH)/\l.foldl (λbest x=>yj h a b x best) best=gK h x+x.ba)
 |[],best=>⟨aax _,by simp,.inl rfl⟩
 | y :: l,best=>by
   obtain⟨g,i,j⟩:=RK (h:=h) (a:=a) (b:=b) (best:=best) (x:=y);obtain⟨d,k,m⟩:=yA h a b l (yj h a b y best);rw[aaB];refine⟨Int.le_trans d g,λx hx f=>?_,?_⟩
   . rcases aae.1 hx with rfl|hx
     . exact Int.le_trans d (i f)
     . exact k x hx f
   . rcases m with e|⟨x,hx,q,e⟩
     . rw[e]
       rcases j with c|⟨q,c⟩
       . exact .inl c
       . exact .inr ⟨y,by simp,q,c⟩
     . exact .inr ⟨x,by simp[hx],q,e⟩
def iU(l' l:acB):Prop:=∀x∈l,∃c∈l',(∀a b,tg x a b->tg c a b)/\c.ba<=x.ba/\c.aP<=x.aP/\x.dH<=c.dH
theorem iU.WL{l' l:acB}(h:iU l' l){c t a b:Int}(o:c<=t):jH l' c a b<=jH l t a b:=by
 obtain⟨g,i,_⟩:=yA c a b l' 1048576;obtain⟨_,_,j⟩:=yA t a b l 1048576;unfold jH
 rcases j with e|⟨x,k,⟨m,p⟩,e⟩
 . rw[e];exact g
 . obtain⟨f,d,n,q,r,s⟩:=h x k
   have u:gK c f<=gK t x:=by unfold gK;split<;>split<;>omega
   have:=i f d ⟨n a b m,by omega⟩
   rw[e];omega
theorem iU.refl(l:acB):iU l l:=λx a=>⟨x,a,λ_ _ h=>h,aax _,aax _,aax _⟩
def Closed(l:acB)(n:Nat)(t:acy):Prop:=∀a b:Nat,a<n->b<n->t.getD a 0<1048576->t.getD b 0<=jH l (t.getD a 0) a b
theorem gi.antisymm{a b:acy}(h:gi a b)(e:gi b a):a=b:=by
 refine List.ext_getElem h.1 λi f g=>?_
 have c:=h.2 i;have d:=e.2 i;rw[zG,zG,KD f,KD g]at c d;simp only[aaD]at c d;omega
theorem Et{α:Type}{f:acy->α->acy}(a:∀t x,gi (f t x) t)(l:List α)(t:acy):gi (l.foldl f t) t:=jP (gi · t) f (λu x h=>(a u x).trans h) l t ⟨rfl,λ_=>aax _⟩
theorem yB{α:Type}{f:acy->α->acy}(a:∀t x,gi (f t x) t):∀(l:List α) (t:acy),l.foldl f t=t->∀x∈l,f t x=t
 |[],_,_,x,hx=>by cases hx
 | y::l,t,h,x,hx=>by
   rw[aaB]at h;have b:=Et a l (f t y);rw[h]at b;have e:=(a t y).antisymm b;rcases aae.1 hx with rfl|hx
   . exact e
   . rw[e]at h;exact yB a l t h x hx
theorem vi{l:acB}(a:∀x∈l,1<=x.ba/\x.ba<=12){n:Nat}:∀(k:Nat) (t:acy),vQ t->nD t<k->pass l n (cV l n k t)=cV l n k t
 |0,t,_,h=>by omega
 | k+1,t,b,h=>by
   unfold cV;split
   . next e=>exact e
   . next c=>have:=vR (kh l n t) (b.pass a) b c;exact vi a k _ (b.pass a) (by omega)
theorem zf{l:acB}(f:∀x∈l,1<=x.ba/\x.ba<=12){n:Nat}(m:n<=4){town hour:Int}(g:0<=hour/\hour<=72):Closed l n (fN l n town hour):=by
 have hb:=um (town:=town) g;have c:=vi f (n:=n) (nD (begun town hour)+1) _ hb (by omega);have h:vQ (fN l n town hour):=pQ f _ _ hb;rw[show cV l n (nD (begun town hour)+1) (begun town hour)=fN l n town hour from rfl]at c;generalize fN l n town hour=r at *;intro a b i hb d;have j:=yB (λt a=>va l n a t) _ r c a (ZN.2 i);have k:=yB (λt b=>An l a b t) _ r j b (ZN.2 hb);have e:(gh l a b r).getD b 0=r.getD b 0:=by rw[k]
 unfold gh at e;rw[ZS d,sX,ZS ⟨rfl,by rw[h.1];omega⟩]at e;split at e<;>omega
theorem Az{l' l:acB}{n:Nat}{c:acy}(j:Closed l' n c)(m:iU l' l):∀(k:Nat) (t:acy),(∀i,c.getD i 0<=t.getD i 0)->∀i,c.getD i 0<=(cV l n k t).getD i 0
 |0,t,h=>h
 | k + 1, t, h =>by
   unfold cV;split
   . exact h
   . refine Az j m k _ ?_
     have key:∀ (A:acz) (t:acy),(∀a∈A,a<n)->(∀i,c.getD i 0<=t.getD i 0)->∀i,c.getD i 0<=(A.foldl (λt a=>pP l n a t) t).getD i 0:=λA=>by
      induction A with
      |nil=>exact λt _ h=>h
      | cons a A r=>
        intro t o h;refine r _ (λx e=>o x (by simp[e])) ?_
        have d:∀(B:acz) (t:acy),(∀b∈B,b<n)->(∀i,c.getD i 0<=t.getD i 0)->∀i,c.getD i 0<=(B.foldl (λt b=>gh l a b t) t).getD i 0:=λB=>by
         induction B with
         |nil=>exact λt _ h=>h
         | cons b B f=>
           intro t p h;refine f _ (λx e=>p x (by simp[e])) λi=>?_
           have g:=o a (by simp);have hb:=p b (by simp);show c.getD i 0<=(gh l a b t).getD i 0;unfold gh;split
           . next q=>
             rw[sX];split
             . next s=>
               rw[s.1];have u:=j a b g hb (by have:=h a;omega);have v:=m.WL (h a) (a:=a) (b:=b);have w:=h b;split<;>omega
             . exact h i
           . exact h i
        exact d _ t (λb hb=>ZN.1 hb) h
     exact key _ t (λa g=>ZN.1 g) h
theorem B2{l:acB}{n:Nat}{town hour:Int}(b:0<=hour/\hour<=72)(i:Nat):(fN l n town hour).getD i 0<=(begun town hour).getD i 0:=by
 have key:∀(k:Nat) (t:acy),gi (cV l n k t) t:=λk=>by
  induction k with
  |zero=>exact λt=>⟨rfl,λ_=>aax _⟩
  | succ k a=>
    intro t;unfold cV;split
    . exact⟨rfl,λ_=>aax _⟩
    . exact(a _).trans (kh l n t)
 exact(key _ _).2 i
theorem zg{l' l:acB}(a:∀x∈l',1<=x.ba/\x.ba<=12)(c:iU l' l){n:Nat}(d:n<=4){town hour:Int}(b:0<=hour/\hour<=72)(i:Nat):(fN l' n town hour).getD i 0<=(fN l n town hour).getD i 0:=Az (zf a d b) c _ _ (B2 b) i
end
section
open Go.cC Go.Conc
variable{m:Mo}{σ:ab}{KF:ach}
abbrev JF:acE:=[.lit (.slice none 0 0),.lit (.slice none 0 0),int 0,int 0,int 0,int 0,int 0,.lit (.slice none 0 0),.lit (.slice none 0 0)]
abbrev pV(w:iw)(a b:AV):acE:=[iZ w.fair.aD,rows w.fair.roads,int w.fair.aP,int w.fair.dH,int w.fair.cL,int w.fair.aW,int w.aS,a,b]
theorem B3{w}(hg:w.fair.Good)(hm:∀e∈w.fair.aD,e.marks.length<=1000000000)(R:w.fair.roads.length<=1000000)(S:∀r∈w.fair.roads,r.length<=1000000000)(a8:w.ways.length<=6)(hc:∀c∈w.aB,c.lost.marks.length<=1000000000)(a9:w.aB.length<=3)(h:∀a σ',bx σ σ' a 5 (w.ways.map cU)->KF (.val (.agg (pV w a (eQ w.aB)))) σ'):az prog m 17 [dz w] σ KF:=by
 refine fs Wi Tryz.func17 rfl (by kernel_rfl) ?_
 simp[Tryz.f17];refine bI.intro λk L=>?_
 simp;obtain⟨J,T⟩:∃J:acf,J=λenv σ'=>∃g a,σ g=none/\g≠k/\env 1=.cp (dz w) 0/\env 2=.ref k 0/\env 3=.ref g 0/\σ' k=some (.cells JF)/\σ' g=some (.cells (pV w a (.lit (.slice none 0 0))))/\bx σ σ' a 5 (w.ways.map cU)/\bO a≠some k/\bO a≠some g:=⟨_,rfl⟩
 have hlen:([]:acE).length+(w.ways.map cU).length<=1073741824:=by simp;omega
 refine Ek (P:=?P2) (λkey=>?f2) ?p2
 case f2=>
  repeat' (first
            |apply And.intro
            | (refine cf Tryz.func51 rfl (Gc hg hm R S ?_)
               apply pg
               first|simp[d.1,d.2,u3,aG]|simp[d.1,d.2,aG]|simp[aG])
            | (refine jo lay rfl rfl rfl Fu rfl Fu rfl Pb (by decide) hlen (es:=[]) (xs:=w.ways.map cU) (.empty _ 5) (.inl (.inr ⟨_,rfl⟩)) (by simp) λa n v=>?_
               have d:=v.cells;apply pg
               first|(have u3:=v.1 g _ (ab.ai _ _ _);simp[d.1,d.2,u3,aG])|simp[d.1,d.2,aG])
            | (refine qA.intro λg E=>?_
               first|simp[d.1,d.2,aG]|simp[aG]))
  all_goals first
   | (obtain⟨I,M,K⟩:=ab.aM E
      have hx:σ.Le ((σ.set k (.cells JF)).set g (.cells JF)):=ab.iN (ab.iN (ab.le_refl _) L) E;have F:bO a≠some g:=λe=>by have:=(v.dv e).1;rw[ab.ai]at this;cases this
      have N:bO a≠some k:=λe=>by have:=(v.dv e).1;rw[ab.ah _ _ M,ab.ai]at this;cases this
      have O:n k=some (.cells JF):=v.1 _ _ (by rw[ab.ah _ _ M];exact ab.ai _ _ _)
      refine aa.eu J (by rw[T];exact⟨g,a,K,I,by simp,by simp,by simp,by rw[ab.ah _ _ M];exact O,ab.ai _ _ _,(v.base hx).beside K F,N,F⟩) ?_
      exact key)
   | (have U:σ.Le n:=ab.le_trans (ab.iN (ab.le_refl _) L) v.1
      have K:=U.none E;have F:bO a≠some g:=λe=>by obtain⟨l,q⟩:=(v.dv e).2;rw[E]at q;cases q
      have N:bO a≠some k:=λe=>by have:=(v.dv e).1;rw[ab.ai]at this;cases this
      have O:n k=some (.cells JF):=v.1 _ _ (ab.ai _ _ _);have I:g≠k:=λe=>by subst e;rw[E]at O;cases O
      refine aa.eu J (by rw[T];exact⟨g,a,K,I,by simp,by simp,by simp,by rw[ab.ah _ _ (za I)];exact O,by first|exact ab.ai _ _ _|(rw[ab.set_set];exact ab.ai _ _ _),by first|exact(v.base (ab.iN (ab.le_refl _) L)).beside K F|(rw[ab.set_set];exact(v.base (ab.iN (ab.le_refl _) L)).beside K F),N,F⟩) ?_
      exact key)
 case p2=>
  rw[T]
  rintro env σ' ⟨g,a,E,I,o,p,t,z,A,j,N,F⟩
  have M:k≠g:=za I;apply rn;simp[o,p,t];refine aa.loop w.aB.length (λi s=>∃env σ' b,s=⟨env,σ',[],.no⟩/\env 1=.cp (dz w) 0/\env 2=.ref k 0/\env 3=.ref g 0/\env 4=int i/\σ' k=some (.cells JF)/\σ' g=some (.cells (pV w a b))/\bx σ σ' a 5 (w.ways.map cU)/\Tok σ σ' b 8 ((w.aB.take i).map gg)) ⟨_,_,.lit (.slice none 0 0),rfl,by simp[o,p,t],by simp[o,p,t],by simp[o,p,t],by simp,z,A,j,⟨j.1,.inl ⟨rfl,rfl⟩⟩⟩ ?_
  clear o p t z A j env σ'
  rintro c0 i _ hi ⟨env,σ',b,rfl,o,p,t,G,z,A,j,u⟩ ih
  have f:=u.cells;have d:=j.cells
  rcases aap i w.aB.length with g1|g1
  . have ad:(i:Int)<w.aB.length:=by omega
    have f1:-9223372036854775808<=(i:Int)+1/\(i:Int)+1<=9223372036854775807:=by omega
    apply rn;simp[o,p,t,G,z,A,d.1,d.2,f.1,f.2,g1]
    repeat' (first
              |apply And.intro
              | (refine cf Tryz.func52 rfl (vg (hc _ (zA g1)) ?_)
                 apply pg;simp[o,p,t,G,z,A,d.1,d.2,f.1,f.2,g1,aG])
              | (refine aN lay rfl rfl rfl Iv rfl Iv rfl Rh (by decide) (by simp;omega) (σ0:=σ'.off b) (es:=(w.aB.take i).map gg) (xs:=[gg w.aB[i]]) (by simpa using u.here.1) (.inr ⟨_,by simp[aG];rfl⟩) λV n C=>?_
                 have H:=C.cells;have X:∀y l,σ' y=some (.cells l)->n y=some (.cells l):=λy l hy=>C.1 _ _ (by rw[ab.du (λe=>by obtain⟨_,_,q⟩:=u.aR e;rw[hy]at q;cases q)];exact hy)
                 have t3:=X _ _ A;have t2:=X _ _ z;apply pg;simp[o,p,t,G,t2,t3,d.1,d.2,H.1,H.2,aG]))
    all_goals (
     apply rn;simp[G,f1.1,f1.2];have kb:∀bk,bO a=some bk->n bk=σ' bk/\bk≠g:=λbk hb=>⟨by obtain⟨_,l,q⟩:=j.dv hb;rw[q];exact X _ _ q,λe=>F (by rw[hb,e])⟩
     have Q:=C.base u.here.2;have Y:bp V≠some g:=λe=>by obtain⟨_,_,q⟩:=C.aR e;rw[t3]at q;cases q
     refine ih _ g1 ⟨_,_,V,rfl,by simp[o,p,t,G,z,A,d.1,d.2,f.1,f.2],by simp[o,p,t,G,z,A,d.1,d.2,f.1,f.2],by simp[o,p,t,G,z,A,d.1,d.2,f.1,f.2],by simp,by rw[ab.ah _ _ M];exact t2,ab.ai _ _ _,j.keep (ab.ez Q.1 E) (λbk hb=>⟨by rw[ab.ah _ _ (kb bk hb).2];exact(kb bk hb).1,(j.dv hb).1⟩),?_⟩
     have:=Q.beside (x:=.cells (pV w a V)) E Y;rw[zD g1,aab];simpa using this)
  . have Z:i=w.aB.length:=by omega
    subst Z;rw[ZY]at u
    have a7:(AV.agg (pV w a b)).W (.agg (pV w a (eQ w.aB))):=lR rfl λi x y B D=>by
     match i with
     |0=>cases B;cases D;exact .refl _
     |1=>cases B;cases D;exact .refl _
     |2=>cases B;cases D;exact .refl _
     |3=>cases B;cases D;exact .refl _
     |4=>cases B;cases D;exact .refl _
     |5=>cases B;cases D;exact .refl _
     |6=>cases B;cases D;exact .refl _
     |7=>cases B;cases D;exact .refl _
     |8=>cases B;cases D;exact u.W
     |i+9=>cases B
    apply rn;simp[o,p,t,G,z,A,d.1,d.2,f.1,f.2,aG];exact .na a7 (.done (h a _ (j.beside L N)))
end
section
open Go.cC Go.Conc
def iw.by(w:iw)(l:acB):iw:={w with ways:=l}
theorem NT{w}(q:w.Valid)(a:gX w=0){l}(r:l.length<=6)(d:∀x∈l,ki w.aS x=0):gX (w.by l)=0:=by
 unfold gX at a;split at a
 . cases a
 next e=>
 split at a
 . cases a
 next s=>
 split at a
 . next c=>exact absurd a c
 next c=>
 split at a
 . cases a
 next f=>
 split at a
 . next b=>exact absurd a b
 next b=>
 split at a
 . cases a
 next g=>
 split at a
 . cases a
 next h=>
 have i:bu (w.by l).aS 1 4=true:=(by simpa using e:bu w.aS 1 4=true)
 have j:eE (ki (w.by l).aS) (w.by l).ways=0:=oE d
 have k:¬(6:Int)<(w.by l).ways.length:=by show ¬(6:Int)<l.length;omega
 have m:¬(3:Int)<(w.by l).aB.length:=f
 have n:eE (vz (w.by l)) (w.by l).aB=0:=(by simpa using b:eE (vz w) w.aB=0)
 have o:¬(6:Int)<((w.by l).fair.aD.length:Int)+(w.by l).aB.length:=g
 have p:¬gJ (pS (w.by l))=0:=h
 unfold gX;rw[i,j,n,ZM (by simp),ZM k,ZM (by simp),ZM m,ZM (by simp),ZM o,ZM p]
theorem NU{w}(a:w.Valid)(b:gX w=0){l}(c:l.length<=6)(d:∀x∈l,ki w.aS x=0):(w.by l).Valid:=iw.valid ⟨a.BS.fits,a.BS.Cq,a.BS.SH,by show l.length<_;omega,a.BS.aB⟩ (NT a b c d)
theorem PJ{w}(b:w.Valid){l}(a:(w.by l).Valid)(d:iU l w.ways)  c :ew (w.by l) c<=ew w c:=by
 unfold ew;show(match w.aB[c]? with|some c=>DZ (w.by l) c|none=>0)<=_;cases e:w.aB[c]? with
 |none=>exact aax _
 | some x=>
   have f:=b.Jt.2 x (abz e);have g:=b.aS;have h:(w.by l).aS<=4:=g.2;exact zg (λy i=>(a.cT y i).2.2.1) d (by omega) f.2 0
theorem Hw{h a b k}:∀(l:acB)  best ,(∀x∈l,1<=x.ba)->k<=h->k<=best->k<=l.foldl (λbest x=>yj h a b x best) best
 |[],_,_,_,q=>q
 | x::l,best,c,d,q=>by
   rw[aaB];refine Hw l _ (λy e=>c y (by simp[e])) d ?_
   have:=c x (by simp)
   have:h<=gK h x:=by unfold gK;split<;>omega
   unfold yj;split
   . exact q
   split
   . split<;>omega
   . exact q
def B4(k:Int)(t:acy):Prop:=t.length=4/\∀x∈t,k<=x
theorem yC{α:Type}(P:acy->Prop)  f :∀(l:List α)  t ,(∀t,∀x∈l,P t->P (f t x))->P t->P (l.foldl f t)
 |[],_,_,h=>h
 |x::l,t,a,h=>yC P f l _ (λu y b=>a u y (by simp[b])) (a t x (by simp) h)
theorem PL{k}(f:k<=1048576){l}(g:∀x∈l,1<=x.ba){a b}(j:a<4){t}(h:B4 k t):B4 k (gh l a b t):=by
 have d:∀i:Nat,i<t.length->k<=t.getD i 0:=λi e=>by rw[zG,KD e];exact h.2 _ (zA e)
 unfold gh;split
 . by_cases hb:b<t.length
   . refine⟨by rw[aaq];exact h.1,λx c=>?_⟩
     rcases aaJ c with c|rfl
     . exact h.2 x c
     . have m:=d a (by rw[h.1];exact j)
       have n:=d b hb;have o:k<=jH l (t.getD a 0) a b:=Hw l _ g m f;split
       . exact o
       . exact n
   . rw[List.set_eq_of_length_le (by omega)];exact h
 . exact h
theorem JG{k}(c:k<=1048576){l}(d:∀x∈l,1<=x.ba){n}(i:n<=4){t}(h:B4 k t):B4 k (pass l n t):=yC (B4 k) _ _ _ (λu a e f=>yC (B4 k) _ _ _ (λv b _ g=>PL c d (by have:=ZN.1 e;omega) g) f) h
theorem vl{k}(a:k<=1048576){l}(b:∀x∈l,1<=x.ba){n}(c:n<=4):∀  j  {t},B4 k t->B4 k (cV l n j t)
 |0,_,h=>h
 | j+1,t,h=>by
   unfold cV;split
   . exact h
   . exact vl a b c j (JG a b c h)
theorem PM{w}(b:w.Valid){c}  d :w.aB[c].hour<=ew w c:=by
 have g:=b.Jt.2 _ (zA d);have h:=b.aS;unfold ew;rw[KD d];show _<=DZ w w.aB[c];generalize w.aB[c]=x at g
 have e:B4 x.hour (fN w.ways w.aS.toNat x.town x.hour):=by
  refine vl (by omega) (λy a=>(b.cT y a).2.2.1.1) (by omega) _ ⟨by simp[begun],λy a=>?_⟩
  unfold begun at a
  rcases aaJ a with a|rfl
  . simp at a;omega
  . exact aax _
 unfold DZ;have f:0<(fN w.ways w.aS.toNat x.town x.hour).length:=by rw[e.1];omega
 rw[zG,KD f];exact e.2 _ (zA f)
end
open Go.cC Go.Conc
variable{m:Mo}{σ:ab}{KF:ach}
theorem JH{T x}(h:ki T x=0){c f t}(j:1<=c/\c<=x.ba)(k:0<=f/\f<=x.aP)(l:x.dH<=t/\t<=72):ki T ⟨x.a,x.b,c,f,t⟩=0:=by
 have d:=uu h;obtain⟨m,n,o,p,q⟩:=d;unfold ki at h ⊢;split at h
 . cases h
 next e=>
 split at h
 . cases h
 next g=>
 split at h
 . cases h
 next i=>
 split at h
 . cases h
 next r=>
 split at h
 . cases h
 next s=>
 split at h
 . cases h
 next u=>
 split at h
 . cases h
 next v=>
 rw[ZM e,ZM g,ZM i,ZM (by simp only[bu,Bool.and_eq_false_iff,aam];omega),ZM (by simp only[bu,Bool.and_eq_false_iff,aam];omega),ZM (by simp only[bu,Bool.and_eq_false_iff,aam];omega),ZM (by show ¬f>t;omega)]
theorem Eu{k j}:∀  es   i   hi ,(∀e∈es,e.cells.length=k)->j<k->∀  v a ,a.cells=es[i].cells.set j v->(flatten es).set (i*k+j) v=flatten (es.set i a)
 | e::es,0,_,b,f,v,a,c=>by
   have d:=b e (by simp);rw[List.set_cons_zero,flatten_cons,flatten_cons,c,List.set_append_left _ _ (by omega)];simp
 | e::es,i+1,hi,b,f,v,a,c=>by
   have d:=b e (by simp);rw[List.set_cons_succ,flatten_cons,flatten_cons,List.set_append_right _ _ (by rw[d,abb];omega),<-Eu es i (by simpa using hi) (λx g=>b x (by simp[g])) f v a (by simpa using c)];congr 2;rw[d,abb];omega
theorem iU.put{l k}  n  {c f t}(g:c<=l[k].ba) (h:f<=l[k].aP) (j:l[k].dH<=t):iU (l.set k ⟨l[k].a,l[k].b,c,f,t⟩) l:=λx m=>by
 obtain⟨i,d,rfl⟩:=List.getElem_of_mem m;by_cases e:i=k
 . subst e
   exact⟨_,aak.2 ⟨i,by rw[aaq];exact d,List.getElem_set_self ..⟩,λ_ _ q=>q,g,h,j⟩
 . exact⟨l[i],aak.2 ⟨i,by rw[aaq];exact d,List.getElem_set_ne (za e) ..⟩,λ_ _ q=>q,aax _,aax _,aax _⟩
theorem iU.snoc{l' l}(h:iU l' l)  y :iU (l'++[y]) l:=λx a=>by obtain⟨b,q,r⟩:=h x a;exact⟨b,List.mem_append_left _ q,r⟩
theorem Vb{P m fid n ro hold K todo env σ0 σ D rc kk d i a cs es}(hd:bO a≠some d)(h:bx σ0 σ a kk es)(l:σ d=some (.cells cs))(hi:cs[i]?=some a)
 (o:∀g σ',σ' d=some (.cells (cs.set i g))->g.W (.sl kk es .any)->g.cells=[g]/\g.flat=true->aa P m fid n ro hold todo ⟨env,σ',D,rc⟩ K):aa P m fid n ro hold todo ⟨env,σ,D,rc⟩ K:=by
 have p:=(ZO.1 hi).1
 have c:cs.set i a=cs:=by rw[<-(ZO.1 hi).2];exact List.set_getElem_self ..
 rcases h.2 with⟨rfl,e|e⟩|⟨b,cap,rest,e,E,z,t,A,B⟩
 . exact o a σ (by rw[c];exact l) (by rw[e];exact gn kk) h.cells
 . exact o a σ (by rw[c];exact l) (by rw[e];exact ik kk [] .exact) h.cells
 . subst e
   have C:=bc t;have r:d≠b:=λq=>hd (by rw[q];rfl)
   refine aa.freeze b _ A (λu=>.refl _) (σ':=(σ.del b).set d (.cells (cs.set i (.sl kk es .any)))) (λy x f=>?_) (o (.sl kk es .any) _ (ab.ai _ _ _) (.refl _) ⟨rfl,rfl⟩)
   by_cases e:y=d
   . subst e
     rw[ab.ai]at f;cases f;refine⟨r,.inr ⟨_,_,l,rfl,by simp,λj x F s k=>?_⟩⟩
     by_cases v:j=i
     . subst v
       rw[hi]at s;cases s;rw[aaM p]at k;cases k;refine .sl 0 cap kk es .any z ?_ t (λj x w=>?_) (.inl rfl)
       . have:cap*kk=es.length*kk+(cap-es.length)*kk:=by rw[<-Nat.add_mul];congr 1;omega
         simp only[ZU,C,B];omega
       . rw[aaW,aav (ZO.1 w).1];exact w
     . rw[aaF (za v)]at k
       rw[s]at k;cases k;exact .refl _
   . rw[ab.ah _ _ e]at f
     unfold ab.del at f;split at f
     . cases f
     . next q=>exact⟨q,.inl f⟩
structure vT  c e   nums   k   w   a  (l:acB)  σ :Prop where
 N6:bg c nums k σ
 cells:σ e=some (.cells (pV w a (eQ w.aB)))
 tok:bx (λ_=>none) σ a 5 (l.map cU)
 ne:e≠c
 nc:bO a≠some c
 nx:bO a≠some e
theorem vT.drew{c e nums k k' w a l σ σ'}(h:vT c e nums k w a l σ)(hd:ov c nums k' σ σ'):vT c e nums k' w a l σ':=⟨hd.1,by rw[hd.2 e h.ne];exact h.cells,h.tok.keep (λ_ _ q=>by cases q) λb hb=>⟨hd.2 b λq=>h.nc (by rw[hb,q]),rfl⟩,h.ne,h.nc,h.nx⟩
theorem vT.row{c e nums k w a l σ}(h:vT c e nums k w a l σ){b n cap}(d:a=.gk b 0 n cap):n=l.length/\n<=cap/\b≠e/\b≠c/\∃rest,σ b=some (.cells (flatten (l.map cU)++rest))/\rest.length=(cap-n)*5:=by
 rcases h.tok.2 with⟨_,q|q⟩|⟨r,g,rest,q,s,j,t,m,i⟩
 . rw[d]at q;cases q
 . rw[d]at q;cases q
 . rw[d]at q
   injection q with o u f p;subst o;subst p;rw[ZZ]at f j i;exact⟨f,by omega,λq=>h.nx (by rw[d,q];rfl),λq=>h.nc (by rw[d,q];rfl),rest,m,by rw[i,f]⟩
theorem vT.put{c e nums k w a l l' σ}(h:vT c e nums k w a l σ){b n cap}(i:a=.gk b 0 n cap)(d:l'.length=l.length){rest}(j:rest.length=(cap-n)*5):vT c e nums k w a l' (σ.set b (.cells (flatten (l'.map cU)++rest))):=by
 obtain⟨f,m,o,p,g,z,A⟩:=h.row i;obtain⟨r,s,t,u⟩:=h.N6;refine⟨⟨r,s,t,by rw[ab.ah _ _ (za p)];exact u⟩,by rw[ab.ah _ _ (za o)];exact h.cells,⟨(λ_ _ q=>by cases q),.inr ⟨b,cap,rest,by rw[i,ZZ,d,f],rfl,by rw[ZZ,d,<-f];exact m,λx v=>?_,ab.ai _ _ _,by rw[ZZ,d,<-f];exact j⟩⟩,h.ne,h.nc,h.nx⟩;obtain⟨y,_,rfl⟩:=aad.1 v;rfl
theorem B5{l:acB}{K j}  c  (hj:j<5){v x'}(d:(cU x').cells=(cU l[K]).cells.set j v)  rest :(flatten (l.map cU)++rest).set (K*5+j) v=flatten ((l.set K x').map cU)++rest:=by
 have b:∀e∈l.map cU,e.cells.length=5:=λe f=>by obtain⟨y,_,rfl⟩:=aad.1 f;rfl
 have a:=bc b;rw[ZZ]at a;rw[List.set_append_left _ _ (by rw[a];omega),Eu (k:=5) (l.map cU) K (by simpa using c) b hj v (cU x') (by simpa using d),abt]
theorem Hx(l:acB)  rest :(flatten (l.map cU)++rest).length=l.length*5+rest.length:=by rw[ZU,bc (kk:=5) λe a=>by obtain⟨y,_,rfl⟩:=aad.1 a;rfl,ZZ]
theorem Hy:∀(R:acE)  i   a b ,i+2<=R.length->R.take i++a::b::R.drop (i+2)=(R.set i a).set (i+1) b
 |x::y::R,0,a,b,_=>rfl
 |[_],0,_,_,h=>by simp at h
 |[],_,_,_,h=>by simp at h
 | x::R,i+1,a,b,h=>by
   have:=Hy R i a b (by simp at h;omega);show x::(R.take i++a::b::R.drop (i+2))=x::((R.set i a).set (i+1) b);rw[this]
theorem vT.open{c e nums k w a}{l:acB}{K x σ}(h:vT c e nums k w a (l.set K x) σ){b n cap}(g:a=.gk b 0 n cap)(d:K<l.length){rest}(i:rest.length=(cap-n)*5)  f t :vT c e nums k w a (l.set K ⟨x.a,x.b,x.ba,f,t⟩) (σ.set b (.cells (((flatten ((l.set K x).map cU)++rest).set (K*5+3) (int f)).set (K*5+3+1) (int t)))):=by
 have m:=B5 (l:=l.set K x) (K:=K) (j:=3) (by rw[aaq];exact d) (by decide) (v:=int f) (x':=⟨x.a,x.b,x.ba,f,x.dH⟩) (by rw[List.getElem_set_self];rfl) rest;have o:=B5 (l:=(l.set K x).set K ⟨x.a,x.b,x.ba,f,x.dH⟩) (K:=K) (j:=4) (by rw[aaq,aaq];exact d) (by decide) (v:=int t) (x':=⟨x.a,x.b,x.ba,f,t⟩) (by rw[List.getElem_set_self];rfl) rest;rw[m,show K*5+3+1=K*5+4 from rfl,o,List.set_set,List.set_set];exact h.put g (by rw[aaq,aaq]) i
theorem vT.mono{c e nums k k' w a l σ}(h:vT c e nums k w a l σ)(b:k<=k'):vT c e nums k' w a l σ:=⟨h.N6.mono b,h.cells,h.tok,h.ne,h.nc,h.nx⟩
theorem vT.app{c e nums k w a d l y σ σ2}(h:vT c e nums k w a l σ)(f:bx (σ.tx a) σ2 d 5 (l.map cU++[cU y])):σ2 e=some (.cells (pV w a (eQ w.aB)))/\vT c e nums k w d (l++[y]) (σ2.set e (.cells (pV w d (eQ w.aB)))):=by
 have g:(σ.tx a) e=some (.cells (pV w a (eQ w.aB))):=by rw[ab.mh h.nx];exact h.cells
 obtain⟨i,j,n,o⟩:=h.N6;have m:(σ.tx a) c=some (.cells [ints nums,int i,.lit (.int .u64 j)]):=by rw[ab.mh h.nc];exact o
 have nx:bO d≠some e:=λq=>by have:=(f.dv q).1;rw[g]at this;cases this
 have nc:bO d≠some c:=λq=>by have:=(f.dv q).1;rw[m]at this;cases this
 refine⟨f.1 _ _ g,⟨i,j,n,by rw[ab.ah _ _ (za h.ne)];exact f.1 _ _ m⟩,ab.ai _ _ _,?_,h.ne,nc,nx⟩
 have:=f.keep (σ1:=λ_=>none) (σ':=σ2.set e (.cells (pV w d (eQ w.aB)))) (λ_ _ q=>by cases q) λb hb=>⟨ab.ah _ _ λq=>nx (by rw[hb,q]),rfl⟩
 simpa using this
structure Vd(w:iw)  n  (l:acB):Prop where
 len:l.length<=n
 ok:∀x∈l,ki w.aS x=0
 fY:iU l w.ways
theorem RL{w}(a:gX w=0):∀x∈w.ways,ki w.aS x=0:=by
 unfold gX at a;split at a
 . cases a
 split at a
 . cases a
 split at a
 . next q=>exact absurd a q
 next q=>
 exact mM _ (by simpa using q)
theorem B6(hs:m.solo=true){nums}(hn:nums.length<1152921504606846976)(h:∀σ',KF (.val (bool true)) σ'):xe prog lay m 4 [ints nums] σ KF:=by
 refine xe.start lay [] ZB 1 Tryz.func4 rfl rfl (by rfl) (by kernel_rfl) ?_
 simp[Tryz.f4];refine cf Tryz.func10 rfl (Jp λc eX hc hb ay=>?_)
 apply rn;simp;refine cf Tryz.func9 rfl (WA.Gf (by omega) hn ⟨by omega,by omega⟩ hb λw own lost fc hm hd=>?_)
 refine aa.runN lay [] 8 ?_;simp;refine bI.intro λd b7=>?_
 simp[aG]
 change aa _ _ _ _ _ _ _ _ _
 refine aa.bt 4 (b:=d) (dz w) (ab.ai _ _ _) (by simp) rfl ?_
 rw[fh b7];have hv:=hm.valid;have hk:=hm.Cq;have c3:=hv.Jt.1;have b8:=hd.1;have h5:=hm.WK;have Y:=RL hk;have aC:w.fair.Good:=Fr.pJ hv.BS.fits hv.BS.Cq;apply rn;simp;refine cf Tryz.func17 rfl (B3 aC (λe q=>by have:=hm.U9 e q;omega) (by have:=hm.rows.1;omega) (λr q=>by have:=hm.rows.2 r q;omega) (by omega) (λx q=>by have:=hm.Va x q;omega) c3 λa e0 ht=>?_)
 refine aa.runN lay [] 5 ?_;simp;refine bI.intro λe he=>?_
 have j:=ht.cells;simp[aG,j.1,j.2]
 have p:vT c e nums 600 w a w.ways (e0.set e (.cells (pV w a (eQ w.aB)))):=by
  obtain⟨n0,z0,q1,q2⟩:=b8;have u:=ht.1 c _ q2;have ne:e≠c:=λq=>by rw[q,u]at he;cases he
  have nx:bO a≠some e:=λq=>by obtain⟨l,q'⟩:=(ht.dv q).2;rw[he]at q';cases q'
  refine⟨⟨n0,z0,by omega,by rw[ab.ah _ _ (za ne)];exact u⟩,ab.ai _ _ _,ht.keep (λ_ _ q=>by cases q) λb hb=>⟨ab.ah _ _ λq=>nx (by rw[hb,q]),rfl⟩,ne,(λq=>by have:=(ht.dv q).1;rw[q2]at this;cases this),nx⟩
 refine aa.eu (λenv σ'=>env 3=.ref c 0/\env 4=.cp (dz w) 0/\env 7=.ref e 0/\vT c e nums 600 w a w.ways σ') ⟨by simp,by simp,by simp,p⟩ ?_
 clear p he j ht b8 hm hd hb ay hc b7;obtain⟨J,N⟩:∃J:acf,J=λenv σ'=>env 3=.ref c 0/\env 4=.cp (dz w) 0/\env 7=.ref e 0/\∃a l,vT c e nums 610 w a l σ'/\Vd w 5 l:=⟨_,rfl⟩
 rintro env ea ⟨o,f,g,p⟩
 have t:=p.cells;have n:=p.tok.cells;have F:Vd w 5 w.ways:=⟨h5,Y,iU.refl _⟩;have O:vT c e nums 610 w a w.ways ea:=⟨p.N6.mono (by omega),p.cells,p.tok,p.ne,p.nc,p.nx⟩
 have aE:(w.ways.map cU).length=w.ways.length:=ZZ ..;refine Ek (P:=?P2) (λkey=>?f2) ?p2
 case f2 =>
  rcases id p.tok.2 with ⟨eb,ha⟩|⟨b,cap,rest,C,h0,h1,h2,h3,h4⟩
  . have fg:w.ways=[]:=List.map_eq_nil_iff.1 eb
    rcases ha with ha|ha
    . rw[ha]at t
      refine aa.runN lay [] 13 ?_;simp[o,f,g,t,n.1,n.2];refine aa.eu J (by rw[N];exact⟨by simp[o,f,g,t,n.1,n.2],by simp[o,f,g,t,n.1,n.2],by simp[o,f,g,t,n.1,n.2],a,_,O,F⟩) ?_
      exact key
    . rw[ha]at t
      refine aa.runN lay [] 13 ?_;simp[o,f,g,t,n.1,n.2];refine aa.eu J (by rw[N];exact⟨by simp[o,f,g,t,n.1,n.2],by simp[o,f,g,t,n.1,n.2],by simp[o,f,g,t,n.1,n.2],a,_,O,F⟩) ?_
      exact key
  . rw [C] at t
    by_cases hz:0<w.ways.length
    . have fi : (0:Int)<w.ways.length:=by omega
      apply rn;simp[o,f,g,t,n.1,n.2,aE,hz];refine⟨by omega,?_⟩
      refine cf Tryz.func18 rfl (eh (by omega) hn (by omega) p.N6 λx ec hx ed=>?_)
      obtain⟨K,rfl⟩:∃K:Nat,x=(K:Int):=⟨x.toNat,by omega⟩
      have E:K<w.ways.length:=by omega
      have aL:=p.drew ed;have M:=aL.cells;rw[C]at M;have Q:=uu (Y _ (zA E));refine aa.runN lay [] 3 ?_;simp[o,f,g,M];refine aa.eu (λenv σ'=>env 3=.ref c 0/\env 4=.cp (dz w) 0/\env 7=.ref e 0/\env 9=int K/\vT c e nums 601 w a w.ways σ') ⟨by simp[o,f,g,M],by simp[o,f,g,M],by simp[o,f,g,M],by simp,aL⟩ ?_
      clear M t p aL O o f g env
      rintro env b9 ⟨o,f,g,I,p⟩
      obtain⟨qn,qc,qe,fl,rest,L,aO⟩:=p.row C;have z:=p.cells;rw[C]at z;obtain⟨X,bm⟩:∃X:Int->Way,X=λq=>{w.ways[K]with ba:=q}:=⟨_,rfl⟩
      have ee:∀q,(cU (X q)).cells=(cU w.ways[K]).cells.set 2 (int q):=λq=>by rw[bm];rfl
      obtain⟨J2,bw⟩:∃J2:acf,J2=λenv σ'=>env 3=.ref c 0/\env 4=.cp (dz w) 0/\env 7=.ref e 0/\env 9=int K/\∃v,(1<=v/\v<=w.ways[K].ba)/\vT c e nums 602 w a (w.ways.set K (X v)) σ':=⟨_,rfl⟩
      have bA:601<1000000:=by decide
      have z1:-1000000000<=(1:Int)/\(1:Int)<=1000000000:=by decide
      have z2:-1000000000<=w.ways[K].ba/\w.ways[K].ba<=1000000000:=by have:=Q.2.2.1;omega
      have z3:=Q.2.2.1.1;refine Ek (P:=?P3) (λad=>?f3) ?p3
      case f3=>
       apply rn;simp[o,f,g,I,z,E];refine⟨?_,?_⟩
       all_goals (
        refine cf Tryz.func19 rfl (dM bA hn z1 z2 p.N6 λv b0 hh b1=>?_)
        have G:=p.drew b1;have Z:=G.cells;rw[C]at Z;obtain⟨_,_,_,_,D,S,bB⟩:=G.row C;have f3:K*5+2+1<=(flatten (w.ways.map cU)++D).length:=by clear ad;rw[Hx];omega
        have c5:(flatten (w.ways.map cU)++D).set (K*5+2) (int v)=flatten ((w.ways.set K (X v)).map cU)++D:=B5 E (by decide) (ee v) D
        have H:=G.put C (l':=w.ways.set K (X v)) (by rw[aaq]) bB
        rw[<-c5]at H;obtain⟨R,hR⟩:∃R,R=flatten (w.ways.map cU)++D:=⟨_,rfl⟩;rw[<-hR]at S f3 H;have b2:R.set (K*5+2) (int v)=List.take (K*5+2) R++int v::List.drop (K*5+2+1) R:=by rw[abm,ZS (show K*5+2<R.length from f3)]
        rw[b2]at H;apply pg;simp[o,f,g,I,z,Z,S,f3,E,aG];refine aa.eu J2 (by rw[bw];exact⟨by simp[o,f,g,I,z],by simp[o,f,g,I,z],by simp[o,f,g,I,z],by simp[o,f,g,I,z],v,⟨hh.1,hh.2.elim id λq=>by rw[q];exact z3⟩,H⟩) ?_
        exact ad)
      case p3=>
       rw[bw];clear p z L aO o f g I env
       rintro env b3 ⟨o,f,g,I,v,hh,p⟩
       have z:=p.cells;rw[C]at z;have Wu:=Q.2.2.2;have c6:602<1000000:=by decide
       have c7:603<1000000:=by decide
       have z4:-4611686018427387904<=w.ways[K].aP/\w.ways[K].aP<4611686018427387904:=by have:=Q.2.2.2;omega
       have z5:-1000000000<=w.ways[K].dH/\w.ways[K].dH<=1000000000:=by have:=Q.2.2.2;omega
       have z6:-1000000000<=(72:Int)/\(72:Int)<=1000000000:=by decide
       apply rn;simp[o,f,g,I,z,E]
       repeat' (first
                 |apply And.intro
                 | (refine cf Tryz.func18 rfl (eh c6 hn z4 p.N6 λfr eg hf ei=>?_)
                    have b4:=p.drew ei;have c9:=b4.cells;rw[C]at c9;apply pg;simp[o,f,g,I,c9,E,aG])
                 | (refine cf Tryz.func19 rfl (dM c7 hn z5 z6 b4.N6 λtt eW ca cb=>?_)
                    have T:=b4.drew cb;have al:=T.cells;rw[C]at al;obtain⟨_,_,_,_,rest,L,aO⟩:=T.row C;obtain⟨R,hR⟩:∃R,R=flatten ((w.ways.set K (X v)).map cU)++rest:=⟨_,rfl⟩;have f5:K*5+3+2<=R.length:=by rw[hR,Hx,aaq];omega
                    rw[<-hR]at L;apply pg;simp[o,f,g,I,al,L,f5,E,aG]))
       all_goals (
        have av:=T.open C E aO fr tt;rw[<-hR,<-Hy R _ _ _ f5,bm]at av
        have ej:∀y∈w.ways.set K ⟨w.ways[K].a,w.ways[K].b,v,fr,tt⟩,ki w.aS y=0:=λy hy=>by
         rcases aaJ hy with hy|rfl
         . exact Y y hy
         . exact JH (Y _ (zA E)) hh ⟨hf.1,by omega⟩ ⟨ca.1,by omega⟩
        have ep:fr<=w.ways[K].aP:=by omega
        refine aa.eu J (by rw[N];exact⟨by simp[o,f,g,I,z],by simp[o,f,g,I,z],by simp[o,f,g,I,z],a,_,av.mono (by omega),by rw[aaq];exact h5,ej,iU.put E hh.2 ep ca.1⟩) ?_
        exact key)
    . refine aa.runN lay [] 13 ?_
      simp[o,f,g,t,n.1,n.2,aE,hz];refine aa.eu J (by rw[N];exact⟨by simp[o,f,g,t,n.1,n.2],by simp[o,f,g,t,n.1,n.2],by simp[o,f,g,t,n.1,n.2],a,_,O,F⟩) ?_
      exact key
 case p2 =>
  rw[N];clear p O F t n aE o f g env N J
  rintro env ec ⟨o,f,g,a,l,p,F⟩
  have z:=p.cells;have j:=p.tok.cells;have hT:=hv.aS;obtain⟨J,N⟩:∃J:acf,J=λenv σ'=>env 4=.cp (dz w) 0/\env 7=.ref e 0/\env 10=int 0/\∃k a l,vT c e nums k w a l σ'/\Vd w 6 l:=⟨_,rfl⟩
  have b5:Vd w 6 l:=⟨Nat.le_succ_of_le F.len,F.ok,F.fY⟩;have cg:610<1000000:=by decide
  have cm:611+7<1000000:=by decide
  have r2:(0:Int)<=2/\(2:Int)<1000000000:=by decide
  have hlen:∀y:Way,(l.map cU).length+[cU y].length<=1073741824:=λy=>by have:=F.len;simp;omega
  have cv:1<w.aS->2<=w.aS/\w.aS<=4:=λ_=>by omega
  refine Ek (P:=?P4) (λkey=>?f4) ?p4
  case f4 =>
   by_cases U:1<w.aS
   . apply rn
     simp[o,f,g,z,j.1,j.2,U];refine cf Tryz.func20 rfl (sT cg hn r2 p.N6 λq b9 et=>?_)
     have a7:=p.drew et;have dj:=a7.cells;have dm:=cv U;cases q
     . apply rn
       simp[o,f,g,z,j.1,j.2,U,dj];refine aa.eu J (by rw[N];exact⟨by simp[o,f,g,z,j.1,j.2],by simp[o,f,g,z,j.1,j.2],by simp,_,_,_,a7,b5⟩) ?_
       exact key
     . apply rn
       simp[o,f,g,z,j.1,j.2,U,dj]
       repeat' (first
                 |apply And.intro
                 | (refine cf Tryz.func21 rfl (WY.Eo cm hn dm a7.N6 λy b0 hy b1=>?_)
                    have G:=a7.drew b1;have Z:=G.cells;apply pg;simp[o,f,g,Z,j.1,j.2,aG])
                 | (refine jo lay rfl rfl rfl Fu rfl Fu rfl Pb (by decide) (hlen y) (σ0:=b0.tx a) (es:=l.map cU) (xs:=[cU y]) (by simpa using G.tok.here.1) (.inl (.inr ⟨_,by simp;rfl⟩)) (by simp) λa2 b3 dr=>?_
                    have H:=G.app dr;have ev:=H.1;have ax:=dr.cells;apply pg;simp[o,f,g,ev,j.1,j.2,ax.1,ax.2,aG]))
       all_goals (
        have ey:Vd w 6 (l++[y]):=⟨by rw[ZU];exact Nat.succ_le_succ F.len,λx hx=>by
         rcases ZQ.1 hx with hx|hx
         . exact F.ok x hx
         . rw[lb.1 hx];exact hy,F.fY.snoc y⟩
        apply rn;simp[o,f,g,z,j.1,j.2];refine aa.eu J (by rw[N];exact⟨by simp[o,f,g,z,j.1,j.2],by simp[o,f,g,z,j.1,j.2],by simp,_,a2,l++[y],H.2,ey⟩) ?_
        exact key)
   . apply rn
     simp[o,f,g,z,j.1,j.2,U];refine aa.eu J (by rw[N];exact⟨by simp[o,f,g,z,j.1,j.2],by simp[o,f,g,z,j.1,j.2],by simp,_,_,_,p,b5⟩) ?_
     exact key
  case p4=>
   rw[N];clear p F z j b5 o f g env N J
   rintro env b9 ⟨f,g,cd,k,a,l,p,F⟩
   have a8:=NU hv hk F.len F.ok;have eA:=NT hv hk F.len F.ok;refine Vb p.nx p.tok p.cells (i:=7) rfl λa2 b0 q7 eB b6=>?_
   refine aa.bt 7 (b:=e) (.agg (pV w a2 (eQ w.aB))) q7 (by simp[g]) (by simp[b6.1]) ?_
   refine aa.eu (λenv _=>env 4=.cp (dz w) 0/\env 7=.cp (.agg (pV w a2 (eQ w.aB))) 0/\env 10=int 0) ⟨by simp[f],by simp,by simp[cd]⟩ ?_
   have eK:(AV.agg (pV w a2 (eQ w.aB))).W (dz (w.by l)):=lR rfl λi x y V x2=>by
    match i with
    |0=>cases V;cases x2;exact .refl _
    |1=>cases V;cases x2;exact .refl _
    |2=>cases V;cases x2;exact .refl _
    |3=>cases V;cases x2;exact .refl _
    |4=>cases V;cases x2;exact .refl _
    |5=>cases V;cases x2;exact .refl _
    |6=>cases V;cases x2;exact .refl _
    |7=>cases V;cases x2;exact eB
    |8=>cases V;cases x2;exact .refl _
    |i+9=>cases V
   clear f g cd env
   rintro env b3 ⟨f,g,cd⟩
   refine aa.loop w.aB.length (λc s=>∃env σ',s=⟨env,σ',[],.no⟩/\env 4=.cp (dz w) 0/\env 7=.cp (.agg (pV w a2 (eQ w.aB))) 0/\env 10=int c) ⟨env,b3,rfl,f,g,cd⟩ ?_
   clear f g cd env
   rintro c0 c _ fp ⟨env,eg,rfl,f,g,cd⟩ ih
   apply rn;simp[f,g,cd];refine aH.intro (λg1=>?_) (λg1=>?_)<;>(try simp[-Int.not_lt,-Int.not_le,-Nat.not_lt,-Nat.not_le]at g1)<;>(try simp[f,g,cd,g1])
   . have oc:fE w [] [] [(c:Int)]=0:=Es hk (by simp) (by simp) (by simp;omega)
     have ox:fE (w.by l) [] [] [(c:Int)]=0:=Es eA (by simp) (by simp) (λx q=>by rw[lb.1 q];show 0<=(c:Int)/\(c:Int)<w.aB.length;omega)
     have eN:=PJ hv a8 F.fY c;have eR:w.aB[c].hour<=ew (w.by l) c:=PM a8 (c:=c) g1
     have hW:Wl [AV.agg (pV w a2 (eQ w.aB)),int c] [dz (w.by l),int c]:=.cons eK (.cons (.refl _) .nil)
     have dx:=b6.1;have dy:=b6.2;obtain⟨A,hA⟩:∃A,A=ew w c:=⟨_,rfl⟩;obtain⟨B,hB⟩:∃B,B=ew (w.by l) c:=⟨_,rfl⟩
     rw[<-hA,<-hB]at eN;rw[<-hB]at eR;have y1:¬A<B:=by omega
     have y2:¬B<w.aB[c].hour:=by omega
     refine cf Tryz.func22 rfl (mN hs hv.BS (by omega) oc ?_)
     rw[<-hA]
     by_cases hl:72<A
     . rw[ZS hl]
       apply rn;simp[f,g,cd,dx,dy];refine bU Tryz.func22 rfl rfl hW (mN hs a8.BS (by omega) ox ?_)
       rw[<-hB]
       by_cases a9:72<B
       . rw[ZS a9]
         apply rn;simp[f,g,cd];refine⟨by omega,ih _ g1 ⟨_,_,rfl,by simp[f,g,cd],by simp[f,g,cd],by simp⟩⟩
       . rw[ZM a9]
         apply rn;simp[f,g,cd,y2,g1];refine⟨by omega,ih _ g1 ⟨_,_,rfl,by simp[f,g,cd],by simp[f,g,cd],by simp⟩⟩
     . have a9:¬72<B:=by omega
       rw[ZM hl];apply rn;simp[f,g,cd,dx,dy];refine bU Tryz.func22 rfl rfl hW (mN hs a8.BS (by omega) ox ?_)
       rw[<-hB,ZM a9];apply rn;simp[f,g,cd,y1,y2,g1];refine⟨by omega,ih _ g1 ⟨_,_,rfl,by simp[f,g,cd],by simp[f,g,cd],by simp⟩⟩
   . refine cf Tryz.func16 rfl (NM hs ?_)
     apply rn;simp[f,g,cd];exact .done (h _)

import Derived.Test.YtebcbkhnlnkolaaGreatDoorC20
set_option linter.all false
set_option maxHeartbeats 2000000
set_option maxRecDepth 4000
namespace Go.Proofs.YtebcbkhnlnkolaaGreatDoor
open Go.Proofs.Tryz (prog)
section
open Go Go.bU Go.Conc
variable{m:Mo}{σ:ab}{KF:adC}
def o6(σ0 σ:ab)(l:List (AV × Nat × List AV)):Prop:=σ0.Le σ/\(∀t∈l,Tok σ0 σ t.1 t.2.1 t.2.2)/\l.Pairwise λt a=>∀b,br t.1=some b->br a.1≠some b
theorem o6.head{σ0 σ a kk es l}(h:o6 σ0 σ ((a,kk,es)::l)):Tok σ0 σ a kk es:=h.2.1 _ (ada)
theorem o6.perm{σ0 σ l d}(h:o6 σ0 σ l)(e:l.Perm d):o6 σ0 σ d:=⟨h.1,λt q=>h.2.1 t (e.mem_iff.2 q),(e.pairwise_iff λ{a b} q c f g=>q c g f).1 h.2.2⟩
theorem o6.QI{σ0 σ σ2 l c}(h:o6 σ0 σ l)(b:σ0 c=none)(d:∃l,σ c=some (.cells l))(a:∀y,y≠c->σ2 y=σ y):o6 σ0 σ2 l:=⟨λy x f=>by rw[a y λe=>by simp_all];exact h.1 y x f,λt q=>rZ (h.2.1 t q) b d a,h.2.2⟩
theorem o6.app{σ0 σ σ' a a' kk kk' es c l}(h:o6 σ0 σ ((a,kk,es)::l))(d:Tok (σ.off a) σ' a' kk' c):o6 σ0 σ' ((a',kk',c)::l)/\∀y x,σ y=some (.cells x)->σ' y=some (.cells x):=by
 have f:=h.head;obtain⟨j,k⟩:=abv.1 h.2.2;have hb:=d.base f.here.2;have key:∀t∈l,Tok σ0 σ' t.1 t.2.1 t.2.2/\∀b,br t.1=some b->br a'≠some b:=λt q=>DD (h.2.1 t (acd _ q)) f (λb g i=>j t q b i g) d
 refine⟨⟨hb.1,λt q=>?_,abv.2 ⟨λt q b g i=>(key t q).2 b i g,k⟩⟩,λy x m=>d.1 _ _ ?_⟩
 . grind
 . rw[ab.dQ λe=>by obtain⟨_,_,q⟩:=f.aW e;simp_all];exact m
section
variable{c k:Nat}{nums:adQ}
namespace WA
abbrev YA:adH:=[⟨11,.take [0,2,3,8] false (.both 1 (.one 4 (.one 5 (.one 6 (.one 7 (.one 9 (.done)))))) (.one 4 (.both 1 (.one 5 (.one 6 (.one 7 (.one 9 (.done))))) (.one 5 (.both 1 (.one 6 (.one 7 (.one 9 (.done)))) (.one 6 (.take [1] true (.one 7 (.one 9 (.done))))))))))⟩,⟨18,.take [0,2,3,4,8,9,10,11,12,13,19] false (.both 1 (.both 5 (.take [6] false (.both 7 (.one 14 (.one 15 (.one 16 (.one 17 (.one 18 (.one 20 (.done))))))) (.one 14 (.one 7 (.one 15 (.one 16 (.one 17 (.one 18 (.one 20 (.done)))))))))) (.one 14 (.one 5 (.take [6] false (.one 7 (.one 15 (.one 16 (.one 17 (.one 18 (.one 20 (.done))))))))))) (.both 5 (.take [6] false (.both 1 (.both 7 (.one 14 (.one 15 (.one 16 (.one 17 (.one 18 (.one 20 (.done))))))) (.one 14 (.one 7 (.one 15 (.one 16 (.one 17 (.one 18 (.one 20 (.done))))))))) (.both 7 (.both 1 (.one 14 (.one 15 (.one 16 (.one 17 (.one 18 (.one 20 (.done))))))) (.one 14 (.both 1 (.one 15 (.one 16 (.one 17 (.one 18 (.one 20 (.done)))))) (.one 15 (.both 1 (.one 16 (.one 17 (.one 18 (.one 20 (.done))))) (.one 16 (.both 1 (.one 17 (.one 18 (.one 20 (.done)))) (.one 17 (.take [1] true (.one 18 (.one 20 (.done)))))))))))) (.one 14 (.both 1 (.one 7 (.one 15 (.one 16 (.one 17 (.one 18 (.one 20 (.done))))))) (.one 7 (.both 1 (.one 15 (.one 16 (.one 17 (.one 18 (.one 20 (.done)))))) (.one 15 (.both 1 (.one 16 (.one 17 (.one 18 (.one 20 (.done))))) (.one 16 (.both 1 (.one 17 (.one 18 (.one 20 (.done)))) (.one 17 (.take [1] true (.one 18 (.one 20 (.done)))))))))))))))) (.one 14 (.both 1 (.one 5 (.take [6] false (.one 7 (.one 15 (.one 16 (.one 17 (.one 18 (.one 20 (.done))))))))) (.one 5 (.take [6] false (.both 1 (.one 7 (.one 15 (.one 16 (.one 17 (.one 18 (.one 20 (.done))))))) (.one 7 (.both 1 (.one 15 (.one 16 (.one 17 (.one 18 (.one 20 (.done)))))) (.one 15 (.both 1 (.one 16 (.one 17 (.one 18 (.one 20 (.done))))) (.one 16 (.both 1 (.one 17 (.one 18 (.one 20 (.done)))) (.one 17 (.take [1] true (.one 18 (.one 20 (.done))))))))))))))))))⟩,⟨20,.take [0,1,3,6,7,8,9,10,13,14] false (.both 2 (.both 4 (.both 5 (.one 11 (.one 12 (.take [16] false (.one 15 (.done))))) (.one 11 (.one 5 (.one 12 (.take [16] false (.one 15 (.done))))))) (.one 11 (.one 4 (.one 5 (.one 12 (.take [16] false (.one 15 (.done)))))))) (.both 4 (.both 2 (.both 5 (.one 11 (.one 12 (.take [16] false (.one 15 (.done))))) (.one 11 (.one 5 (.one 12 (.take [16] false (.one 15 (.done))))))) (.one 11 (.one 2 (.one 5 (.one 12 (.take [16] false (.one 15 (.done)))))))) (.one 11 (.both 2 (.one 4 (.one 5 (.one 12 (.take [16] false (.one 15 (.done)))))) (.one 4 (.one 2 (.one 5 (.one 12 (.take [16] false (.one 15 (.done)))))))))))⟩]
theorem sM{cnt}(hk:k+600<1000000)(hn:nums.length<1152921504606846976)(c5:1<=cnt/\cnt<=6)(hb:bx c nums k σ)(h:∀  w   own lost  σ',Pv cnt w own lost->qz c nums (k+600) σ σ'->KF (.val (.cI [cA w,ints own,ints lost])) σ'):aA prog m 11 [.ref c 0,int cnt] σ KF:=by
 obtain⟨n0,s0,_,fg⟩:=id hb;refine fs YA Tryz.func11 rfl (by kernel_rfl) ?_
 simp[Tryz.f11];refine bV.intro λH h4=>?_
 have n4:c≠H:=λe=>by simp_all
 have av:∀x,bx c nums k (σ.set H x):=λx=>⟨n0,s0,by assumption,by rw[ab.ah _ _ n4];exact fg⟩
 simp;refine cf Tryz.func32 rfl (Lu (by omega) hn c5 (av _) λf U eg hS b3=>?_)
 refine aa.runN lay [] 6 ?_;simp;refine bV.intro λc7 h7=>?_
 simp[aK]
 change aa _ _ _ _ _ _ _ _ _
 refine aa.bg 7 (b:=c7) (bF f) (ab.ai _ _ _) (by simp) rfl ?_
 rw[du h7];clear h7;apply rn;simp;refine bV.intro λG h9=>?_
 have u4:eg H=some (.cells [.nil,.nil,int 0,int 0,int 0,int 0,int 0,.nil,.nil]):=by rw[b3.2 H (zs n4),ab.ai]
 have n9:G≠c:=λe=>by subst e;obtain⟨_,_,_,q⟩:=b3.1;simp_all
 have a8:G≠H:=λe=>by simp_all
 simp[aK]
 have S:∀X,bx c nums (k+500) (eg.set G X):=λX=>by obtain⟨n,z,g1,g2⟩:=b3.1;exact⟨n,z,g1,by rw[ab.ah _ _ (zs n9)];exact g2⟩
 refine cf Tryz.func33 rfl (xO (by omega) hn (by omega) (S _) λon O b4=>?_)
 refine aa.runN lay [] 3 ?_;simp;obtain⟨M,hM⟩:∃M:Int,M=if on=true then 6 else f.aY:=⟨_,rfl⟩
 apply JK
 . intro key
   have v9:O G=some (.cells [.nil,rows f.roads,int f.aX,int f.fe,int f.cL,int f.aY,int 0,.nil,.nil]):=by rw[b4.2 G n9,ab.ai]
   have v4:O H=some (.cells [.nil,.nil,int 0,int 0,int 0,int 0,int 0,.nil,.nil]):=by rw[b4.2 H (zs n4),ab.ah _ _ (zs a8)];exact u4
   have vk:∀y,y≠c->y≠H->y≠G->O y=σ y:=λy y1 y2 y3=>by rw[b4.2 y y1,ab.ah _ _ y3,b3.2 y y1,ab.ah _ _ y2]
   cases on with
   | false=>
     simp;refine aa.runN lay [] 1 ?_;simp;refine aa.ia (λenv σ'=>env 0=.ref c 0/\env 7=.cp (bF f) 0/\env 8=ints U/\env 4=.ref H 0/\env 9=.ref G 0/\bx c nums (k+501) σ'/\σ' H=some (.cells [.nil,.nil,int 0,int 0,int 0,int 0,int 0,.nil,.nil])/\σ' G=some (.cells [.nil,rows f.roads,int f.aX,int f.fe,int f.cL,int M,int 0,.nil,.nil])/\∀y,y≠c->y≠H->y≠G->σ' y=σ y) ?_ ?_
     . exact⟨by simp,by simp,by simp,by simp,by simp,b4.1,v4,by rw[hM];exact v9,vk⟩
     . exact key
   | true=>
     simp;refine aa.runN lay [] 5 ?_;simp[v9,aK];obtain⟨n,z,g1,g2⟩:=b4.1;refine aa.ia (λenv σ'=>env 0=.ref c 0/\env 7=.cp (bF f) 0/\env 8=ints U/\env 4=.ref H 0/\env 9=.ref G 0/\bx c nums (k+501) σ'/\σ' H=some (.cells [.nil,.nil,int 0,int 0,int 0,int 0,int 0,.nil,.nil])/\σ' G=some (.cells [.nil,rows f.roads,int f.aX,int f.fe,int f.cL,int M,int 0,.nil,.nil])/\∀y,y≠c->y≠H->y≠G->σ' y=σ y) ?_ ?_
     . exact⟨by simp,by simp,by simp,by simp,by simp,⟨n,z,g1,by rw[ab.ah _ _ (zs n9)];exact g2⟩,by rw[ab.ah _ _ (zs a8)];exact v4,by rw[hM];exact ab.ai _ _ _,λy y1 y2 y3=>by rw[ab.ah _ _ y3];exact vk y y1 y2 y3⟩
     . exact key
 have fi:f.aY<=M/\M<=6:=by have:=hS.om.aY;omega
 have s9:σ G=none:=by rw[<-h9,b3.2 G n9,ab.ah _ _ a8]
 rintro env ej ⟨v,A,B,D,F,bb,u4,u9,fl⟩
 apply rn;simp[v,A,B,D,F,u9];refine cf Tryz.func13 rfl (fG (by omega) hn (by omega) (by omega) bb λT bm hT a9=>?_)
 have fp:1<=T/\T<=4:=by omega
 have v9:bm G=some (.cells [.nil,rows f.roads,int f.aX,int f.fe,int f.cL,int M,int 0,.nil,.nil]):=by rw[a9.2 G n9];exact u9
 apply rn;simp[v,A,B,D,F,v9,aK]
 have ft:∀X,bx c nums (k+502) (bm.set G X):=λX=>by obtain⟨n,z,g1,g2⟩:=a9.1;exact⟨n,z,by omega,by rw[ab.ah _ _ (zs n9)];exact g2⟩
 refine cf Tryz.func16 rfl (fC (by omega) hn (by omega) (ft _) λx ad hx bq=>?_)
 have gw:0<=x/\x<=5:=by omega
 obtain⟨X,hX⟩:∃X:Nat,(X:Int)=x:=⟨x.toNat,by omega⟩
 apply rn;simp[v,A,B,D,F,v9]
 have ep:(σ.del c).Le ad:=λy z hy=>by
  have y1:y≠c:=λe=>by subst e;simp[ab.del]at hy
  have y0:σ y=some z:=by simpa[ab.del,y1]using hy
  have y4:y≠H:=λe=>by simp_all
  have y9:y≠G:=λe=>by simp_all
  rw[bq.2 y y1,ab.ah _ _ y9,a9.2 y y1,fl y y1 y4 y9];exact y0
 have et:o6 (σ.del c) ad [(.nil,5,([]:List Way).map ku)]:=⟨ep,λt q=>by rw[lb.1 q];exact⟨ep,.inl ⟨rfl,rfl⟩⟩,List.pairwise_singleton _ _⟩
 have ev:bx c nums (k+503+7*0) ad:=bq.1.mono (by omega)
 refine JK (P:=?P2) (λkey=>?f2) ?p2
 case f2=>
  refine aa.loop X (λj s=>∃env σ' aw ws,s=⟨env,σ',[],.no⟩/\(env 0=.ref c 0/\env 7=.cp (bF f) 0/\env 8=ints U/\env 4=.ref H 0/\env 9=.ref G 0/\env 10=int (X-j))/\bx c nums (k+503+7*j) σ'/\σ' H=some (.cells [.nil,.nil,int 0,int 0,int 0,int 0,int 0,.nil,.nil])/\σ' G=some (.cells [.nil,rows f.roads,int f.aX,int f.fe,int f.cL,int M,int T,aw,.nil])/\o6 (σ.del c) σ' [(aw,5,(ws:List Way).map ku)]/\ws.length<=j/\∀x∈ws,pn T x=0) ?_ ?_
  . exact⟨_,_,.nil,[],rfl,by simp[v,A,B,D,F,v9,hX],ev,by rw[bq.2 H (zs n4),ab.ah _ _ (zs a8),a9.2 H (zs n4)];exact u4,by rw[bq.2 G n9,ab.ai],et,by simp⟩
  rintro c0 j _ hj ⟨env,σ',aw,ws,rfl,⟨v,A,B,D,F,aJ⟩,bw,q4,V,J,fu,b5⟩ ih
  have a7:=J.head.cells;apply rn;simp[v,A,B,D,F,aJ,V,a7.1,a7.2];refine tj.intro (λg1=>?_) (λg1=>?_)<;>(try simp[-Nat.not_lt,-Nat.not_le]at g1)<;>(try simp[v,A,B,D,F,aJ,V,a7.1,a7.2,g1])
  rotate_left
  . have cb:k+503+7*j<=k+540:=by omega
    have cg:ws.length<=5:=by omega
    refine aa.ia (λenv σ'=>∃aw ws,env 0=.ref c 0/\env 7=.cp (bF f) 0/\env 8=ints U/\env 4=.ref H 0/\env 9=.ref G 0/\env 11=.nil/\env 12=.nil/\env 13=int 0/\bx c nums (k+540) σ'/\σ' H=some (.cells [.nil,.nil,int 0,int 0,int 0,int 0,int 0,.nil,.nil])/\σ' G=some (.cells [.nil,rows f.roads,int f.aX,int f.fe,int f.cL,int M,int T,aw,.nil])/\o6 (σ.del c) σ' [(aw,5,(ws:List Way).map ku)]/\ws.length<=5/\∀x∈ws,pn T x=0) ?_ ?_
    . refine⟨aw,ws,?_,?_,?_,?_,?_,?_,?_,?_,bw.mono cb,q4,V,J,cg,b5⟩<;>simp[v,A,B,D,F,aJ,V,a7.1,a7.2]
    . exact key
  apply aG.intro<;>intro g2<;>simp at g2<;>simp[v,A,B,D,F,aJ,V,a7.1,a7.2,g2]
  rotate_left
  . have cb:k+503+7*j<=k+540:=by omega
    have cg:ws.length<=5:=by omega
    refine aa.ia (λenv σ'=>∃aw ws,env 0=.ref c 0/\env 7=.cp (bF f) 0/\env 8=ints U/\env 4=.ref H 0/\env 9=.ref G 0/\env 11=.nil/\env 12=.nil/\env 13=int 0/\bx c nums (k+540) σ'/\σ' H=some (.cells [.nil,.nil,int 0,int 0,int 0,int 0,int 0,.nil,.nil])/\σ' G=some (.cells [.nil,rows f.roads,int f.aX,int f.fe,int f.cL,int M,int T,aw,.nil])/\o6 (σ.del c) σ' [(aw,5,(ws:List Way).map ku)]/\ws.length<=5/\∀x∈ws,pn T x=0) ?_ ?_
    . refine⟨aw,ws,?_,?_,?_,?_,?_,?_,?_,?_,bw.mono cb,q4,V,J,cg,b5⟩<;>simp[v,A,B,D,F,aJ,V,a7.1,a7.2]
    . exact key
  apply Ag (I:=λenv r=>∃a' x,env 0=.ref c 0/\env 7=.cp (bF f) 0/\env 8=ints U/\env 4=.ref H 0/\env 9=.ref G 0/\env 10=int (X-j)/\pn T x=0/\bx c nums (k+503+7*j+7) r/\r H=some (.cells [.nil,.nil,int 0,int 0,int 0,int 0,int 0,.nil,.nil])/\r G=some (.cells [.nil,rows f.roads,int f.aX,int f.fe,int f.cL,int M,int T,a',.nil])/\o6 (σ.del c) r [(a',5,(ws.map ku)++[ku x])])
  . intro Y
    repeat' (first
              |apply And.intro
              | (refine cf Tryz.func34 rfl (WY.PC (by omega) hn (by omega) bw λx O cm hd=>?_)
                 have cv:∃l,σ' c=some (.cells l):=by obtain⟨_,_,_,q⟩:=bw;exact⟨_,q⟩
                 have L:=J.QI (by simp[ab.del]) cv hd.2
                 have ey:=L.head.cells;have r9:O G=some (.cells [.nil,rows f.roads,int f.aX,int f.fe,int f.cL,int M,int T,aw,.nil]):=by rw[hd.2 G n9];exact V
                 have r4:O H=some (.cells [.nil,.nil,int 0,int 0,int 0,int 0,int 0,.nil,.nil]):=by rw[hd.2 H (zs n4)];exact q4
                 apply pg;simp[v,A,B,D,F,aJ,r9,ey.1,ey.2])
              | (refine aR lay rfl rfl rfl Te rfl Te rfl V9 (by decide) (by simp;omega) (σ0:=O.off aw) (es:=ws.map ku) (xs:=[ku x]) (by simpa using L.head.here.1) (.inr ⟨_,by simp;rfl⟩) λa' ej ax=>?_
                 obtain⟨b0,k3⟩:=L.app ax;have K:=b0.head.cells;have t9:=k3 _ _ r9;have t4:=k3 _ _ r4;apply pg;simp[v,A,B,D,F,aJ,t9,K.1,K.2,aK];obtain⟨nb,zb,av,S⟩:=hd.1;have tc:=k3 _ _ S;refine Y _ _ ⟨a',x,by simp[v],by simp[A],by simp[B],by simp[D],by simp[F],by simp[aJ],cm,⟨nb,zb,av,by rw[ab.ah _ _ (zs n9)];exact tc⟩,by rw[ab.ah _ _ (zs a8)];exact t4,ab.ai _ _ _,?_⟩
                 exact(b0.QI (by simp[ab.del,n9,s9]) ⟨_,t9⟩ λy hy=>ab.ah _ _ hy)))
  clear v A B D F aJ env
  rintro env O ⟨a',x,v,A,B,D,F,aJ,cm,S,r4,r9,L⟩
  apply rn;simp[v,A,B,D,F,aJ];have r1:-9223372036854775808<=(X:Int)-j-1/\(X:Int)-j-1<=9223372036854775807:=by omega
  refine⟨r1,ih _ g1 ⟨_,_,a',ws++[x],rfl,⟨by simp[v,A,B,D,F,aJ],by simp[v,A,B,D,F,aJ],by simp[v,A,B,D,F,aJ],by simp[v,A,B,D,F,aJ],by simp[v,A,B,D,F,aJ],?_⟩,?_,r4,r9,?_,?_,?_⟩⟩
  . simp;omega
  . omega
  . simpa using L
  . simp;omega
  . intro y hy
    rcases aaC.1 hy with q|q
    . exact b5 y q
    . rw[lb.1 q];exact cm
 case p2=>
 clear v A B D F env
 rintro env bA ⟨aw,ws,v,A,B,D,F,aF,aT,d,ez,eA,dj,R,fu,b5⟩
 obtain⟨Q,dm⟩:∃Q:Int->Int,Q=λi=>U.getD i.toNat 0:=⟨_,rfl⟩
 have h6:=hS.om.lu;have gx:=hS.len;have gA:U.length=f.au.length:=by obtain⟨_,_,_,_,q,_⟩:=hS.seen;exact q.len
 have fv:∀e∈f.au,0<=e.hour/\e.hour<=72:=λe he=>(kR (hS.om.qB e he)).1
 apply rn;simp[v,A,B,D,F,aF,aT,d,dj];have b6:=R.1
 have b7:o6 (σ.del c) bA [(.nil,6,(([]:adQ).map (aM f)).map aZ),(.nil,8,([]:List PN).map iP),(.nil,1,(([]:adQ).map Q).map int),(.nil,1,(([]:adQ).map Q).map int),(aw,5,ws.map ku)]:=by
  have n0:∀kk,Tok (σ.del c) bA .nil kk []:=λkk=>⟨b6,.inl ⟨rfl,rfl⟩⟩
  refine⟨b6,λt q=>?_,?_⟩
  . simp at q
    rcases q with rfl|rfl|rfl|rfl
    . exact n0 6
    . exact n0 8
    . exact n0 1
    . exact R.head
  . simp[br]
 refine aa.loop f.au.length (λi s=>∃env σ' aE Z aO aL E C cs,s=⟨env,σ',[],.no⟩/\(env 0=.ref c 0/\env 7=.cp (bF f) 0/\env 8=ints U/\env 4=.ref H 0/\env 9=.ref G 0/\env 11=aO/\env 12=aL/\env 13=int i)/\bx c nums (k+540+3*i) σ'/\σ' H=some (.cells [.nil,.nil,int 0,int 0,int 0,int 0,int 0,.nil,.nil])/\σ' G=some (.cells [aE,rows f.roads,int f.aX,int f.fe,int f.cL,int M,int T,aw,Z])/\o6 (σ.del c) σ' [(aE,6,((E:adQ).map (aM f)).map aZ),(Z,8,(cs:List PN).map iP),(aO,1,(E.map Q).map int),(aL,1,((C:adQ).map Q).map int),(aw,5,ws.map ku)]/\E.length+C.length=i/\(∀x∈E++C,0<=x/\x<f.au.length)/\cs.map (·.lost)=C.map (aM f)/\cs.length<=3/\∀x∈cs,(0<=x.town/\x.town<T)/\(0<=x.hour/\x.hour<=72)/\x.lost.hour<=x.hour) ?_ ?_
 . refine⟨_,_,.nil,.nil,.nil,.nil,[],[],[],rfl,?_,ez,eA,dj,b7,rfl,by simp,rfl,by simp⟩
   simp_all
 clear b7 R b6 eA dj ez v A B D F aF aT d env
 rintro c0 i _ hi ⟨env,σ',aE,Z,aO,aL,E,C,cs,rfl,⟨v,A,B,D,F,aF,aT,d⟩,dr,q4,V,J,gB,bB,dx,eB,dy⟩ ih
 have g:=J.head.cells;have o:Z.cells=[Z]/\Z.flat=true:=(J.2.1 (Z,8,cs.map iP) (by simp)).cells
 have u:aO.cells=[aO]/\aO.flat=true:=(J.2.1 (aO,1,(E.map Q).map int) (by simp)).cells
 have p:aL.cells=[aL]/\aL.flat=true:=(J.2.1 (aL,1,(C.map Q).map int) (by simp)).cells
 have fw:∀l,(Z,8,cs.map iP)=l->True:=λ_ _=>trivial
 refine aa.runN lay [] 20 ?_;simp[v,A,B,D,F,aF,aT,d,V,g.1,g.2,o.1,o.2,u.1,u.2,p.1,p.2];apply aG.intro<;>intro g1<;>simp at g1<;>simp[v,A,B,D,F,aF,aT,d,V,g.1,g.2,o.1,o.2,u.1,u.2,p.1,p.2,g1]
 . refine aa.runN lay [] 2 ?_
   simp[v,A,B,D,F,aF,aT,d,V,g.1,g.2,o.1,o.2,u.1,u.2,p.1,p.2];refine bV.intro λfx eK=>?_
   simp[v,A,B,D,F,aF,aT,d,V,g.1,g.2,o.1,o.2,u.1,u.2,p.1,p.2,aK]
   change aa _ _ _ _ _ _ _ _ _
   refine aa.bg 14 (b:=fx) (aZ f.au[i]) (ab.ai _ _ _) (by simp) rfl ?_
   rw[du eK];have gC:=fv _ (zj g1);have eN:aM f i=f.au[i]:=by simp[aM,g1]
   generalize f.au[i]=e at *;clear eK;apply rn;simp[v,A,B,D,F,aF,aT,d,V,g.1,g.2,o.1,o.2,u.1,u.2,p.1,p.2];refine cf Tryz.func33 rfl (xO (by omega) hn (by omega) dr λon O b1=>?_)
   have cv:∃l,σ' c=some (.cells l):=by obtain⟨_,_,_,q⟩:=dr;exact⟨_,q⟩
   have L:=J.QI (by simp[ab.del]) cv b1.2
   have r9:O G=some (.cells [aE,rows f.roads,int f.aX,int f.fe,int f.cL,int M,int T,aw,Z]):=by rw[b1.2 G n9];exact V
   have r4:O H=some (.cells [.nil,.nil,int 0,int 0,int 0,int 0,int 0,.nil,.nil]):=by rw[b1.2 H (zs n4)];exact q4
   have eR:=(L.2.1 (Z,8,cs.map iP) (by simp)).Sm
   refine JK (P:=?P3) (λkey=>?f3) ?p3
   case f3 =>
    have fO:∀b,b=decide ((cs.length:Int)<3)->b=true->cs.length<3:=λb q1 q2=>by rw[q1]at q2;have:=abK q2;clear key;omega
    cases on with
    | false=>
      refine aa.runN lay [] 7 ?_;simp[v,A,B,D,F,aF,aT,d,V,g.1,g.2,o.1,o.2,u.1,u.2,p.1,p.2];refine aa.ia (λenv r=>O=r/\env 0=.ref c 0/\env 7=.cp (bF f) 0/\env 8=ints U/\env 4=.ref H 0/\env 9=.ref G 0/\env 11=aO/\env 12=aL/\env 13=int i/\env 14=.cp (aZ e) 0/\∃b,env 71=bool b/\(b=true->cs.length<3)) ?_ ?_
      . refine⟨rfl,?_,?_,?_,?_,?_,?_,?_,?_,?_,false,?_⟩<;>simp[v,A,B,D,F,aF,aT,d,V,g.1,g.2,o.1,o.2,u.1,u.2,p.1,p.2]
      . exact key
    | true=>
      rcases eR with ⟨q1,q2⟩|⟨sp,q1⟩
      . change Z=_ at q1
        rw[q1]at r9;refine aa.runN lay [] 7 ?_;simp[v,A,B,D,F,aF,aT,d,V,g.1,g.2,o.1,o.2,u.1,u.2,p.1,p.2,r9];refine aa.ia (λenv r=>O=r/\env 0=.ref c 0/\env 7=.cp (bF f) 0/\env 8=ints U/\env 4=.ref H 0/\env 9=.ref G 0/\env 11=aO/\env 12=aL/\env 13=int i/\env 14=.cp (aZ e) 0/\∃b,env 71=bool b/\(b=true->cs.length<3)) ?_ ?_
        . have hz:cs.length<3:=by
           cases cs with
           |nil=>exact(by decide)
           |cons a l=>cases q2
          refine⟨rfl,?_,?_,?_,?_,?_,?_,?_,?_,?_,true,?_,λ_=>hz⟩<;>simp[v,A,B,D,F,aF,aT,d,V,g.1,g.2,o.1,o.2,u.1,u.2,p.1,p.2]
        . exact key
      . change Z=_ at q1
        rw[q1]at r9;refine aa.runN lay [] 7 ?_;simp[v,A,B,D,F,aF,aT,d,V,g.1,g.2,o.1,o.2,u.1,u.2,p.1,p.2,r9];refine aa.ia (λenv r=>O=r/\env 0=.ref c 0/\env 7=.cp (bF f) 0/\env 8=ints U/\env 4=.ref H 0/\env 9=.ref G 0/\env 11=aO/\env 12=aL/\env 13=int i/\env 14=.cp (aZ e) 0/\∃b,env 71=bool b/\(b=true->cs.length<3)) ?_ ?_
        . refine⟨rfl,?_,?_,?_,?_,?_,?_,?_,?_,?_,decide ((cs.length:Int)<3),?_,fO _ rfl⟩<;>simp[v,A,B,D,F,aF,aT,d,V,g.1,g.2,o.1,o.2,u.1,u.2,p.1,p.2]
        . exact key
   case p3=>
   clear v A B D F aF aT d env eR
   rintro env _ ⟨rfl,v,A,B,D,F,aF,aT,d,bX,b,SL,bb⟩
   have rT:-9223372036854775808<=T-1/\T-1<=9223372036854775807:=by omega
   have rh:-9223372036854775808<=e.hour+6/\e.hour+6<=9223372036854775807:=by omega
   have gD:E.length<=i/\C.length<=i:=by omega
   cases b with
   | true=>
     have bb:=bb rfl
     apply Ag (I:=λenv r=>∃a' nc,env 0=.ref c 0/\env 7=.cp (bF f) 0/\env 8=ints U/\env 4=.ref H 0/\env 9=.ref G 0/\env 11=aO/\env 12=aL/\env 13=int i/\bx c nums (k+540+3*i+3) r/\r H=some (.cells [.nil,.nil,int 0,int 0,int 0,int 0,int 0,.nil,.nil])/\r G=some (.cells [aE,rows f.roads,int f.aX,int f.fe,int f.cL,int M,int T,aw,a'])/\o6 (σ.del c) r [(a',8,cs.map iP++[iP nc]),(aE,6,(E.map (aM f)).map aZ),(aO,1,(E.map Q).map int),(aL,1,(C.map Q).map int),(aw,5,ws.map ku)]/\nc.lost=e/\(0<=nc.town/\nc.town<T)/\(0<=nc.hour/\nc.hour<=72)/\nc.lost.hour<=nc.hour)
     . intro Y
       apply rn;simp[v,A,B,D,F,aF,aT,d,bX,SL,r9,g.1,g.2,o.1,o.2,rT.1,rT.2,rh.1,rh.2]
       repeat' (first
                 |apply And.intro
                 | (refine cf Tryz.func16 rfl (fC (by omega) hn (by omega) b1.1 λy1 ej gG b8=>?_)
                    have b0:=L.QI (by simp[ab.del]) (by obtain⟨_,_,_,q⟩:=b1.1;exact⟨_,q⟩) b8.2
                    have v9:=(b8.2 G n9).trans r9;have v4:=(b8.2 H (zs n4)).trans r4;apply pg;simp[v,A,B,D,F,aF,aT,d,bX,r9,v9,g.1,g.2,o.1,o.2,rT.1,rT.2,rh.1,rh.2])
                 | (refine cf Tryz.func13 rfl (fG (by omega) hn (by omega) ⟨by split<;>omega,by split<;>omega⟩ b8.1 λy2 bm gd a9=>?_)
                    have eW:=b0.QI (by simp[ab.del]) (by obtain⟨_,_,_,q⟩:=b8.1;exact⟨_,q⟩) a9.2
                    have x9:=(a9.2 G n9).trans v9;have x4:=(a9.2 H (zs n4)).trans v4;apply pg;simp[v,A,B,D,F,aF,aT,d,bX,x9,g.1,g.2,o.1,o.2,aK])
                 | (have hp:=eW.perm (List.Perm.swap (Z,8,cs.map iP) _ _)
                    refine aR lay rfl rfl rfl QZ rfl QZ rfl V' (by decide) (by simp;omega) (σ0:=bm.off Z) (es:=cs.map iP) (xs:=[iP ⟨e,y1,y2⟩]) (by simpa using hp.head.here.1) (.inr ⟨.exact,by simp[aK]⟩) λa' ad ax=>?_
                    obtain⟨N,k5⟩:=hp.app ax;have K:=N.head.cells;have t9:=k5 _ _ x9;have t4:=k5 _ _ x4;apply pg;simp[v,A,B,D,F,aF,aT,d,bX,t9,K.1,K.2,aK];obtain⟨nb,zb,av,S⟩:=a9.1;have tc:=k5 _ _ S
                    refine Y _ _ ⟨a',⟨e,y1,y2⟩,by simp[v],by simp[A],by simp[B],by simp[D],by simp[F],by simp[aF],by simp[aT],by simp[d],⟨nb,zb,by omega,by rw[ab.ah _ _ (zs n9)];exact tc⟩,by rw[ab.ah _ _ (zs a8)];exact t4,ab.ai _ _ _,N.QI (by simp[ab.del,n9,s9]) ⟨_,t9⟩ λy hy=>ab.ah _ _ hy,rfl,by simp only;omega,?_,?_⟩
                    . simp only;revert gd;split<;>omega
                    . simp only;omega))
     clear v A B D F aF aT d bX SL env
     rintro env ad ⟨a',nc,v,A,B,D,F,aF,aT,d,ea,eb,ec,N,gf,gH,gI,gP⟩
     have b2:i<U.length:=by omega
     have K:=N.head.cells;apply rn;simp[v,A,B,D,F,aF,aT,d,K.1,K.2,p.1,p.2,b2];have hp:=N.perm (adj (a:=(aL,1,(C.map Q).map int)) (l₁:=[(a',8,cs.map iP++[iP nc]),(aE,6,(E.map (aM f)).map aZ),(aO,1,(E.map Q).map int)]) (l₂:=[(aw,5,ws.map ku)]));have b9:Q (i:Int)=U[i]:=by rw[dm];simp[b2]
     refine aR lay rfl rfl rfl dK rfl dK rfl sb (by decide) (by simp;omega) (σ0:=ad.off aL) (es:=(C.map Q).map int) (xs:=[int U[i]]) (by simpa using hp.head.here.1) (.inr ⟨_,rfl⟩) λeX bA ax=>?_
     obtain⟨R,k6⟩:=hp.app ax;have c6:=R.head.cells;have t9:=k6 _ _ ec;have t4:=k6 _ _ eb;apply rn;simp[v,A,B,D,F,aF,aT,d,K.1,K.2,p.1,p.2,c6.1,c6.2];obtain⟨nb,zb,av,S⟩:=ea;have tc:=k6 _ _ S;have ed:=R.perm ((adj (a:=(eX,1,(C.map Q).map int++[int U[i]])) (l₁:=[(a',8,cs.map iP++[iP nc]),(aE,6,(E.map (aM f)).map aZ),(aO,1,(E.map Q).map int)]) (l₂:=[(aw,5,ws.map ku)])).symm.trans (List.Perm.swap _ _ _))
     refine⟨by omega,ih _ g1 ⟨_,_,aE,a',aO,eX,E,C++[(i:Int)],cs++[nc],rfl,?_,⟨nb,zb,by omega,tc⟩,t4,t9,?_,?_,?_,?_,?_,?_⟩⟩
     . exact by simp[v,A,B,D,F,aF,aT,d,K.1,K.2,p.1,p.2]
     . simpa[b9]using ed
     . simp;omega
     . intro x hx
       rw[<-List.append_assoc]at hx
       rcases aaC.1 hx with q|q
       . exact bB x q
       . rw[lb.1 q];omega
     . rw[aaB,aaB,dx];simp[gf,eN]
     . simp;omega
     . intro x hx
       rcases aaC.1 hx with q|q
       . exact dy x q
       . rw[lb.1 q];omega
   | false=>
     have b2:i<U.length:=by omega
     have b9:Q (i:Int)=U[i]:=by rw[dm];simp[b2]
     apply Ag (I:=λenv r=>∃al ay,env 0=.ref c 0/\env 7=.cp (bF f) 0/\env 8=ints U/\env 4=.ref H 0/\env 9=.ref G 0/\env 11=ay/\env 12=aL/\env 13=int i/\bx c nums (k+540+3*i+3) r/\r H=some (.cells [.nil,.nil,int 0,int 0,int 0,int 0,int 0,.nil,.nil])/\r G=some (.cells [al,rows f.roads,int f.aX,int f.fe,int f.cL,int M,int T,aw,Z])/\o6 (σ.del c) r [(ay,1,(E.map Q).map int++[int U[i]]),(al,6,(E.map (aM f)).map aZ++[aZ e]),(Z,8,cs.map iP),(aL,1,(C.map Q).map int),(aw,5,ws.map ku)])
     . intro Y
       apply rn;simp[v,A,B,D,F,aF,aT,d,bX,SL,r9,g.1,g.2,u.1,u.2,b2]
       repeat' (first
                 |apply And.intro
                 | (refine aR lay rfl rfl rfl lH rfl lH rfl xd (by decide) (by simp;omega) (σ0:=O.off aE) (es:=(E.map (aM f)).map aZ) (xs:=[aZ e]) (by simpa using L.head.here.1) (.inr ⟨.exact,by simp⟩) λal ad ax=>?_
                    obtain⟨N,k5⟩:=L.app ax;have K:=N.head.cells;have t9:=k5 _ _ r9;have t4:=k5 _ _ r4;apply pg;simp[v,A,B,D,F,aF,aT,d,bX,t9,K.1,K.2,u.1,u.2,b2])
                 | (have hp:=N.perm (adj (a:=(aO,1,(E.map Q).map int)) (l₁:=[(al,6,(E.map (aM f)).map aZ++[aZ e]),(Z,8,cs.map iP)]) (l₂:=[(aL,1,(C.map Q).map int),(aw,5,ws.map ku)]))
                    refine aR lay rfl rfl rfl dK rfl dK rfl sb (by decide) (by simp;omega) (σ0:=ad.off aO) (es:=(E.map Q).map int) (xs:=[int U[i]]) (by simpa using hp.head.here.1) (.inr ⟨.exact,by simp⟩) λay bA gj=>?_
                    obtain⟨R,k6⟩:=hp.app gj;have ca:=R.head.cells;have x9:=k6 _ _ t9;have x4:=k6 _ _ t4;apply pg;simp[v,A,B,D,F,aF,aT,d,bX,x9,K.1,K.2,ca.1,ca.2,aK];obtain⟨nb,zb,av,S⟩:=b1.1;have tc:=k6 _ _ (k5 _ _ S);exact Y _ _ ⟨al,ay,by simp[v],by simp[A],by simp[B],by simp[D],by simp[F],by simp,by simp[aT],by simp[d],⟨nb,zb,by omega,by rw[ab.ah _ _ (zs n9)];exact tc⟩,by rw[ab.ah _ _ (zs a8)];exact x4,ab.ai _ _ _,R.QI (by simp[ab.del,n9,s9]) ⟨_,x9⟩ λy hy=>ab.ah _ _ hy⟩))
     clear v A B D F aF aT d bX SL env
     rintro env ad ⟨al,ay,v,A,B,D,F,aF,aT,d,ea,eb,ec,N⟩
     apply rn;simp[v,A,B,D,F,aF,aT,d];have ed:=N.perm ((adj (a:=(ay,1,(E.map Q).map int++[int U[i]])) (l₁:=[(al,6,(E.map (aM f)).map aZ++[aZ e]),(Z,8,cs.map iP)]) (l₂:=[(aL,1,(C.map Q).map int),(aw,5,ws.map ku)])).symm);refine⟨by omega,ih _ g1 ⟨_,_,al,Z,ay,aL,E++[(i:Int)],C,cs,rfl,?_,ea.mono (by omega),eb,ec,?_,?_,?_,dx,eB,dy⟩⟩
     . exact by simp[v,A,B,D,F,aF,aT,d]
     . simpa[b9,eN]using ed
     . simp;omega
     . intro x hx
       rcases aaC.1 hx with q|q
       . rcases aaC.1 q with q|q
         . exact bB x (List.mem_append_left _ q)
         . rw[lb.1 q];omega
       . exact bB x (List.mem_append_right _ q)
 . have ei:i=f.au.length:=by omega
   have fc:aw.cells=[aw]/\aw.flat=true:=(J.2.1 (aw,5,ws.map ku) (by simp)).cells
   simp[v,A,B,D,F,aF,aT,d,V,g.1,g.2,o.1,o.2,u.1,u.2,p.1,p.2,fc.1,fc.2,q4,ab.ah,a8,zs a8,aK];apply rn;simp[v,A,B,D,F,aF,aT,d,V,g.1,g.2,o.1,o.2,u.1,u.2,p.1,p.2];obtain⟨w,hw⟩:∃w:fA,w=⟨⟨E.map (aM f),f.roads,f.aX,f.fe,f.cL,M⟩,T,ws,cs⟩:=⟨_,rfl⟩
   have ee:Pv cnt w (E.map Q) (C.map Q):=by subst hw;subst dm;exact Rr hS c5.2 bB (by omega) rfl dx rfl rfl rfl rfl fi fp b5 (show ws.length<=5 by omega) eB dy
   obtain⟨nb,zb,av,S⟩:=dr
   have gl:(AV.agg [aE,rows f.roads,int f.aX,int f.fe,int f.cL,int M,int T,aw,Z]).W (cA w):=by
    subst hw;refine rf rfl λi x y h1 h2=>?_
    match i with
    |0=>cases h1;cases h2;exact J.head.W
    |1=>cases h1;cases h2;exact .refl _
    |2=>cases h1;cases h2;exact .refl _
    |3=>cases h1;cases h2;exact .refl _
    |4=>cases h1;cases h2;exact .refl _
    |5=>cases h1;cases h2;exact .refl _
    |6=>cases h1;cases h2;exact .refl _
    |7=>cases h1;cases h2;exact(J.2.1 (aw,5,ws.map ku) (by simp)).W
    |8=>cases h1;cases h2;exact(J.2.1 (Z,8,cs.map iP) (by simp)).W
    |i+9=>cases h1
   have gp:(AV.cI [.agg [aE,rows f.roads,int f.aX,int f.fe,int f.cL,int M,int T,aw,Z],aO,aL]).W (.cI [cA w,ints (E.map Q),ints (C.map Q)]):=by
    refine GQ rfl λi x y h1 h2=>?_
    match i with
    |0=>cases h1;cases h2;exact gl
    |1=>cases h1;cases h2;exact(J.2.1 (aO,1,(E.map Q).map int) (by simp)).W
    |2=>cases h1;cases h2;exact (J.2.1 (aL,1,(C.map Q).map int) (by simp)).W
    |i+3=>cases h1
   refine .oo gp (.less (σ':=σ.set c (.cells [ints nums,int nb,.lit (.int .u64 zb)])) (λy x hy=>?_) (.done (h w _ _ _ ee ⟨⟨nb,zb,by omega,ab.ai _ _ _⟩,λy hy=>ab.ah _ _ hy⟩)))
   by_cases y1:y=c
   . subst y1
     rw[ab.ai]at hy;rw[ab.ah _ _ n4,S];exact hy
   . rw[ab.ah _ _ y1]at hy
     have y4:y≠H:=λe=>by subst e;grind
     rw[ab.ah _ _ y4];exact J.1 y x (by simpa[ab.del,y1]using hy)
end WA
end
end
open Go.bU Go.Conc
variable{m:Mo}{σ:ab}{KF:adC}
theorem ou{w:fA}(d:iS w=0){a b c:adQ}(e:∀x∈a,0<=x/\x<=72)(hb:∀x∈b,0<=x/\x<(w.fair.au.length:Int))(f:∀x∈c,0<=x/\x<(w.aB.length:Int)):dZ w a b c=0:=by
 have g:a.all (bC · 0 72)=true:=aaw.2 λx q=>by have:=e x q;simp only[bC,za,KD];omega
 have h:b.all (bC · 0 (w.fair.au.length-1))=true:=aaw.2 λx q=>by have:=hb x q;simp only[bC,za,KD];omega
 have i:c.all (bC · 0 (w.aB.length-1))=true:=aaw.2 λx q=>by have:=f x q;simp only[bC,za,KD];omega
 unfold dZ;rw[aav d,g,h,i,aau (by simp),aau (by simp),aau (by simp)]

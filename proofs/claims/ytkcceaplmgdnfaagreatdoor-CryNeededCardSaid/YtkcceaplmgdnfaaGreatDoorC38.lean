import Derived.Test.YtkcceaplmgdnfaaGreatDoorC37
set_option linter.all false
set_option maxHeartbeats 2000000
set_option maxRecDepth 4000
namespace Go.Proofs.YtkcceaplmgdnfaaGreatDoor
open Go.Proofs.Tryz (prog)
section
open Go.bQ Go.Conc
theorem oT{α:Type}{g:α->Int}:∀{l:List α},(∀x∈l,g x=0)->dY g l=0
 |[],_=>rfl
 |a::l,h=>by rw[dY,if_pos (h a (by simp))];exact oT λx q=>h x (by simp[q])
structure NW(cnt:Int)(w:cH)(own lost:acp):Prop where
 valid:w.Valid
 Cd:jA w=0
 len:(w.fair.aD.length:Int)+w.az.length<=cnt
 lo:own.length=w.fair.aD.length
 ll:lost.length=w.az.length
 YF:∀e∈w.fair.aD,e.marks.length<=3
 YG:∀c∈w.az,c.lost.marks.length<=3
 rows:w.fair.roads.length<=3/\∀r∈w.fair.roads,r.length<=3
 YH:∃v∈aH (gT w) [],∀i j:Nat,i<w.fair.aD.length+w.az.length->j<w.fair.aD.length+w.az.length->lU i j v=decide ((own++lost).getD i 0=(own++lost).getD j 0)
theorem PH{cnt:Int}{f:Fr}{p:acp}(t:Gf cnt f p)(M:cnt<=6){w:cH}{E C:acp}(z:∀i∈E++C,0<=i/\i<f.aD.length)(hn:(E.length:Int)+C.length<=cnt)
 (V:w.fair.aD=E.map (aQ f)) (N:w.az.map (·.lost)=C.map (aQ f)) (y:w.fair.roads=f.roads) (m:w.fair.aR=f.aR) (n:w.fair.eS=f.eS) (hd:w.fair.cQ=f.cQ) (W:f.aX<=w.fair.aX/\w.fair.aX<=6)
 (O:1<=w.ba/\w.ba<=4) (X:∀x∈w.ways,oP w.ba x=0) (Y:w.ways.length<=6) (Z:w.az.length<=3) (F:∀c∈w.az,(0<=c.town/\c.town<w.ba)/\(0<=c.hour/\c.hour<=72)/\c.lost.hour<=c.hour):
 NW cnt w (E.map λi=>p.getD i.toNat 0) (C.map λi=>p.getD i.toNat 0):=by
 have d:=t.qO;have l1:w.fair.aD.length=E.length:=by simp_all
 have l2:w.az.length=C.length:=by rw[<-List.length_map (f:=(·.lost)),N,ZE]
 have A:∀e∈w.fair.aD,e∈f.aD:=λe q=>by rw[V]at q;obtain⟨i,G,rfl⟩:=List.mem_map.1 q;exact gS (z i (by simp[G]))
 have I:∀c∈w.az,c.lost∈f.aD:=λc q=>by have:c.lost∈w.az.map (·.lost):=List.mem_map.2 ⟨c,q,rfl⟩;rw[N]at this;obtain⟨i,G,e⟩:=List.mem_map.1 this;rw[<-e];exact gS (z i (by simp[G]))
 have gen:∀es:acC,(∀e∈es,e∈f.aD)->es.length<=6->({w.fair with aD:=es}:Fr).Good:=λes q ql=>by
  have J:=d.aX;refine⟨⟨by grind,by show w.fair.roads.length<_;rw[y];exact d.fits.roads,by show ∀r∈w.fair.roads,_;rw[y];exact d.fits.row,λe D=>d.fits.marks e (q e D)⟩,by rw[m];exact d.fr,by rw[n];exact d.to,by rw[m,n];exact d.le,by rw[hd];exact d.cQ,?_,ql,λe D=>?_,by show fT w.fair.roads=0;rw[y];exact d.JN⟩
  . grind
  . show cM w.fair.roads.length e=0
    rw[y];exact d.te e (q e D)
 have P:w.fair.Good:=gen w.fair.aD A (by omega)
 have Q:∀c∈w.az,(lone w.fair c.lost).Good:=λc q=>gen [c.lost] (λe D=>by simp_all) (by simp)
 have R:w.qP:=⟨P.fits,P.Cd,λc q=>⟨(Q c q).fits,(Q c q).Cd⟩,by omega,by omega⟩
 have h6:w.fair.aD.length+w.az.length<=6:=by omega
 have S:=gV R h6
 have B:tv f (gT w) (E++C):=⟨y,m,n,hd,W.1,z,by simp_all⟩
 obtain⟨mo,Cs,H,last,g,J⟩:=t.seen;obtain⟨v,s,h,hv⟩:=g.cS d (by omega)
 obtain⟨u,T,o⟩:=B.cS d S hv;have K:aH (gT w) []≠[]:=aaL T
 have U:jA w=0:=by
  unfold jA;have a1:bD w.ba 1 4=true:=by simp[bD,O.1,O.2]
  have a2:dY (vJ w) w.az=0:=oT λc q=>by
   have:=F c q;have e1:bD c.town 0 (w.ba-1)=true:=by simp only[bD,zj,decide_eq_true_eq];omega
   have e2:bD c.hour 0 72=true:=by simp only[bD,zj,decide_eq_true_eq];omega
   unfold vJ
   simp_all
  have a3:=(uB S).2 K;rw[a1,oT X,a2,if_neg (by simp),if_neg (by omega),if_neg (by simp),if_neg (by omega),if_neg (by simp),if_neg (by omega),if_neg (by omega)]
 have a7:p.length=f.aD.length:=g.len;refine⟨cH.valid R U,U,by omega,by simp_all,by simp_all,λe q=>t.marks e (A e q),λc q=>t.marks _ (I c q),by rw[y];exact⟨t.dS,t.row⟩,u,T,λi j L hj=>?_⟩
 have hl:(E++C).length=w.fair.aD.length+w.az.length:=by simp_all
 rw[o i j (by omega) (by omega),<-List.map_append]
 have k:∀i:Nat,i<(E++C).length->((E++C).map λi=>p.getD i.toNat 0).getD i 0=p.getD ((E++C).getD i 0).toNat 0:=λi L=>by rw[zA,ZT,zU L,zA (l:=E++C),zU L];rfl
 rw[k i (by omega),k j (by omega)]
 have ri:=z _ (yn (l:=E++C) (i:=i) (by omega))
 have rj:=z _ (yn (l:=E++C) (i:=j) (by omega))
 generalize (E++C).getD i 0=a at *;generalize (E++C).getD j 0=b at *;have ea:a=(a.toNat:Int):=by omega
 have eb:b=(b.toNat:Int):=by omega
 rw[abt,decide_eq_true_eq];constructor
 . intro q
   rw[ea,eb]at q;have:=ym h (by omega) (by omega) q
   omega
 . intro q
   have:=yl h (i:=a.toNat) (j:=b.toNat) (by omega) (by omega) q
   grind
end
section
open Go Go.bQ Go.Conc
variable{m:Mo}{σ:aa}{KF:abT}
def nR(σ0 σ:aa)(l:aby):Prop:=σ0.Le σ/\(∀t∈l,Tok σ0 σ t.1 t.2.1 t.2.2)/\l.Pairwise λt a=>∀b,bp t.1=some b->bp a.1≠some b
theorem nR.head{σ0 σ:aa}{a:AV}{kk:Nat}{es:acw}{l:aby}(h:nR σ0 σ ((a,kk,es)::l)):Tok σ0 σ a kk es:=h.2.1 _ (abj)
theorem nR.perm{σ0 σ:aa}{l d:aby}(h:nR σ0 σ l)(e:l.Perm d):nR σ0 σ d:=⟨h.1,λt q=>h.2.1 t (e.mem_iff.2 q),(e.pairwise_iff λ{a b} q c f g=>q c g f).1 h.2.2⟩
theorem nR.OT{σ0 σ σ2:aa}{l:aby}{c:Nat}(h:nR σ0 σ l)(b:σ0 c=none)(d:∃l,σ c=some (.cells l))(a:∀y,y≠c->σ2 y=σ y):nR σ0 σ2 l:=⟨λy x f=>by rw[a y λe=>by simp_all];exact h.1 y x f,λt q=>qD (h.2.1 t q) b d a,h.2.2⟩
theorem nR.app{σ0 σ σ':aa}{a a':AV}{kk kk':Nat}{es c:acw}{l:aby}(h:nR σ0 σ ((a,kk,es)::l))(d:Tok (σ.off a) σ' a' kk' c):nR σ0 σ' ((a',kk',c)::l)/\∀y x,σ y=some (.cells x)->σ' y=some (.cells x):=by
 have f:=h.head;obtain⟨j,k⟩:=List.pairwise_cons.1 h.2.2;have hb:=d.base f.here.2;have key:∀t∈l,Tok σ0 σ' t.1 t.2.1 t.2.2/\∀b,bp t.1=some b->bp a'≠some b:=λt q=>Cb (h.2.1 t (aan _ q)) f (λb g i=>j t q b i g) d
 refine⟨⟨hb.1,λt q=>?_,List.pairwise_cons.2 ⟨λt q b g i=>(key t q).2 b i g,k⟩⟩,λy x m=>d.1 _ _ ?_⟩
 . grind
 . rw[aa.dO λe=>by obtain⟨_,_,q⟩:=f.aV e;simp_all];exact m
section
variable{c k:Nat}{nums:acp}
namespace WA
abbrev Zx:ace:=[⟨11,.take [0,2,3,8] false (.both 1 (.one 4 (.one 5 (.one 6 (.one 7 (.one 9 (.done)))))) (.one 4 (.both 1 (.one 5 (.one 6 (.one 7 (.one 9 (.done))))) (.one 5 (.both 1 (.one 6 (.one 7 (.one 9 (.done)))) (.one 6 (.take [1] true (.one 7 (.one 9 (.done))))))))))⟩,⟨18,.take [0,2,3,4,8,9,10,11,12,13,19] false (.both 1 (.both 5 (.take [6] false (.both 7 (.one 14 (.one 15 (.one 16 (.one 17 (.one 18 (.one 20 (.done))))))) (.one 14 (.one 7 (.one 15 (.one 16 (.one 17 (.one 18 (.one 20 (.done)))))))))) (.one 14 (.one 5 (.take [6] false (.one 7 (.one 15 (.one 16 (.one 17 (.one 18 (.one 20 (.done))))))))))) (.both 5 (.take [6] false (.both 1 (.both 7 (.one 14 (.one 15 (.one 16 (.one 17 (.one 18 (.one 20 (.done))))))) (.one 14 (.one 7 (.one 15 (.one 16 (.one 17 (.one 18 (.one 20 (.done))))))))) (.both 7 (.both 1 (.one 14 (.one 15 (.one 16 (.one 17 (.one 18 (.one 20 (.done))))))) (.one 14 (.both 1 (.one 15 (.one 16 (.one 17 (.one 18 (.one 20 (.done)))))) (.one 15 (.both 1 (.one 16 (.one 17 (.one 18 (.one 20 (.done))))) (.one 16 (.both 1 (.one 17 (.one 18 (.one 20 (.done)))) (.one 17 (.take [1] true (.one 18 (.one 20 (.done)))))))))))) (.one 14 (.both 1 (.one 7 (.one 15 (.one 16 (.one 17 (.one 18 (.one 20 (.done))))))) (.one 7 (.both 1 (.one 15 (.one 16 (.one 17 (.one 18 (.one 20 (.done)))))) (.one 15 (.both 1 (.one 16 (.one 17 (.one 18 (.one 20 (.done))))) (.one 16 (.both 1 (.one 17 (.one 18 (.one 20 (.done)))) (.one 17 (.take [1] true (.one 18 (.one 20 (.done)))))))))))))))) (.one 14 (.both 1 (.one 5 (.take [6] false (.one 7 (.one 15 (.one 16 (.one 17 (.one 18 (.one 20 (.done))))))))) (.one 5 (.take [6] false (.both 1 (.one 7 (.one 15 (.one 16 (.one 17 (.one 18 (.one 20 (.done))))))) (.one 7 (.both 1 (.one 15 (.one 16 (.one 17 (.one 18 (.one 20 (.done)))))) (.one 15 (.both 1 (.one 16 (.one 17 (.one 18 (.one 20 (.done))))) (.one 16 (.both 1 (.one 17 (.one 18 (.one 20 (.done)))) (.one 17 (.take [1] true (.one 18 (.one 20 (.done))))))))))))))))))⟩,⟨20,.take [0,1,3,6,7,8,9,10,13,14] false (.both 2 (.both 4 (.both 5 (.one 11 (.one 12 (.take [16] false (.one 15 (.done))))) (.one 11 (.one 5 (.one 12 (.take [16] false (.one 15 (.done))))))) (.one 11 (.one 4 (.one 5 (.one 12 (.take [16] false (.one 15 (.done)))))))) (.both 4 (.both 2 (.both 5 (.one 11 (.one 12 (.take [16] false (.one 15 (.done))))) (.one 11 (.one 5 (.one 12 (.take [16] false (.one 15 (.done))))))) (.one 11 (.one 2 (.one 5 (.one 12 (.take [16] false (.one 15 (.done)))))))) (.one 11 (.both 2 (.one 4 (.one 5 (.one 12 (.take [16] false (.one 15 (.done)))))) (.one 4 (.one 2 (.one 5 (.one 12 (.take [16] false (.one 15 (.done)))))))))))⟩]
theorem Gg{cnt:Int}(hk:k+600<1000000)(hn:nums.length<1152921504606846976)(c5:1<=cnt/\cnt<=6)(hb:bj c nums k σ)(h:∀(w:cH) (own lost:acp) σ',NW cnt w own lost->pn c nums (k+600) σ σ'->KF (.val (.cB [eo w,ints own,ints lost])) σ'):aA prog m 9 [.ref c 0,int cnt] σ KF:=by
 obtain⟨n0,s0,_,fi⟩:=id hb;refine fs Zx 2 Tryz.func9 rfl rfl (by rfl) (by kernel_rfl) ?_
 simp[Tryz.f9];refine bR.intro λL h4=>?_
 have n4:c≠L:=λe=>by simp_all
 have al:∀x,bj c nums k (σ.set L x):=λx=>⟨n0,s0,by assumption,by rw[aa.ai _ _ n4];exact fi⟩
 simp;refine cf Tryz.func40 rfl (JH (by omega) hn c5 (al _) λf Y eg hS b2=>?_)
 refine ab.runN lay [] 6 ?_;simp;refine bR.intro λc7 h7=>?_
 simp[aJ]
 change ab _ _ _ _ _ _ _ _ _
 refine ab.bC 7 (b:=c7) (dB f) (aa.ak _ _ _) (by simp) rfl ?_
 rw[fe h7];clear h7;refine rn ?_;simp;refine bR.intro λK h9=>?_
 have u4:eg L=some (.cells [.nil,.nil,int 0,int 0,int 0,int 0,int 0,.nil,.nil]):=by rw[b2.2 L (za n4),aa.ak]
 have n9:K≠c:=λe=>by subst e;obtain⟨_,_,_,q⟩:=b2.1;simp_all
 have a7:K≠L:=λe=>by simp_all
 simp[aJ]
 have V:∀X,bj c nums (k+500) (eg.set K X):=λX=>by obtain⟨n,z,g1,g2⟩:=b2.1;exact⟨n,z,g1,by rw[aa.ai _ _ (za n9)];exact g2⟩
 refine cf Tryz.func20 rfl (vZ (by omega) hn (by omega) (V _) λon R b3=>?_)
 refine ab.runN lay [] 3 ?_;simp;obtain⟨M,hM⟩:∃M:Int,M=if on=true then 6 else f.aX:=⟨_,rfl⟩
 apply PA
 . intro key
   have v9:R K=some (.cells [.nil,rows f.roads,int f.aR,int f.eS,int f.cQ,int f.aX,int 0,.nil,.nil]):=by rw[b3.2 K n9,aa.ak]
   have v4:R L=some (.cells [.nil,.nil,int 0,int 0,int 0,int 0,int 0,.nil,.nil]):=by rw[b3.2 L (za n4),aa.ai _ _ (za a7)];exact u4
   have vk:∀y,y≠c->y≠L->y≠K->R y=σ y:=λy y1 y2 y3=>by rw[b3.2 y y1,aa.ai _ _ y3,b2.2 y y1,aa.ai _ _ y2]
   cases on with
   | false=>
     simp;refine ab.runN lay [] 1 ?_;simp;refine ab.jL (λenv σ'=>env 0=.ref c 0/\env 7=.cp (dB f) 0/\env 8=ints Y/\env 4=.ref L 0/\env 9=.ref K 0/\bj c nums (k+501) σ'/\σ' L=some (.cells [.nil,.nil,int 0,int 0,int 0,int 0,int 0,.nil,.nil])/\σ' K=some (.cells [.nil,rows f.roads,int f.aR,int f.eS,int f.cQ,int M,int 0,.nil,.nil])/\∀y,y≠c->y≠L->y≠K->σ' y=σ y) ?_ ?_
     . exact⟨by simp,by simp,by simp,by simp,by simp,b3.1,v4,by rw[hM];exact v9,vk⟩
     . exact key
   | true=>
     simp;refine ab.runN lay [] 5 ?_;simp[v9,aJ];obtain⟨n,z,g1,g2⟩:=b3.1;refine ab.jL (λenv σ'=>env 0=.ref c 0/\env 7=.cp (dB f) 0/\env 8=ints Y/\env 4=.ref L 0/\env 9=.ref K 0/\bj c nums (k+501) σ'/\σ' L=some (.cells [.nil,.nil,int 0,int 0,int 0,int 0,int 0,.nil,.nil])/\σ' K=some (.cells [.nil,rows f.roads,int f.aR,int f.eS,int f.cQ,int M,int 0,.nil,.nil])/\∀y,y≠c->y≠L->y≠K->σ' y=σ y) ?_ ?_
     . exact⟨by simp,by simp,by simp,by simp,by simp,⟨n,z,g1,by rw[aa.ai _ _ (za n9)];exact g2⟩,by rw[aa.ai _ _ (za a7)];exact v4,by rw[hM];exact aa.ak _ _ _,λy y1 y2 y3=>by rw[aa.ai _ _ y3];exact vk y y1 y2 y3⟩
     . exact key
 have fl:f.aX<=M/\M<=6:=by have:=hS.qO.aX;omega
 have s9:σ K=none:=by rw[<-h9,b2.2 K n9,aa.ai _ _ a7]
 rintro env ej ⟨u,v,A,B,D,b9,u4,u9,fp⟩
 refine rn ?_;simp[u,v,A,B,D,u9];refine cf Tryz.func19 rfl (eH (by omega) hn (by omega) (by omega) b9 λT bm hT a8=>?_)
 have ft:1<=T/\T<=4:=by omega
 have v9:bm K=some (.cells [.nil,rows f.roads,int f.aR,int f.eS,int f.cQ,int M,int 0,.nil,.nil]):=by rw[a8.2 K n9];exact u9
 refine rn ?_;simp[u,v,A,B,D,v9,aJ]
 have fu:∀X,bj c nums (k+502) (bm.set K X):=λX=>by obtain⟨n,z,g1,g2⟩:=a8.1;exact⟨n,z,by omega,by rw[aa.ai _ _ (za n9)];exact g2⟩
 refine cf Tryz.func18 rfl (fa (by omega) hn (by omega) (fu _) λx a9 hx bw=>?_)
 have gx:0<=x/\x<=5:=by omega
 obtain⟨X,hX⟩:∃X:Nat,(X:Int)=x:=⟨x.toNat,by omega⟩
 refine rn ?_;simp[u,v,A,B,D,v9]
 have ep:(σ.del c).Le a9:=λy z hy=>by
  have y1:y≠c:=λe=>by subst e;simp[aa.del]at hy
  have y0:σ y=some z:=by simpa[aa.del,y1]using hy
  have y4:y≠L:=λe=>by simp_all
  have y9:y≠K:=λe=>by simp_all
  rw[bw.2 y y1,aa.ai _ _ y9,a8.2 y y1,fp y y1 y4 y9];exact y0
 have et:nR (σ.del c) a9 [(.nil,5,([]:List Way).map jH)]:=⟨ep,λt q=>by rw[List.mem_singleton.1 q];exact⟨ep,.inl ⟨rfl,rfl⟩⟩,List.pairwise_singleton _ _⟩
 have ev:bj c nums (k+503+7*0) a9:=bw.1.mono (by omega)
 refine PA (P:=?P2) (λkey=>?f2) ?p2
 case f2=>
  refine ab.loop X (λj s=>∃env σ' aw ws,s=⟨env,σ',[],.no⟩/\(env 0=.ref c 0/\env 7=.cp (dB f) 0/\env 8=ints Y/\env 4=.ref L 0/\env 9=.ref K 0/\env 10=int (X-j))/\bj c nums (k+503+7*j) σ'/\σ' L=some (.cells [.nil,.nil,int 0,int 0,int 0,int 0,int 0,.nil,.nil])/\σ' K=some (.cells [.nil,rows f.roads,int f.aR,int f.eS,int f.cQ,int M,int T,aw,.nil])/\nR (σ.del c) σ' [(aw,5,(ws:List Way).map jH)]/\ws.length<=j/\∀x∈ws,oP T x=0) ?_ ?_
  . exact⟨_,_,.nil,[],rfl,⟨by simp[u,v,A,B,D,v9],by simp[u,v,A,B,D,v9],by simp[u,v,A,B,D,v9],by simp[u,v,A,B,D,v9],by simp[u,v,A,B,D,v9],by simp[hX]⟩,ev,by rw[bw.2 L (za n4),aa.ai _ _ (za a7),a8.2 L (za n4)];exact u4,by rw[bw.2 K n9,aa.ak],et,by simp,by simp⟩
  rintro c0 j _ hj ⟨env,σ',aw,ws,rfl,⟨u,v,A,B,D,bK⟩,bx,q4,G,N,fv,b4⟩ ih
  have J:=N.head.cells;refine rn ?_;simp[u,v,A,B,D,bK,G,J.1,J.2];refine uX.intro (λg1=>?_) (λg1=>?_)<;>(try simp[-Int.not_lt,-Int.not_le,-Nat.not_lt,-Nat.not_le]at g1)<;>(try simp[u,v,A,B,D,bK,G,J.1,J.2,g1])
  rotate_left
  . have cb:k+503+7*j<=k+540:=by omega
    have cg:ws.length<=5:=by omega
    refine ab.jL (λenv σ'=>∃aw ws,env 0=.ref c 0/\env 7=.cp (dB f) 0/\env 8=ints Y/\env 4=.ref L 0/\env 9=.ref K 0/\env 11=.nil/\env 12=.nil/\env 13=int 0/\bj c nums (k+540) σ'/\σ' L=some (.cells [.nil,.nil,int 0,int 0,int 0,int 0,int 0,.nil,.nil])/\σ' K=some (.cells [.nil,rows f.roads,int f.aR,int f.eS,int f.cQ,int M,int T,aw,.nil])/\nR (σ.del c) σ' [(aw,5,(ws:List Way).map jH)]/\ws.length<=5/\∀x∈ws,oP T x=0) ?_ ?_
    . exact⟨aw,ws,by simp[u,v,A,B,D,bK,G,J.1,J.2],by simp[u,v,A,B,D,bK,G,J.1,J.2],by simp[u,v,A,B,D,bK,G,J.1,J.2],by simp[u,v,A,B,D,bK,G,J.1,J.2],by simp[u,v,A,B,D,bK,G,J.1,J.2],by simp,by simp,by simp,bx.mono cb,q4,G,N,cg,b4⟩
    . exact key
  refine aG.intro (λg2=>?_) (λg2=>?_)<;>(try simp[-Int.not_lt,-Int.not_le,-Nat.not_lt,-Nat.not_le]at g2)<;>(try simp[u,v,A,B,D,bK,G,J.1,J.2,g2])
  rotate_left
  . have cb:k+503+7*j<=k+540:=by omega
    have cg:ws.length<=5:=by omega
    refine ab.jL (λenv σ'=>∃aw ws,env 0=.ref c 0/\env 7=.cp (dB f) 0/\env 8=ints Y/\env 4=.ref L 0/\env 9=.ref K 0/\env 11=.nil/\env 12=.nil/\env 13=int 0/\bj c nums (k+540) σ'/\σ' L=some (.cells [.nil,.nil,int 0,int 0,int 0,int 0,int 0,.nil,.nil])/\σ' K=some (.cells [.nil,rows f.roads,int f.aR,int f.eS,int f.cQ,int M,int T,aw,.nil])/\nR (σ.del c) σ' [(aw,5,(ws:List Way).map jH)]/\ws.length<=5/\∀x∈ws,oP T x=0) ?_ ?_
    . exact⟨aw,ws,by simp[u,v,A,B,D,bK,G,J.1,J.2],by simp[u,v,A,B,D,bK,G,J.1,J.2],by simp[u,v,A,B,D,bK,G,J.1,J.2],by simp[u,v,A,B,D,bK,G,J.1,J.2],by simp[u,v,A,B,D,bK,G,J.1,J.2],by simp,by simp,by simp,bx.mono cb,q4,G,N,cg,b4⟩
    . exact key
  apply yG (I:=λenv F=>∃a' x,env 0=.ref c 0/\env 7=.cp (dB f) 0/\env 8=ints Y/\env 4=.ref L 0/\env 9=.ref K 0/\env 10=int (X-j)/\oP T x=0/\bj c nums (k+503+7*j+7) F/\F L=some (.cells [.nil,.nil,int 0,int 0,int 0,int 0,int 0,.nil,.nil])/\F K=some (.cells [.nil,rows f.roads,int f.aR,int f.eS,int f.cQ,int M,int T,a',.nil])/\nR (σ.del c) F [(a',5,(ws.map jH)++[jH x])])
  . intro Z
    repeat' (first
              |apply And.intro
              | (refine cf Tryz.func21 rfl (WY.NS (by omega) hn (by omega) bx λx R cm hd=>?_)
                 have cv:∃l,σ' c=some (.cells l):=by obtain⟨_,_,_,q⟩:=bx;exact⟨_,q⟩
                 have O:=N.OT (by simp[aa.del]) cv hd.2
                 have ey:=O.head.cells;have r9:R K=some (.cells [.nil,rows f.roads,int f.aR,int f.eS,int f.cQ,int M,int T,aw,.nil]):=by rw[hd.2 K n9];exact G
                 have r4:R L=some (.cells [.nil,.nil,int 0,int 0,int 0,int 0,int 0,.nil,.nil]):=by rw[hd.2 L (za n4)];exact q4
                 refine pg ?_;simp[u,v,A,B,D,bK,r9,ey.1,ey.2])
              | (refine aK lay rfl rfl rfl Rf rfl Rf rfl Ui (by decide) (by simp;omega) (σ0:=R.off aw) (es:=ws.map jH) (xs:=[jH x]) (by simpa using O.head.here.1) (.inr ⟨_,by simp;rfl⟩) λa' ej av=>?_
                 obtain⟨ay,k3⟩:=O.app av;have H:=ay.head.cells;have t9:=k3 _ _ r9;have t4:=k3 _ _ r4;refine pg ?_;simp[u,v,A,B,D,bK,t9,H.1,H.2,aJ];obtain⟨nb,zb,al,V⟩:=hd.1;have tc:=k3 _ _ V;refine Z _ _ ⟨a',x,by simp[u],by simp[v],by simp[A],by simp[B],by simp[D],by simp[bK],cm,⟨nb,zb,al,by rw[aa.ai _ _ (za n9)];exact tc⟩,by rw[aa.ai _ _ (za a7)];exact t4,aa.ak _ _ _,?_⟩
                 exact (ay.OT (by simp[aa.del,n9,s9]) ⟨_,t9⟩ λy hy=>aa.ai _ _ hy)))
  clear u v A B D bK env
  rintro env R ⟨a',x,u,v,A,B,D,bK,cm,V,r4,r9,O⟩
  refine rn ?_;simp[u,v,A,B,D,bK];have r1:-9223372036854775808<=(X:Int)-j-1/\(X:Int)-j-1<=9223372036854775807:=by omega
  refine⟨r1,ih _ g1 ⟨_,_,a',ws++[x],rfl,⟨by simp[u,v,A,B,D,bK],by simp[u,v,A,B,D,bK],by simp[u,v,A,B,D,bK],by simp[u,v,A,B,D,bK],by simp[u,v,A,B,D,bK],?_⟩,?_,r4,r9,?_,?_,?_⟩⟩
  . simp;omega
  . omega
  . simpa using O
  . simp;omega
  . intro y hy
    rcases List.mem_append.1 hy with q|q
    . exact b4 y q
    . rw[List.mem_singleton.1 q];exact cm
 case p2=>
 clear u v A B D env
 rintro env bA ⟨aw,ws,u,v,A,B,D,bG,cD,r,eA,eB,dj,U,fv,b4⟩
 obtain⟨S,dm⟩:∃S:Int->Int,S=λi=>Y.getD i.toNat 0:=⟨_,rfl⟩
 have h6:=hS.qO.qB;have gA:=hS.len;have gB:Y.length=f.aD.length:=by obtain⟨_,_,_,_,q,_⟩:=hS.seen;exact q.len
 have fw:∀e∈f.aD,0<=e.hour/\e.hour<=72:=λe he=>(o6 (hS.qO.te e he)).1
 refine rn ?_;simp[u,v,A,B,D,bG,cD,r,dj];have b5:=U.1
 have b6:nR (σ.del c) bA [(.nil,6,(([]:acp).map (aQ f)).map br),(.nil,8,([]:List Jq).map fW),(.nil,1,(([]:acp).map S).map int),(.nil,1,(([]:acp).map S).map int),(aw,5,ws.map jH)]:=by
  have n0:∀kk,Tok (σ.del c) bA .nil kk []:=λkk=>⟨b5,.inl ⟨rfl,rfl⟩⟩
  refine⟨b5,λt q=>?_,?_⟩
  . simp at q
    rcases q with rfl|rfl|rfl|rfl
    . exact n0 6
    . exact n0 8
    . exact n0 1
    . exact U.head
  . simp[bp]
 refine ab.loop f.aD.length (λi s=>∃env σ' aE aC aO aL E C cs,s=⟨env,σ',[],.no⟩/\(env 0=.ref c 0/\env 7=.cp (dB f) 0/\env 8=ints Y/\env 4=.ref L 0/\env 9=.ref K 0/\env 11=aO/\env 12=aL/\env 13=int i)/\bj c nums (k+540+3*i) σ'/\σ' L=some (.cells [.nil,.nil,int 0,int 0,int 0,int 0,int 0,.nil,.nil])/\σ' K=some (.cells [aE,rows f.roads,int f.aR,int f.eS,int f.cQ,int M,int T,aw,aC])/\nR (σ.del c) σ' [(aE,6,((E:acp).map (aQ f)).map br),(aC,8,(cs:List Jq).map fW),(aO,1,(E.map S).map int),(aL,1,((C:acp).map S).map int),(aw,5,ws.map jH)]/\E.length+C.length=i/\(∀x∈E++C,0<=x/\x<f.aD.length)/\cs.map (·.lost)=C.map (aQ f)/\cs.length<=3/\∀x∈cs,(0<=x.town/\x.town<T)/\(0<=x.hour/\x.hour<=72)/\x.lost.hour<=x.hour) ?_ ?_
 . refine⟨_,_,.nil,.nil,.nil,.nil,[],[],[],rfl,?_,eA,eB,dj,b6,rfl,by simp,rfl,by simp,by simp⟩
   simp_all
 clear b6 U b5 eB dj eA u v A B D bG cD r env
 rintro c0 i _ hi ⟨env,σ',aE,aC,aO,aL,E,C,cs,rfl,⟨u,v,A,B,D,bG,cD,r⟩,dr,q4,G,N,gC,bB,dx,eK,dy⟩ ih
 have g:=N.head.cells;have o:aC.cells=[aC]/\aC.flat=true:=(N.2.1 (aC,8,cs.map fW) (by simp)).cells
 have p:aO.cells=[aO]/\aO.flat=true:=(N.2.1 (aO,1,(E.map S).map int) (by simp)).cells
 have d:aL.cells=[aL]/\aL.flat=true:=(N.2.1 (aL,1,(C.map S).map int) (by simp)).cells
 have fx:∀l,(aC,8,cs.map fW)=l->True:=λ_ _=>trivial
 refine ab.runN lay [] 20 ?_;simp[u,v,A,B,D,bG,cD,r,G,g.1,g.2,o.1,o.2,p.1,p.2,d.1,d.2];refine aG.intro (λg1=>?_) (λg1=>?_)<;>(try simp[-Int.not_lt,-Int.not_le,-Nat.not_lt,-Nat.not_le]at g1)<;>(try simp[u,v,A,B,D,bG,cD,r,G,g.1,g.2,o.1,o.2,p.1,p.2,d.1,d.2,g1])
 . refine ab.runN lay [] 2 ?_
   simp[u,v,A,B,D,bG,cD,r,G,g.1,g.2,o.1,o.2,p.1,p.2,d.1,d.2];refine bR.intro λfO eN=>?_
   simp[u,v,A,B,D,bG,cD,r,G,g.1,g.2,o.1,o.2,p.1,p.2,d.1,d.2,aJ]
   change ab _ _ _ _ _ _ _ _ _
   refine ab.bC 14 (b:=fO) (br f.aD[i]) (aa.ak _ _ _) (by simp) rfl ?_
   rw[fe eN];have gD:=fw _ (zD g1);have eR:aQ f i=f.aD[i]:=by simp[aQ,g1]
   generalize f.aD[i]=e at *;clear eN;refine rn ?_;simp[u,v,A,B,D,bG,cD,r,G,g.1,g.2,o.1,o.2,p.1,p.2,d.1,d.2];refine cf Tryz.func20 rfl (vZ (by omega) hn (by omega) dr λon R b0=>?_)
   have cv:∃l,σ' c=some (.cells l):=by obtain⟨_,_,_,q⟩:=dr;exact⟨_,q⟩
   have O:=N.OT (by simp[aa.del]) cv b0.2
   have r9:R K=some (.cells [aE,rows f.roads,int f.aR,int f.eS,int f.cQ,int M,int T,aw,aC]):=by rw[b0.2 K n9];exact G
   have r4:R L=some (.cells [.nil,.nil,int 0,int 0,int 0,int 0,int 0,.nil,.nil]):=by rw[b0.2 L (za n4)];exact q4
   have eW:=(O.2.1 (aC,8,cs.map fW) (by simp)).Qz
   refine PA (P:=?P3) (λkey=>?f3) ?p3
   case f3 =>
    have gd:∀b,b=decide ((cs.length:Int)<3)->b=true->cs.length<3:=λb q1 q2=>by rw[q1]at q2;have:=of_decide_eq_true q2;clear key;omega
    cases on with
    | false=>
      refine ab.runN lay [] 7 ?_;simp[u,v,A,B,D,bG,cD,r,G,g.1,g.2,o.1,o.2,p.1,p.2,d.1,d.2];refine ab.jL (λenv F=>R=F/\env 0=.ref c 0/\env 7=.cp (dB f) 0/\env 8=ints Y/\env 4=.ref L 0/\env 9=.ref K 0/\env 11=aO/\env 12=aL/\env 13=int i/\env 14=.cp (br e) 0/\∃b,env 71=bool b/\(b=true->cs.length<3)) ?_ ?_
      . exact⟨rfl,by simp[u,v,A,B,D,bG,cD,r,G,g.1,g.2,o.1,o.2,p.1,p.2,d.1,d.2],by simp[u,v,A,B,D,bG,cD,r,G,g.1,g.2,o.1,o.2,p.1,p.2,d.1,d.2],by simp[u,v,A,B,D,bG,cD,r,G,g.1,g.2,o.1,o.2,p.1,p.2,d.1,d.2],by simp[u,v,A,B,D,bG,cD,r,G,g.1,g.2,o.1,o.2,p.1,p.2,d.1,d.2],by simp[u,v,A,B,D,bG,cD,r,G,g.1,g.2,o.1,o.2,p.1,p.2,d.1,d.2],by simp[u,v,A,B,D,bG,cD,r,G,g.1,g.2,o.1,o.2,p.1,p.2,d.1,d.2],by simp[u,v,A,B,D,bG,cD,r,G,g.1,g.2,o.1,o.2,p.1,p.2,d.1,d.2],by simp[u,v,A,B,D,bG,cD,r,G,g.1,g.2,o.1,o.2,p.1,p.2,d.1,d.2],by simp[u,v,A,B,D,bG,cD,r,G,g.1,g.2,o.1,o.2,p.1,p.2,d.1,d.2],false,by simp,by simp⟩
      . exact key
    | true=>
      rcases eW with ⟨q1,q2⟩|⟨sp,q1⟩
      . change aC=_ at q1
        rw[q1]at r9;refine ab.runN lay [] 7 ?_;simp[u,v,A,B,D,bG,cD,r,G,g.1,g.2,o.1,o.2,p.1,p.2,d.1,d.2,r9];refine ab.jL (λenv F=>R=F/\env 0=.ref c 0/\env 7=.cp (dB f) 0/\env 8=ints Y/\env 4=.ref L 0/\env 9=.ref K 0/\env 11=aO/\env 12=aL/\env 13=int i/\env 14=.cp (br e) 0/\∃b,env 71=bool b/\(b=true->cs.length<3)) ?_ ?_
        . have hz:cs.length<3:=by
           cases cs with
           |nil=>exact (by decide)
           |cons a l=>cases q2
          exact⟨rfl,by simp[u,v,A,B,D,bG,cD,r,G,g.1,g.2,o.1,o.2,p.1,p.2,d.1,d.2],by simp[u,v,A,B,D,bG,cD,r,G,g.1,g.2,o.1,o.2,p.1,p.2,d.1,d.2],by simp[u,v,A,B,D,bG,cD,r,G,g.1,g.2,o.1,o.2,p.1,p.2,d.1,d.2],by simp[u,v,A,B,D,bG,cD,r,G,g.1,g.2,o.1,o.2,p.1,p.2,d.1,d.2],by simp[u,v,A,B,D,bG,cD,r,G,g.1,g.2,o.1,o.2,p.1,p.2,d.1,d.2],by simp[u,v,A,B,D,bG,cD,r,G,g.1,g.2,o.1,o.2,p.1,p.2,d.1,d.2],by simp[u,v,A,B,D,bG,cD,r,G,g.1,g.2,o.1,o.2,p.1,p.2,d.1,d.2],by simp[u,v,A,B,D,bG,cD,r,G,g.1,g.2,o.1,o.2,p.1,p.2,d.1,d.2],by simp[u,v,A,B,D,bG,cD,r,G,g.1,g.2,o.1,o.2,p.1,p.2,d.1,d.2],true,by simp,λ_=>hz⟩
        . exact key
      . change aC=_ at q1
        rw[q1]at r9;refine ab.runN lay [] 7 ?_;simp[u,v,A,B,D,bG,cD,r,G,g.1,g.2,o.1,o.2,p.1,p.2,d.1,d.2,r9];refine ab.jL (λenv F=>R=F/\env 0=.ref c 0/\env 7=.cp (dB f) 0/\env 8=ints Y/\env 4=.ref L 0/\env 9=.ref K 0/\env 11=aO/\env 12=aL/\env 13=int i/\env 14=.cp (br e) 0/\∃b,env 71=bool b/\(b=true->cs.length<3)) ?_ ?_
        . exact⟨rfl,by simp[u,v,A,B,D,bG,cD,r,G,g.1,g.2,o.1,o.2,p.1,p.2,d.1,d.2],by simp[u,v,A,B,D,bG,cD,r,G,g.1,g.2,o.1,o.2,p.1,p.2,d.1,d.2],by simp[u,v,A,B,D,bG,cD,r,G,g.1,g.2,o.1,o.2,p.1,p.2,d.1,d.2],by simp[u,v,A,B,D,bG,cD,r,G,g.1,g.2,o.1,o.2,p.1,p.2,d.1,d.2],by simp[u,v,A,B,D,bG,cD,r,G,g.1,g.2,o.1,o.2,p.1,p.2,d.1,d.2],by simp[u,v,A,B,D,bG,cD,r,G,g.1,g.2,o.1,o.2,p.1,p.2,d.1,d.2],by simp[u,v,A,B,D,bG,cD,r,G,g.1,g.2,o.1,o.2,p.1,p.2,d.1,d.2],by simp[u,v,A,B,D,bG,cD,r,G,g.1,g.2,o.1,o.2,p.1,p.2,d.1,d.2],by simp[u,v,A,B,D,bG,cD,r,G,g.1,g.2,o.1,o.2,p.1,p.2,d.1,d.2],decide ((cs.length:Int)<3),by simp,gd _ rfl⟩
        . exact key
   case p3=>
   clear u v A B D bG cD r env eW
   rintro env _ ⟨rfl,u,v,A,B,D,bG,cD,r,JL,b,QW,b9⟩
   have rT:-9223372036854775808<=T-1/\T-1<=9223372036854775807:=by omega
   have rh:-9223372036854775808<=e.hour+6/\e.hour+6<=9223372036854775807:=by omega
   have gG:E.length<=i/\C.length<=i:=by omega
   cases b with
   | true=>
     have b9:=b9 rfl
     apply yG (I:=λenv F=>∃a' nc,env 0=.ref c 0/\env 7=.cp (dB f) 0/\env 8=ints Y/\env 4=.ref L 0/\env 9=.ref K 0/\env 11=aO/\env 12=aL/\env 13=int i/\bj c nums (k+540+3*i+3) F/\F L=some (.cells [.nil,.nil,int 0,int 0,int 0,int 0,int 0,.nil,.nil])/\F K=some (.cells [aE,rows f.roads,int f.aR,int f.eS,int f.cQ,int M,int T,aw,a'])/\nR (σ.del c) F [(a',8,cs.map fW++[fW nc]),(aE,6,(E.map (aQ f)).map br),(aO,1,(E.map S).map int),(aL,1,(C.map S).map int),(aw,5,ws.map jH)]/\nc.lost=e/\(0<=nc.town/\nc.town<T)/\(0<=nc.hour/\nc.hour<=72)/\nc.lost.hour<=nc.hour)
     . intro Z
       refine rn ?_;simp[u,v,A,B,D,bG,cD,r,JL,QW,r9,g.1,g.2,o.1,o.2,rT.1,rT.2,rh.1,rh.2]
       repeat' (first
                 |apply And.intro
                 | (refine cf Tryz.func18 rfl (fa (by omega) hn (by omega) b0.1 λy1 ej gH b7=>?_)
                    have ay:=O.OT (by simp[aa.del]) (by obtain⟨_,_,_,q⟩:=b0.1;exact⟨_,q⟩) b7.2
                    have v9:=(b7.2 K n9).trans r9;have v4:=(b7.2 L (za n4)).trans r4;refine pg ?_;simp[u,v,A,B,D,bG,cD,r,JL,r9,v9,g.1,g.2,o.1,o.2,rT.1,rT.2,rh.1,rh.2])
                 | (refine cf Tryz.func19 rfl (eH (by omega) hn (by omega) ⟨by split<;>omega,by split<;>omega⟩ b7.1 λy2 bm gf a8=>?_)
                    have eX:=ay.OT (by simp[aa.del]) (by obtain⟨_,_,_,q⟩:=b7.1;exact⟨_,q⟩) a8.2
                    have x9:=(a8.2 K n9).trans v9;have x4:=(a8.2 L (za n4)).trans v4;refine pg ?_;simp[u,v,A,B,D,bG,cD,r,JL,x9,g.1,g.2,o.1,o.2,aJ])
                 | (have hp:=eX.perm (List.Perm.swap (aC,8,cs.map fW) _ _)
                    refine aK lay rfl rfl rfl It rfl It rfl Rg (by decide) (by simp;omega) (σ0:=bm.off aC) (es:=cs.map fW) (xs:=[fW ⟨e,y1,y2⟩]) (by simpa using hp.head.here.1) (.inr ⟨.exact,by simp[aJ]⟩) λa' a9 av=>?_
                    obtain⟨Q,k5⟩:=hp.app av;have H:=Q.head.cells;have t9:=k5 _ _ x9;have t4:=k5 _ _ x4;refine pg ?_;simp[u,v,A,B,D,bG,cD,r,JL,t9,H.1,H.2,aJ];obtain⟨nb,zb,al,V⟩:=a8.1;have tc:=k5 _ _ V
                    refine Z _ _ ⟨a',⟨e,y1,y2⟩,by simp[u],by simp[v],by simp[A],by simp[B],by simp[D],by simp[bG],by simp[cD],by simp[r],⟨nb,zb,by omega,by rw[aa.ai _ _ (za n9)];exact tc⟩,by rw[aa.ai _ _ (za a7)];exact t4,aa.ak _ _ _,Q.OT (by simp[aa.del,n9,s9]) ⟨_,t9⟩ λy hy=>aa.ai _ _ hy,rfl,by simp only;omega,?_,?_⟩
                    . simp only;revert gf;split<;>omega
                    . simp only;omega))
     clear u v A B D bG cD r JL QW env
     rintro env a9 ⟨a',nc,u,v,A,B,D,bG,cD,r,ea,eb,ec,Q,gj,gI,gP,gR⟩
     have b1:i<Y.length:=by omega
     have H:=Q.head.cells;refine rn ?_;simp[u,v,A,B,D,bG,cD,r,H.1,H.2,d.1,d.2,b1];have hp:=Q.perm (abq (a:=(aL,1,(C.map S).map int)) (l₁:=[(a',8,cs.map fW++[fW nc]),(aE,6,(E.map (aQ f)).map br),(aO,1,(E.map S).map int)]) (l₂:=[(aw,5,ws.map jH)]));have b8:S (i:Int)=Y[i]:=by rw[dm];simp[b1]
     refine aK lay rfl rfl rfl dh rfl dh rfl qM (by decide) (by simp;omega) (σ0:=a9.off aL) (es:=(C.map S).map int) (xs:=[int Y[i]]) (by simpa using hp.head.here.1) (.inr ⟨_,rfl⟩) λfc bA av=>?_
     obtain⟨U,k6⟩:=hp.app av;have c6:=U.head.cells;have t9:=k6 _ _ ec;have t4:=k6 _ _ eb;refine rn ?_;simp[u,v,A,B,D,bG,cD,r,H.1,H.2,d.1,d.2,c6.1,c6.2];obtain⟨nb,zb,al,V⟩:=ea;have tc:=k6 _ _ V;have ed:=U.perm ((abq (a:=(fc,1,(C.map S).map int++[int Y[i]])) (l₁:=[(a',8,cs.map fW++[fW nc]),(aE,6,(E.map (aQ f)).map br),(aO,1,(E.map S).map int)]) (l₂:=[(aw,5,ws.map jH)])).symm.trans (List.Perm.swap _ _ _))
     refine⟨by omega,ih _ g1 ⟨_,_,aE,a',aO,fc,E,C++[(i:Int)],cs++[nc],rfl,?_,⟨nb,zb,by omega,tc⟩,t4,t9,?_,?_,?_,?_,?_,?_⟩⟩
     . exact⟨by simp[u,v,A,B,D,bG,cD,r,H.1,H.2,d.1,d.2],by simp[u,v,A,B,D,bG,cD,r,H.1,H.2,d.1,d.2],by simp[u,v,A,B,D,bG,cD,r,H.1,H.2,d.1,d.2],by simp[u,v,A,B,D,bG,cD,r,H.1,H.2,d.1,d.2],by simp[u,v,A,B,D,bG,cD,r,H.1,H.2,d.1,d.2],by simp[u,v,A,B,D,bG,cD,r,H.1,H.2,d.1,d.2],by simp,by simp⟩
     . simpa[b8]using ed
     . simp;omega
     . intro x hx
       rw[<-List.append_assoc]at hx
       rcases List.mem_append.1 hx with q|q
       . exact bB x q
       . rw[List.mem_singleton.1 q];omega
     . rw[ZI,ZI,dx];simp[gj,eR]
     . simp;omega
     . intro x hx
       rcases List.mem_append.1 hx with q|q
       . exact dy x q
       . rw[List.mem_singleton.1 q];omega
   | false=>
     have b1:i<Y.length:=by omega
     have b8:S (i:Int)=Y[i]:=by rw[dm];simp[b1]
     apply yG (I:=λenv F=>∃ad ax,env 0=.ref c 0/\env 7=.cp (dB f) 0/\env 8=ints Y/\env 4=.ref L 0/\env 9=.ref K 0/\env 11=ax/\env 12=aL/\env 13=int i/\bj c nums (k+540+3*i+3) F/\F L=some (.cells [.nil,.nil,int 0,int 0,int 0,int 0,int 0,.nil,.nil])/\F K=some (.cells [ad,rows f.roads,int f.aR,int f.eS,int f.cQ,int M,int T,aw,aC])/\nR (σ.del c) F [(ax,1,(E.map S).map int++[int Y[i]]),(ad,6,(E.map (aQ f)).map br++[br e]),(aC,8,cs.map fW),(aL,1,(C.map S).map int),(aw,5,ws.map jH)])
     . intro Z
       refine rn ?_;simp[u,v,A,B,D,bG,cD,r,JL,QW,r9,g.1,g.2,p.1,p.2,b1]
       repeat' (first
                 |apply And.intro
                 | (refine aK lay rfl rfl rfl na rfl na rfl ze (by decide) (by simp;omega) (σ0:=R.off aE) (es:=(E.map (aQ f)).map br) (xs:=[br e]) (by simpa using O.head.here.1) (.inr ⟨.exact,by simp⟩) λad a9 av=>?_
                    obtain⟨Q,k5⟩:=O.app av;have H:=Q.head.cells;have t9:=k5 _ _ r9;have t4:=k5 _ _ r4;refine pg ?_;simp[u,v,A,B,D,bG,cD,r,JL,t9,H.1,H.2,p.1,p.2,b1])
                 | (have hp:=Q.perm (abq (a:=(aO,1,(E.map S).map int)) (l₁:=[(ad,6,(E.map (aQ f)).map br++[br e]),(aC,8,cs.map fW)]) (l₂:=[(aL,1,(C.map S).map int),(aw,5,ws.map jH)]))
                    refine aK lay rfl rfl rfl dh rfl dh rfl qM (by decide) (by simp;omega) (σ0:=a9.off aO) (es:=(E.map S).map int) (xs:=[int Y[i]]) (by simpa using hp.head.here.1) (.inr ⟨.exact,by simp⟩) λax bA gl=>?_
                    obtain⟨U,k6⟩:=hp.app gl;have ca:=U.head.cells;have x9:=k6 _ _ t9;have x4:=k6 _ _ t4;refine pg ?_;simp[u,v,A,B,D,bG,cD,r,JL,x9,H.1,H.2,ca.1,ca.2,aJ];obtain⟨nb,zb,al,V⟩:=b0.1;have tc:=k6 _ _ (k5 _ _ V);exact Z _ _ ⟨ad,ax,by simp[u],by simp[v],by simp[A],by simp[B],by simp[D],by simp,by simp[cD],by simp[r],⟨nb,zb,by omega,by rw[aa.ai _ _ (za n9)];exact tc⟩,by rw[aa.ai _ _ (za a7)];exact x4,aa.ak _ _ _,U.OT (by simp[aa.del,n9,s9]) ⟨_,x9⟩ λy hy=>aa.ai _ _ hy⟩))
     clear u v A B D bG cD r JL QW env
     rintro env a9 ⟨ad,ax,u,v,A,B,D,bG,cD,r,ea,eb,ec,Q⟩
     refine rn ?_;simp[u,v,A,B,D,bG,cD,r];have ed:=Q.perm ((abq (a:=(ax,1,(E.map S).map int++[int Y[i]])) (l₁:=[(ad,6,(E.map (aQ f)).map br++[br e]),(aC,8,cs.map fW)]) (l₂:=[(aL,1,(C.map S).map int),(aw,5,ws.map jH)])).symm);refine⟨by omega,ih _ g1 ⟨_,_,ad,aC,ax,aL,E++[(i:Int)],C,cs,rfl,?_,ea.mono (by omega),eb,ec,?_,?_,?_,dx,eK,dy⟩⟩
     . exact⟨by simp[u,v,A,B,D,bG,cD,r],by simp[u,v,A,B,D,bG,cD,r],by simp[u,v,A,B,D,bG,cD,r],by simp[u,v,A,B,D,bG,cD,r],by simp[u,v,A,B,D,bG,cD,r],by simp[u,v,A,B,D,bG,cD,r],by simp[u,v,A,B,D,bG,cD,r],by simp⟩
     . simpa[b8,eR]using ed
     . simp;omega
     . intro x hx
       rcases List.mem_append.1 hx with q|q
       . rcases List.mem_append.1 q with q|q
         . exact bB x (List.mem_append_left _ q)
         . rw[List.mem_singleton.1 q];omega
       . exact bB x (List.mem_append_right _ q)
 . have ei:i=f.aD.length:=by omega
   have fg:aw.cells=[aw]/\aw.flat=true:=(N.2.1 (aw,5,ws.map jH) (by simp)).cells
   simp[u,v,A,B,D,bG,cD,r,G,g.1,g.2,o.1,o.2,p.1,p.2,d.1,d.2,fg.1,fg.2,q4,aa.ai,a7,za a7,aJ];refine rn ?_;simp[u,v,A,B,D,bG,cD,r,G,g.1,g.2,o.1,o.2,p.1,p.2,d.1,d.2];obtain⟨w,hw⟩:∃w:cH,w=⟨⟨E.map (aQ f),f.roads,f.aR,f.eS,f.cQ,M⟩,T,ws,cs⟩:=⟨_,rfl⟩
   have ee:NW cnt w (E.map S) (C.map S):=by subst hw;subst dm;exact PH hS c5.2 bB (by omega) rfl dx rfl rfl rfl rfl fl ft b4 (show ws.length<=6 by omega) eK dy
   obtain⟨nb,zb,al,V⟩:=dr
   have gp:(AV.agg [aE,rows f.roads,int f.aR,int f.eS,int f.cQ,int M,int T,aw,aC]).W (eo w):=by
    subst hw;refine pS rfl λi x y h1 h2=>?_
    match i with
    |0=>cases h1;cases h2;exact N.head.W
    |1=>cases h1;cases h2;exact .refl _
    |2=>cases h1;cases h2;exact .refl _
    |3=>cases h1;cases h2;exact .refl _
    |4=>cases h1;cases h2;exact .refl _
    |5=>cases h1;cases h2;exact .refl _
    |6=>cases h1;cases h2;exact .refl _
    |7=>cases h1;cases h2;exact (N.2.1 (aw,5,ws.map jH) (by simp)).W
    |8=>cases h1;cases h2;exact (N.2.1 (aC,8,cs.map fW) (by simp)).W
    |i+9=>cases h1
   have gw:(AV.cB [.agg [aE,rows f.roads,int f.aR,int f.eS,int f.cQ,int M,int T,aw,aC],aO,aL]).W (.cB [eo w,ints (E.map S),ints (C.map S)]):=by
    refine M5 rfl λi x y h1 h2=>?_
    match i with
    |0=>cases h1;cases h2;exact gp
    |1=>cases h1;cases h2;exact (N.2.1 (aO,1,(E.map S).map int) (by simp)).W
    |2=>cases h1;cases h2;exact (N.2.1 (aL,1,(C.map S).map int) (by simp)).W
    |i+3=>cases h1
   refine .n8 gw (.less (σ':=σ.set c (.cells [ints nums,int nb,.lit (.int .u64 zb)])) (λy x hy=>?_) (.done (h w _ _ _ ee ⟨⟨nb,zb,by omega,aa.ak _ _ _⟩,λy hy=>aa.ai _ _ hy⟩)))
   by_cases y1:y=c
   . subst y1
     rw[aa.ak]at hy;rw[aa.ai _ _ n4,V];exact hy
   . rw[aa.ai _ _ y1]at hy
     have y4:y≠L:=λe=>by subst e;grind
     rw[aa.ai _ _ y4];exact N.1 y x (by simpa[aa.del,y1]using hy)
end WA
end
end
open Go.bQ Go.Conc
variable{m:Mo}{σ:aa}{KF:abT}
theorem JI{n:Int}{b:Nat}(hn:0<=n/\n<=6)(hk:(b:Int)<=n)(h:KF (.val (rows (BR n b))) σ):aA prog m 13 [int n,int b] σ KF:=by
 refine fs [] 2 Tryz.func13 rfl rfl (by rfl) (by kernel_rfl) ?_
 simp[Tryz.f13]
 have hW:(AV.sl 1 [.lit (.slice none 0 0)] .exact).W (rows (eI n b 0)):=Ly rfl (by simp) (by simp_all) (λi a a' P h2=>by
  match i with
  |0=>simp[eI]at P h2;subst P;subst h2;exact fQ 1
  |i+1=>simp at P)
 refine ab.Ew 5 (a':=rows (eI n b 0)) (by simp_all) ?_
 refine ab.loop b (λi s=>∃env p,s=⟨env,p,[],.no⟩/\σ.Le p/\env 0=int n/\env 1=int b/\env 5=rows (eI n b i)/\env 6=int i) ⟨_,σ,rfl,aa.le_refl _,by simp,by simp,by simp,by simp⟩ ?_
 rintro c0 i _ hi ⟨env,t,rfl,y,f,g,d,o⟩ ih
 rcases ZU i b with g1|g1
 . have Q:(i:Int)<b:=by omega
   have I:=pT (n:=n) (k:=b) i (by omega)
   have R:=pU (n:=n) (k:=b) (by omega) i (by omega)
   have J:(eI n b i).length<=117649:=KD R (KD (aav (by omega) (show i<=6 by omega)) (by decide))
   have S:=pU (n:=n) (k:=b) (by omega) (i+1) (by omega)
   have z:(eI n b (i+1)).length<=117649:=KD S (KD (aav (by omega) (show i+1<=6 by omega)) (by decide))
   obtain⟨L,hL⟩:∃L,L=eI n b i:=⟨_,rfl⟩;have v:eI n b (i+1)=L.flatMap (aW n b i):=by rw[hL];rfl
   rw[<-hL]at I J d;rw[v]at z;refine rn ?_;simp[f,g,d,o,Q];refine ab.loop L.length (λx s=>∃env p,s=⟨env,p,[],.no⟩/\env 0=int n/\env 1=int b/\env 5=rows L/\env 6=int i/\env 8=int x/\Tok t p (env 7) 1 (((L.take x).flatMap (aW n b i)).map ints)) ⟨_,t,rfl,by simp[f],by simp[g],by simp[d],by simp[o],by simp,by simpa using Tok.nil t 1⟩ ?_
   clear f g d o
   rintro c1 x _ hx ⟨env,K,rfl,f,g,d,o,r,c⟩ M
   rcases ZU x L.length with g2|g2
   . have Ev:(x:Int)<L.length:=by omega
     obtain⟨l,N⟩:∃l,l=L[x]:=⟨_,rfl⟩;have T:=I l (by grind)
     have aC:=T.len
     have u:(L.take (x+1)).flatMap (aW n b i)=(L.take x).flatMap (aW n b i)++aW n b i l:=by rw[zs g2,aay,<-N];simp
     have av:((L.take x).flatMap (aW n b i)++aW n b i l).length<=117649:=by
      rw[<-u];refine KD (List.Sublist.length_le ?_) z
      have e:L.flatMap (aW n b i)=(L.take (x+1)).flatMap (aW n b i)++(L.drop (x+1)).flatMap (aW n b i):=by rw[<-List.flatMap_append,List.take_append_drop]
      grind
     have U:((L.take x).flatMap (aW n b i)).length+(aW n b i l).length<=117649:=by grind
     have f0:-9223372036854775808<=(x:Int)+1/\(x:Int)+1<=9223372036854775807:=by omega
     have f1:-9223372036854775808<=n-b/\n-b<=9223372036854775807:=by omega
     have O:-9223372036854775808<=n-b+i/\n-b+i<=9223372036854775807:=by omega
     have ax:0<=dD i l:=by
      unfold dD;split
      . omega
      . have B:i-1<l.length:=by omega
        have hm:l.getD (i-1) 0∈l:=by grind
        have:=T.mem _ hm;omega
     refine rn ?_;simp[f,g,d,o,r,g2,<-N];refine aG.intro (λq=>?_) (λq=>?_)<;>simp[-Int.not_lt,-Int.not_le,-Nat.not_lt,-Nat.not_le]at q
     . have B:i-1<l.length:=by omega
       have V:((i:Int)-1).toNat=i-1:=by omega
       have aE:l.getD (i-1) 0=l[i-1]:=by grind
       have ay:=T.mem _ (zD B);have C:dD i l=l[i-1]+1:=by unfold dD;omega
       have f3:-9223372036854775808<=l[i-1]+1/\l[i-1]+1<=9223372036854775807:=by omega
       have f4:-9223372036854775808<=(i:Int)-1/\(i:Int)-1<=9223372036854775807:=by omega
       have A:(0:Int)<=(i:Int)-1/\(i:Int)-1<l.length:=by omega
       simp[f,g,d,o,r,g2,<-N,V,B,f3.1,f3.2,f4.1,f4.2,A.1,A.2];refine⟨by omega,?_⟩
       refine ab.loop (aW n b i l).length (λj s=>∃env p,s=⟨env,p,[],.no⟩/\env 0=int n/\env 1=int b/\env 5=rows L/\env 6=int i/\env 8=int x/\env 10=int (dD i l+j)/\Tok t p (env 7) 1 (((L.take x).flatMap (aW n b i)++(aW n b i l).take j).map ints)) ⟨_,K,rfl,by simp[f],by simp[g],by simp[d],by simp[o],by simp[r],by simp[C],by simpa using c⟩ ?_
       ((
         clear f g d o r c q;have hG:(aW n b i l).length=(n-b+i+1-dD i l).toNat:=by unfold aW;rw[ZE,tk]
         rintro c2 j _ hj ⟨env,w,rfl,f,g,d,o,r,bK,c⟩ D
         have X:=c.cells;have A:-9223372036854775808<=dD i l+j+1/\dD i l+j+1<=9223372036854775807:=by omega
         refine rn ?_;simp[f,g,d,o,r,bK,f1.1,f1.2,O.1,O.2];refine aG.intro (λq=>?_) (λq=>?_)<;>simp[-Int.not_lt,-Int.not_le,-Nat.not_lt,-Nat.not_le]at q
         . have E:j<(aW n b i l).length:=by omega
           have Y:l.length+1<=1000:=by omega
           simp[f,g,d,o,r,bK,g2,<-N];refine cf Tryz.func50 rfl (vn (by omega) λa4 Z F=>?_)
           refine rn ?_;simp[bK];refine jj lay rfl rfl rfl dh rfl dh rfl qM (by decide) (by simp;omega) (σ0:=w) (es:=l.map int) (xs:=[int (dD i l+j)]) (by simpa using F) (.inl (.inr ⟨_,rfl⟩)) (by simp) λa5 a7 G=>?_
           refine ab.Lz (σ0:=w) (es:=l.map int++[int (dD i l+j)]) 52 (by simpa using G) ?_
           refine rn ?_;simp;have N7:=tp (n:=n) (k:=b) (i:=i) (l:=l) (j:=j) q;have a8:((aW n b i l).take j).length<=(aW n b i l).length:=by rw[aai];exact Nat.min_le_right _ _
           refine aK lay rfl rfl rfl nf rfl nf rfl dh (by decide) (by simp only[ZE,Rp,aad];omega) (σ0:=t) (es:=((L.take x).flatMap (aW n b i)++(aW n b i l).take j).map ints) (xs:=[ints (l++[dD i l+j])]) (by simpa using c) (.inr ⟨_,by simp;rfl⟩) λa6 a9 H=>?_
           refine rn ?_;simp[bK,A.1,A.2];refine D _ E ⟨_,_,rfl,by simp[f],by simp[g],by simp[d],by simp[o],by simp[r],by simp;omega,?_⟩
           rw[N7];simpa[ZI]using H
         . rw[vo q]at c
           simp[f,g,d,o,r,f0.1,f0.2];refine M _ g2 ⟨_,_,rfl,by simp[f],by simp[g],by simp[d],by simp[o],by simp,?_⟩
           rw[u];simpa using c))
     . have C:dD i l=0:=by unfold dD;omega
       simp[f,g,d,o,r];refine ab.loop (aW n b i l).length (λj s=>∃env p,s=⟨env,p,[],.no⟩/\env 0=int n/\env 1=int b/\env 5=rows L/\env 6=int i/\env 8=int x/\env 10=int (dD i l+j)/\Tok t p (env 7) 1 (((L.take x).flatMap (aW n b i)++(aW n b i l).take j).map ints)) ⟨_,K,rfl,by simp[f],by simp[g],by simp[d],by simp[o],by simp[r],by simp[C],by simpa using c⟩ ?_
       ((
         clear f g d o r c q;have hG:(aW n b i l).length=(n-b+i+1-dD i l).toNat:=by unfold aW;rw[ZE,tk]
         rintro c2 j _ hj ⟨env,w,rfl,f,g,d,o,r,bK,c⟩ D
         have X:=c.cells;have A:-9223372036854775808<=dD i l+j+1/\dD i l+j+1<=9223372036854775807:=by omega
         refine rn ?_;simp[f,g,d,o,r,bK,f1.1,f1.2,O.1,O.2];refine aG.intro (λq=>?_) (λq=>?_)<;>simp[-Int.not_lt,-Int.not_le,-Nat.not_lt,-Nat.not_le]at q
         . have E:j<(aW n b i l).length:=by omega
           have Y:l.length+1<=1000:=by omega
           simp[f,g,d,o,r,bK,g2,<-N];refine cf Tryz.func50 rfl (vn (by omega) λa4 Z F=>?_)
           refine rn ?_;simp[bK];refine jj lay rfl rfl rfl dh rfl dh rfl qM (by decide) (by simp;omega) (σ0:=w) (es:=l.map int) (xs:=[int (dD i l+j)]) (by simpa using F) (.inl (.inr ⟨_,rfl⟩)) (by simp) λa5 a7 G=>?_
           refine ab.Lz (σ0:=w) (es:=l.map int++[int (dD i l+j)]) 52 (by simpa using G) ?_
           refine rn ?_;simp;have N7:=tp (n:=n) (k:=b) (i:=i) (l:=l) (j:=j) q;have a8:((aW n b i l).take j).length<=(aW n b i l).length:=by rw[aai];exact Nat.min_le_right _ _
           refine aK lay rfl rfl rfl nf rfl nf rfl dh (by decide) (by simp only[ZE,Rp,aad];omega) (σ0:=t) (es:=((L.take x).flatMap (aW n b i)++(aW n b i l).take j).map ints) (xs:=[ints (l++[dD i l+j])]) (by simpa using c) (.inr ⟨_,by simp;rfl⟩) λa6 a9 H=>?_
           refine rn ?_;simp[bK,A.1,A.2];refine D _ E ⟨_,_,rfl,by simp[f],by simp[g],by simp[d],by simp[o],by simp[r],by simp;omega,?_⟩
           rw[N7];simpa[ZI]using H
         . rw[vo q]at c
           simp[f,g,d,o,r,f0.1,f0.2];refine M _ g2 ⟨_,_,rfl,by simp[f],by simp[g],by simp[d],by simp[o],by simp,?_⟩
           rw[u];simpa using c))
   . have ad:x=L.length:=by omega
     subst ad;rw[ZG]at c;refine ab.Ew 7 (a':=rows (eI n b (i+1))) (by rw[v];simpa using c.W) ?_
     have f0:-9223372036854775808<=(i:Int)+1/\(i:Int)+1<=9223372036854775807:=by omega
     refine rn ?_;simp[f,g,d,o,r,f0.1,f0.2];exact ih _ g1 ⟨_,_,rfl,aa.le_trans y c.1,by simp[f,g,d,o,r],by simp[f,g,d,o,r],by simp[f,g,d,o,r],by simp⟩
 . have al:i=b:=by omega
   subst al;refine rn ?_;simp[f,g,d,o];exact .less y (.done h)
theorem yI{w:cH}(f:jA w=0){a b c:acp}(d:∀x∈a,0<=x/\x<=72)(hb:∀x∈b,0<=x/\x<(w.fair.aD.length:Int))(e:∀x∈c,0<=x/\x<(w.az.length:Int)):fA w a b c=0:=by
 have g:a.all (bD · 0 72)=true:=List.all_eq_true.2 λx q=>by have:=d x q;simp only[bD,zj,decide_eq_true_eq];omega
 have h:b.all (bD · 0 (w.fair.aD.length-1))=true:=List.all_eq_true.2 λx q=>by have:=hb x q;simp only[bD,zj,decide_eq_true_eq];omega
 have i:c.all (bD · 0 (w.az.length-1))=true:=List.all_eq_true.2 λx q=>by have:=e x q;simp only[bD,zj,decide_eq_true_eq];omega
 unfold fA
 grind
theorem NX{w:cH}(d:w.Valid)(a:jA w=0){l:acp}(e:∀c∈l,0<=c/\c<(w.az.length:Int))(f:l.length<=w.az.length):jA (w.only l)=0:=by
 have b:=d.only e f;have g:=tD e;have hlen:(w.only l).az.length=l.length:=by simp_all
 have n:=d.Ec.1;have h:=b.qB;have o:=d.YE;unfold jA at a;split at a
 . cases a
 next p=>
 split at a
 . cases a
 next j=>
 split at a
 . omega
 next r=>
 split at a
 . cases a
 next s=>
 split at a
 . omega
 next t=>
 have k:=mT _ (by omega:dY (vJ w) w.az=0)
 have u:dY (vJ (w.only l)) (w.only l).az=0:=oT λc q=>by rw[g]at q;obtain⟨i,m,rfl⟩:=List.mem_map.1 q;exact k _ (Hp (e i m))
 have v:gz (gT (w.only l))≠0:=by have:=(uB (gV b.ys h)).2 b.some;omega
 have x:bD (w.only l).ba 1 4=true:=(by simp_all:bD w.ba 1 4=true)
 have y:dY (oP (w.only l).ba) (w.only l).ways=0:=(by omega:dY (oP w.ba) w.ways=0)
 have z:¬(6:Int)<(w.only l).ways.length:=j;unfold jA
 grind
theorem Cc(M:m.solo=true){nums:acp}(hn:nums.length<1152921504606846976)(h:∀σ',KF (.val (bool true)) σ'):xd prog lay m 3 [ints nums] σ KF:=by
 refine xd.start lay [] Zv 1 Tryz.func3 rfl rfl (by rfl) (by kernel_rfl) ?_
 simp[Tryz.f3];refine cf Tryz.func10 rfl (Jn λc ad hc hb r=>?_)
 refine rn ?_;simp;refine cf Tryz.func9 rfl (WA.Gg (by omega) hn ⟨by omega,by omega⟩ hb λw own lost al v hd=>?_)
 refine ab.runN lay [] 8 ?_;simp;refine bR.intro λd z=>?_
 simp[aJ]
 change ab _ _ _ _ _ _ _ _ _
 refine ab.bC 3 (b:=d) (eo w) (aa.ak _ _ _) (by simp) rfl ?_
 rw[fe z];have p:=v.valid;have Z:=p.open;have c3:=p.Ec.1;have o1:fA w [72] [] []=0:=yI v.Cd (by simp) (by simp) (by simp)
 have o2:fA w [] [] []=0:=yI v.Cd (by simp) (by simp) (by simp)
 refine rn ?_;simp;refine cf Tryz.func11 rfl (yy M p.ys Z (λq=>absurd o1 q) λ_=>?_)
 have P:=qJ w 72;have h6:=p.qB;obtain⟨H,Q⟩:∃H,H=jB w 72:=⟨_,rfl⟩;rw[<-Q]at P ⊢;refine rn ?_;simp;refine cf Tryz.func12 rfl (yB M p.ys Z (λl q1 q2=>(p.only q1 q2).open) o2 ?_)
 obtain⟨G,R⟩:∃G:acp->Bool,G=λl=>decide (jB (w.only l) 72=H):=⟨_,rfl⟩
 have hN:wi w=zp w.az.length G:=by unfold wi;rw[R,Q]
 rw[hN];obtain⟨N,t⟩:∃N,N=zp w.az.length G:=⟨_,rfl⟩;rw[<-t];refine rn ?_;simp;have A:∀k:Nat,k<=w.az.length->BR (w.az.length:Int) k=qK w.az.length k:=λk q=>(Ga ⟨_,by omega⟩ ⟨k,by omega⟩ q).symm
 have S:G (np w.az.length)=true:=by rw[R,Q];simp only[NK,decide_true]
 have a7:np w.az.length∈qK w.az.length w.az.length:=Gb ⟨_,by omega⟩
 have av:N.length<=1000:=by
  rw[t,zp];cases e:((List.range (w.az.length+1)).flatMap (qK w.az.length)).find? G with
  |none=>grind
  | some x=>
    obtain⟨k,hk,O⟩:=List.mem_flatMap.1 (List.mem_of_find?_eq_some e);have:=List.mem_range.1 hk;have:=(B7 _ k x O).1
    grind
 have T:=v.Cd;clear v hd hb r hc z;refine ab.jL (λenv _=>env 3=.cp (eo w) 0/\env 6=ints H/\env 8=ints N/\env 9=int 0/\env 10=int 0) ?_ ?_
 . simp_all
 rintro env u ⟨a,f,g,j,bK⟩
 refine ab.loop (w.az.length+1) (λk s=>∃env σ',s=⟨env,σ',[],.no⟩/\(env 3=.cp (eo w) 0/\env 6=ints H/\env 8=ints N/\env 9=int 0/\env 10=int k)/\∀B<k,∀x∈qK w.az.length B,G x=false) ⟨env,u,rfl,⟨a,f,g,j,bK⟩,λB q=>by omega⟩ ?_
 clear a f g j bK env u
 rintro c0 k _ hk ⟨env,u,rfl,⟨a,f,g,j,bK⟩,C⟩ ih
 refine rn ?_;simp[a,f,g,j,bK];apply aG.intro<;>intro g1<;>simp at g1<;>simp[a,f,g,j,bK,g1]
 . refine cf Tryz.func13 rfl (JI ⟨by omega,by omega⟩ (by omega) ?_)
   rw[A k (by omega)]
   have U:=B8 w.az.length k
   have a8:w.az.length ^ k<=27:=by
    have:w.az.length ^ k<=3 ^ k:=Nat.pow_le_pow_left c3 k;have:3 ^ k<=3 ^ 3:=aav (by omega) (by omega)
    omega
   obtain⟨L,hL⟩:∃L,L=qK w.az.length k:=⟨_,rfl⟩;rw[<-hL]at U ⊢;refine rn ?_;simp[a,f,g,j,bK];refine ab.loop L.length (λi s=>∃env σ',s=⟨env,σ',[],.no⟩/\(env 3=.cp (eo w) 0/\env 6=ints H/\env 8=ints N/\env 9=int 0/\env 10=int k/\env 11=rows L/\env 12=int i)/\∀x∈L.take i,G x=false) ?_ ?_
   . refine⟨_,_,rfl,?_,?_⟩<;>simp[a,f,g,j,bK]
   clear a f g j bK env
   rintro c1 i _ hi ⟨env,ax,rfl,⟨a,f,g,j,bK,bG,cD⟩,D⟩ V
   refine rn ?_;simp[a,f,g,j,bK,bG,cD];apply aG.intro<;>intro E<;>simp at E<;>simp[a,f,g,j,bK,bG,cD,E]
   . have O:L[i]∈qK w.az.length k:=by grind
     obtain⟨x,o⟩:∃x,x=L[i]:=⟨_,rfl⟩;rw[<-o]at O;simp only[<-o];obtain⟨lx,W,_⟩:=B7 _ k x O;have F:x.length<=w.az.length:=by omega
     have I:=p.only W F;have o3:fA (w.only x) [72] [] []=0:=yI (NX p T W F) (by simp) (by simp) (by simp)
     refine cf Tryz.func14 rfl (ON.JG W (by omega) ?_)
     refine pg ?_;simp[a,f,g,j,bK,bG,cD];refine cf Tryz.func11 rfl (yy M I.ys I.open (λq=>absurd o3 q) λ_=>?_)
     have a9:=qJ (w.only x) 72;have ay:(w.only x).fair.aD.length=w.fair.aD.length:=rfl;have X:G x=decide (jB (w.only x) 72=H):=by rw[R]
     generalize jB (w.only x) 72=Hx at *;refine pg ?_;simp[a,f,g,j,bK,bG,cD];refine rn ?_;simp[a,f,g,j,bK,bG,cD];refine cf Tryz.func15 rfl (mP (by omega) (by omega) ?_)
     by_cases Y:Hx=H
     . have J:N=x:=by
        rw[t,o];have:=Ho (n:=w.az.length) (k:=k) (i:=i) (G:=G) (by omega) (by grind) C (by grind)
        grind
       refine rn ?_;simp[a,f,g,j,bK,bG,cD,Y,E,<-o];rw[J];refine cf Tryz.func15 rfl (mP (by omega) (by omega) ?_)
       refine rn ?_;simp[a,f,g,j,bK,bG,cD];refine cf Tryz.func16 rfl (NQ M ?_);refine rn ?_;simp[a,f,g,j,bK,bG,cD];exact .done (h _)
     . refine rn ?_
       simp[a,f,g,j,bK,bG,cD,Y];refine⟨by omega,V _ E ⟨_,_,rfl,(by simp[a,f,g,j,bK,bG,cD]),λy K=>?_⟩⟩
       rw[zs E]at K
       rcases List.mem_append.1 K with q|q
       . exact D y q
       . rw[List.mem_singleton.1 q,<-o,X];simp[Y]
   . refine⟨by omega,ih _ (by omega) ⟨_,_,rfl,(by simp[a,f,g,j,bK,bG,cD]),λB q y K=>?_⟩⟩
     have ei:i=L.length:=by omega
     by_cases e:B=k
     . subst e
       rw[<-hL]at K;exact D y (by grind)
     . exact C B (by omega) y K
 grind

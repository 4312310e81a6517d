import Derived.Test.YtebcbkhnlnkolaaGreatDoorC20
set_option linter.all false
set_option maxHeartbeats 2000000
set_option maxRecDepth 4000
namespace Go.Proofs.YtebcbkhnlnkolaaGreatDoor
open Go.Proofs.Tryz (prog)
section
open Go Go.cE Go.Conc
variable{m:Mo}{σ:af}{KF:acJ}
section
variable{c k:Nat}{nums:acX}
namespace WY
abbrev Xz:acO:=[⟨2,.take [0,2,3,4,7,9] false (.both 1 (.one 5 (.take [6,8] true (.one 10 (.done)))) (.one 5 (.take [1,6,8] true (.one 10 (.done)))))⟩]
theorem SB{a b t:Int}(c:2<=t/\t<=4)(d:0<=a/\a<t)(hb:1<=b/\b<t):0<=(a+b).tmod t/\(a+b).tmod t<t/\(a+b).tmod t≠a:=by
 rw[Int.tmod_eq_emod_of_nonneg (by omega)];have:t=2\/t=3\/t=4:=by omega
 grind
theorem OE{a t}(b:2<=t/\t<=4):pz .rem .i64 a t=some (.int .i64 (a.tmod t)):=by simp[pz];omega
theorem OF{t}(hk:k+7<1000000)(H:nums.length<1152921504606846976)(ht:2<=t/\t<=4)(hb:bo c nums k σ)(h:∀  x  σ',qx t x=0->pH c nums (k+7) σ σ'->KF (.val (jK x)) σ'):aA prog m 34 [.ref c 0,int t] σ KF:=by
 obtain⟨n0,s0,_,a7⟩:=id hb;refine fs Xz Tryz.func34 rfl (by kernel_rfl) ?_
 simp[Tryz.f34];refine bM.intro λi h4=>?_
 have v:c≠i:=λe=>by simp_all
 have P:∀x,bo c nums k (σ.set i x):=λx=>⟨n0,s0,by assumption,by rw[af.ai _ _ v];exact a7⟩
 simp;have W:-9223372036854775808<=t-1/\t-1<=9223372036854775807:=by omega
 simp[W.1,W.2];refine cf Tryz.func16 rfl (eu (by omega) H ⟨by omega,by omega⟩ (P _) λd ay Q M=>?_)
 apply rn;simp;refine cf Tryz.func13 rfl (eM (by omega) H (by omega) (by omega) M.1 λr w aC A=>?_)
 apply rn;simp;refine bM.intro λf h5=>?_
 have B:f≠c:=λe=>by subst e;obtain⟨_,_,_,q⟩:=A.1;simp_all
 have aE:∀y,y≠c->y≠i->w y=σ y:=λy o Y=>by rw[A.2 y o,M.2 y o,af.ai _ _ Y]
 have q4:w i=some (.cells [int 0,int 0,int 0,int 0,int 0]):=by rw[A.2 i (za v),M.2 i (za v),af.aj]
 have s:f≠i:=λe=>by simp_all
 have Q:0<=d/\d<t:=by omega
 apply yS (I:=λenv σ'=>∃b,(1<=b/\b<t)/\env 0=.ref c 0/\env 1=int t/\env 4=.ref i 0/\env 5=.ref f 0/\bo c nums (k+3) σ'/\σ' i=some (.cells [int 0,int 0,int 0,int 0,int 0])/\σ' f=some (.cells [int d,int ((d+b).tmod t),int r,int 0,int 0])/\∀y,y≠c->y≠i->y≠f->σ' y=σ y)
 . intro u
   simp[aK,W.1,W.2]
   have R:bo c nums (k+2) (w.set f (.cells [int d,int 0,int r,int 0,int 0])):=by obtain⟨n,z,C,S⟩:=A.1;exact⟨n,z,C,by rw[af.ai _ _ (za B)];exact S⟩
   have fin:∀(b:Int) (g:af),1<=b/\(b<=t-1\/b=1)->pH c nums (k+2+1) (w.set f (.cells [int d,int 0,int r,int 0,int 0])) g->g f=some (.cells [int d,int 0,int r,int 0,int 0])/\(-9223372036854775808<=d+b/\d+b<=9223372036854775807)/\∀(env:Env) (X:sz),env 0=.ref c 0->env 1=int t->env 4=.ref i 0->env 5=.ref f 0->X=.cells [int d,int ((d+b).tmod t),int r,int 0,int 0]->(∃b,(1<=b/\b<t)/\env 0=.ref c 0/\env 1=int t/\env 4=.ref i 0/\env 5=.ref f 0/\bo c nums (k+3) (g.set f X)/\(g.set f X) i=some (.cells [int 0,int 0,int 0,int 0,int 0])/\(g.set f X) f=some (.cells [int d,int ((d+b).tmod t),int r,int 0,int 0])/\∀y,y≠c->y≠i->y≠f->(g.set f X) y=σ y):=λb g p j=>by
    refine⟨by rw[j.2 f B,af.aj],by omega,λenv X N J K L eX=>⟨b,by omega,N,J,K,L,?_,?_,by rw[af.aj,eX],λy o Y y3=>?_⟩⟩
    . obtain⟨n,z,C,S⟩:=j.1
      exact⟨n,z,by omega,by rw[af.ai _ _ (za B)];exact S⟩
    . rw[af.ai _ _ (za s),j.2 i (za v),af.ai _ _ (za s)];exact q4
    . rw[af.ai _ _ y3,j.2 y o,af.ai _ _ y3];grind
   refine⟨?_,?_⟩
   . refine cf Tryz.func13 rfl (eM (by omega) H (by omega) (by omega) R λb g p j=>?_)
     obtain⟨g5,C,gI⟩:=fin b g p j;have Z:=OE (a:=d+b) ht;apply pg;simp[g5,C.1,C.2,Z,aK];exact u _ _ (gI _ _ (by simp) (by simp) (by simp) (by simp) rfl)
   . refine cf Tryz.func13 rfl (eM (by omega) H (by omega) (by omega) R λb g p j=>?_)
     obtain⟨g5,C,gI⟩:=fin b g p j;have Z:=OE (a:=d+b) ht;apply pg;simp[g5,C.1,C.2,Z,aK];exact u _ _ (gI _ _ (by simp) (by simp) (by simp) (by simp) rfl)
 rintro env g ⟨b,p,N,J,K,L,a8,u4,u5,a9⟩
 apply rn;simp[N,J,K,L];refine cf Tryz.func16 rfl (eu (by omega) H ⟨by omega,by omega⟩ a8 λo aL aO D=>?_)
 apply rn;simp[N,J,K,L];refine cf Tryz.func63 rfl (mT (l:=[0,0,o]) (by omega) H (by simp) D.1 λfr T b0 E=>?_)
 have hf:0<=fr/\fr<=20:=by grind
 have v5:T f=some (.cells [int d,int ((d+b).tmod t),int r,int 0,int 0]):=by rw[E.2 f B,D.2 f B];exact u5
 have r2:-9223372036854775808<=fr+20/\fr+20<=9223372036854775807:=by omega
 apply rn;simp[N,J,K,L,v5,aK,r2.1,r2.2];obtain⟨hi,ab,av⟩:∃hi:Int,hi=(if fr+20<72 then fr+20 else 72)/\fr<=hi/\hi<=72:=⟨_,rfl,by omega,by omega⟩
 rw[<-ab]
 have U:bo c nums (k+5) (T.set f (.cells [int d,int ((d+b).tmod t),int r,int fr,int 0])):=by obtain⟨n,z,C,S⟩:=E.1;exact⟨n,z,by omega,by rw[af.ai _ _ (za B)];exact S⟩
 refine cf Tryz.func13 rfl (eM (by omega) H (by omega) (by omega) U λY b1 b2 F=>?_)
 apply rn;simp[N,J,K,L];refine cf Tryz.func63 rfl (mT (l:=[72,72,Y]) (by omega) H (by simp) F.1 λtt V ad G=>?_)
 have b3:fr<=tt/\tt<=72:=by simp at ad;omega
 have w5:V f=some (.cells [int d,int ((d+b).tmod t),int r,int fr,int 0]):=by rw[G.2 f B,F.2 f B,af.aj]
 have w4:V i=some (.cells [int 0,int 0,int 0,int 0,int 0]):=by rw[G.2 i (za v),F.2 i (za v),af.ai _ _ (za s),E.2 i (za v),D.2 i (za v)];exact u4
 apply rn;simp[N,J,K,L,w5,w4,s,za s,af.ai,aK];obtain⟨nb,zb,P,al⟩:=G.1;have ax:=SB ht Q p
 have hw:qx t ⟨d,(d+b).tmod t,r,fr,tt⟩=0:=by
  have J:bz d 0 (t-1)=true:=by simp only[bz,zj,KD];omega
  have Z:bz ((d+b).tmod t) 0 (t-1)=true:=by simp only[bz,zj,KD];omega
  have e3:bz r 1 12=true:=by simp only[bz,zj,KD];omega
  have K:bz fr 0 72=true:=by simp only[bz,zj,KD];omega
  have L:bz tt 0 72=true:=by simp only[bz,zj,KD];omega
  unfold qx
  grind
 refine .less (σ':=σ.set c (.cells [ints nums,int nb,.lit (.int .u64 zb)])) (λy x O=>?_) (.done (h ⟨d,(d+b).tmod t,r,fr,tt⟩ _ hw ⟨⟨nb,zb,by omega,af.aj _ _ _⟩,λy O=>af.ai _ _ O⟩))
 have s5:σ f=none:=by simp_all
 by_cases o:y=c
 . subst o
   rw[af.aj]at O;rw[af.ai _ _ v,af.ai _ _ (za B),al];exact O
 . rw[af.ai _ _ o]at O
   have y4:y≠i:=λe=>by simp_all
   have y5:y≠f:=λe=>by simp_all
   rw[af.ai _ _ y4,af.ai _ _ y5,G.2 y o,F.2 y o,af.ai _ _ y5,E.2 y o,D.2 y o,a9 y o y4 y5];exact O
end WY
end
def oh(σ0 σ:af)(l:List (AV × Nat × List AV)):Prop:=σ0.Le σ/\(∀t∈l,Tok σ0 σ t.1 t.2.1 t.2.2)/\l.Pairwise λt a=>∀b,br t.1=some b->br a.1≠some b
theorem oh.head{σ0 σ a kk es l}(h:oh σ0 σ ((a,kk,es)::l)):Tok σ0 σ a kk es:=h.2.1 _ (ach)
theorem oh.perm{σ0 σ l d}(h:oh σ0 σ l)(e:l.Perm d):oh σ0 σ d:=⟨h.1,λt q=>h.2.1 t (e.mem_iff.2 q),(e.pairwise_iff λ{a b} q c f g=>q c g f).1 h.2.2⟩
theorem oh.PD{σ0 σ σ2 l c}(h:oh σ0 σ l)(b:σ0 c=none)(d:∃l,σ c=some (.cells l))(a:∀y,y≠c->σ2 y=σ y):oh σ0 σ2 l:=⟨λy x f=>by rw[a y λe=>by simp_all];exact h.1 y x f,λt q=>qV (h.2.1 t q) b d a,h.2.2⟩
theorem oh.app{σ0 σ σ' a a' kk kk' es c l}(h:oh σ0 σ ((a,kk,es)::l))(d:Tok (σ.off a) σ' a' kk' c):oh σ0 σ' ((a',kk',c)::l)/\∀y x,σ y=some (.cells x)->σ' y=some (.cells x):=by
 have f:=h.head;obtain⟨j,k⟩:=aaL.1 h.2.2;have hb:=d.base f.here.2;have key:∀t∈l,Tok σ0 σ' t.1 t.2.1 t.2.2/\∀b,br t.1=some b->br a'≠some b:=λt q=>Cv (h.2.1 t (abo _ q)) f (λb g i=>j t q b i g) d
 refine⟨⟨hb.1,λt q=>?_,aaL.2 ⟨λt q b g i=>(key t q).2 b i g,k⟩⟩,λy x m=>d.1 _ _ ?_⟩
 . grind
 . rw[af.dP λe=>by obtain⟨_,_,q⟩:=f.aY e;simp_all];exact m
section
variable{c k:Nat}{nums:acX}
namespace WA
abbrev XA:acO:=[⟨11,.take [0,2,3,8] false (.both 1 (.one 4 (.one 5 (.one 6 (.one 7 (.one 9 (.done)))))) (.one 4 (.both 1 (.one 5 (.one 6 (.one 7 (.one 9 (.done))))) (.one 5 (.both 1 (.one 6 (.one 7 (.one 9 (.done)))) (.one 6 (.take [1] true (.one 7 (.one 9 (.done))))))))))⟩,⟨18,.take [0,2,3,4,8,9,10,11,12,13,19] false (.both 1 (.both 5 (.take [6] false (.both 7 (.one 14 (.one 15 (.one 16 (.one 17 (.one 18 (.one 20 (.done))))))) (.one 14 (.one 7 (.one 15 (.one 16 (.one 17 (.one 18 (.one 20 (.done)))))))))) (.one 14 (.one 5 (.take [6] false (.one 7 (.one 15 (.one 16 (.one 17 (.one 18 (.one 20 (.done))))))))))) (.both 5 (.take [6] false (.both 1 (.both 7 (.one 14 (.one 15 (.one 16 (.one 17 (.one 18 (.one 20 (.done))))))) (.one 14 (.one 7 (.one 15 (.one 16 (.one 17 (.one 18 (.one 20 (.done))))))))) (.both 7 (.both 1 (.one 14 (.one 15 (.one 16 (.one 17 (.one 18 (.one 20 (.done))))))) (.one 14 (.both 1 (.one 15 (.one 16 (.one 17 (.one 18 (.one 20 (.done)))))) (.one 15 (.both 1 (.one 16 (.one 17 (.one 18 (.one 20 (.done))))) (.one 16 (.both 1 (.one 17 (.one 18 (.one 20 (.done)))) (.one 17 (.take [1] true (.one 18 (.one 20 (.done)))))))))))) (.one 14 (.both 1 (.one 7 (.one 15 (.one 16 (.one 17 (.one 18 (.one 20 (.done))))))) (.one 7 (.both 1 (.one 15 (.one 16 (.one 17 (.one 18 (.one 20 (.done)))))) (.one 15 (.both 1 (.one 16 (.one 17 (.one 18 (.one 20 (.done))))) (.one 16 (.both 1 (.one 17 (.one 18 (.one 20 (.done)))) (.one 17 (.take [1] true (.one 18 (.one 20 (.done)))))))))))))))) (.one 14 (.both 1 (.one 5 (.take [6] false (.one 7 (.one 15 (.one 16 (.one 17 (.one 18 (.one 20 (.done))))))))) (.one 5 (.take [6] false (.both 1 (.one 7 (.one 15 (.one 16 (.one 17 (.one 18 (.one 20 (.done))))))) (.one 7 (.both 1 (.one 15 (.one 16 (.one 17 (.one 18 (.one 20 (.done)))))) (.one 15 (.both 1 (.one 16 (.one 17 (.one 18 (.one 20 (.done))))) (.one 16 (.both 1 (.one 17 (.one 18 (.one 20 (.done)))) (.one 17 (.take [1] true (.one 18 (.one 20 (.done))))))))))))))))))⟩,⟨20,.take [0,1,3,6,7,8,9,10,13,14] false (.both 2 (.both 4 (.both 5 (.one 11 (.one 12 (.take [16] false (.one 15 (.done))))) (.one 11 (.one 5 (.one 12 (.take [16] false (.one 15 (.done))))))) (.one 11 (.one 4 (.one 5 (.one 12 (.take [16] false (.one 15 (.done)))))))) (.both 4 (.both 2 (.both 5 (.one 11 (.one 12 (.take [16] false (.one 15 (.done))))) (.one 11 (.one 5 (.one 12 (.take [16] false (.one 15 (.done))))))) (.one 11 (.one 2 (.one 5 (.one 12 (.take [16] false (.one 15 (.done)))))))) (.one 11 (.both 2 (.one 4 (.one 5 (.one 12 (.take [16] false (.one 15 (.done)))))) (.one 4 (.one 2 (.one 5 (.one 12 (.take [16] false (.one 15 (.done)))))))))))⟩]
theorem GY{cnt}(hk:k+600<1000000)(hn:nums.length<1152921504606846976)(c6:1<=cnt/\cnt<=6)(hb:bo c nums k σ)(h:∀  w   own lost  σ',EZ cnt w own lost->pH c nums (k+600) σ σ'->KF (.val (.cq [dA w,ints own,ints lost])) σ'):aA prog m 11 [.ref c 0,int cnt] σ KF:=by
 obtain⟨n0,s0,_,fg⟩:=id hb;refine fs XA Tryz.func11 rfl (by kernel_rfl) ?_
 simp[Tryz.f11];refine bM.intro λH h4=>?_
 have n4:c≠H:=λe=>by simp_all
 have al:∀x,bo c nums k (σ.set H x):=λx=>⟨n0,s0,by assumption,by rw[af.ai _ _ n4];exact fg⟩
 simp;refine cf Tryz.func32 rfl (Ko (by omega) hn c6 (al _) λf U eg hS b2=>?_)
 refine aa.runN lay [] 6 ?_;simp;refine bM.intro λc7 h7=>?_
 simp[aK]
 change aa _ _ _ _ _ _ _ _ _
 refine aa.bt 7 (b:=c7) (cy f) (af.aj _ _ _) (by simp) rfl ?_
 rw[ew h7];clear h7;apply rn;simp;refine bM.intro λG h9=>?_
 have u4:eg H=some (.cells [.nil,.nil,int 0,int 0,int 0,int 0,int 0,.nil,.nil]):=by rw[b2.2 H (za n4),af.aj]
 have n9:G≠c:=λe=>by subst e;obtain⟨_,_,_,q⟩:=b2.1;simp_all
 have a8:G≠H:=λe=>by simp_all
 simp[aK]
 have S:∀X,bo c nums (k+500) (eg.set G X):=λX=>by obtain⟨n,z,g1,g2⟩:=b2.1;exact⟨n,z,g1,by rw[af.ai _ _ (za n9)];exact g2⟩
 refine cf Tryz.func33 rfl (wI (by omega) hn (by omega) (S _) λon O b3=>?_)
 refine aa.runN lay [] 3 ?_;simp;obtain⟨M,hM⟩:∃M:Int,M=if on=true then 6 else f.aR:=⟨_,rfl⟩
 apply Oo
 . intro key
   have v9:O G=some (.cells [.nil,rows f.roads,int f.aU,int f.eT,int f.cP,int f.aR,int 0,.nil,.nil]):=by rw[b3.2 G n9,af.aj]
   have v4:O H=some (.cells [.nil,.nil,int 0,int 0,int 0,int 0,int 0,.nil,.nil]):=by rw[b3.2 H (za n4),af.ai _ _ (za a8)];exact u4
   have vk:∀y,y≠c->y≠H->y≠G->O y=σ y:=λy y1 y2 y3=>by rw[b3.2 y y1,af.ai _ _ y3,b2.2 y y1,af.ai _ _ y2]
   cases on with
   | false=>
     simp;refine aa.runN lay [] 1 ?_;simp;refine aa.jd (λenv σ'=>env 0=.ref c 0/\env 7=.cp (cy f) 0/\env 8=ints U/\env 4=.ref H 0/\env 9=.ref G 0/\bo c nums (k+501) σ'/\σ' H=some (.cells [.nil,.nil,int 0,int 0,int 0,int 0,int 0,.nil,.nil])/\σ' G=some (.cells [.nil,rows f.roads,int f.aU,int f.eT,int f.cP,int M,int 0,.nil,.nil])/\∀y,y≠c->y≠H->y≠G->σ' y=σ y) ?_ ?_
     . exact⟨by simp,by simp,by simp,by simp,by simp,b3.1,v4,by rw[hM];exact v9,vk⟩
     . exact key
   | true=>
     simp;refine aa.runN lay [] 5 ?_;simp[v9,aK];obtain⟨n,z,g1,g2⟩:=b3.1;refine aa.jd (λenv σ'=>env 0=.ref c 0/\env 7=.cp (cy f) 0/\env 8=ints U/\env 4=.ref H 0/\env 9=.ref G 0/\bo c nums (k+501) σ'/\σ' H=some (.cells [.nil,.nil,int 0,int 0,int 0,int 0,int 0,.nil,.nil])/\σ' G=some (.cells [.nil,rows f.roads,int f.aU,int f.eT,int f.cP,int M,int 0,.nil,.nil])/\∀y,y≠c->y≠H->y≠G->σ' y=σ y) ?_ ?_
     . exact⟨by simp,by simp,by simp,by simp,by simp,⟨n,z,g1,by rw[af.ai _ _ (za n9)];exact g2⟩,by rw[af.ai _ _ (za a8)];exact v4,by rw[hM];exact af.aj _ _ _,λy y1 y2 y3=>by rw[af.ai _ _ y3];exact vk y y1 y2 y3⟩
     . exact key
 have fi:f.aR<=M/\M<=6:=by have:=hS.nQ.aR;omega
 have s9:σ G=none:=by rw[<-h9,b2.2 G n9,af.ai _ _ a8]
 rintro env ej ⟨v,A,B,D,F,b9,u4,u9,fl⟩
 apply rn;simp[v,A,B,D,F,u9];refine cf Tryz.func13 rfl (eM (by omega) hn (by omega) (by omega) b9 λT bm hT a9=>?_)
 have fp:1<=T/\T<=4:=by omega
 have v9:bm G=some (.cells [.nil,rows f.roads,int f.aU,int f.eT,int f.cP,int M,int 0,.nil,.nil]):=by rw[a9.2 G n9];exact u9
 apply rn;simp[v,A,B,D,F,v9,aK]
 have ft:∀X,bo c nums (k+502) (bm.set G X):=λX=>by obtain⟨n,z,g1,g2⟩:=a9.1;exact⟨n,z,by omega,by rw[af.ai _ _ (za n9)];exact g2⟩
 refine cf Tryz.func16 rfl (eu (by omega) hn (by omega) (ft _) λx ab hx bw=>?_)
 have gw:0<=x/\x<=5:=by omega
 obtain⟨X,hX⟩:∃X:Nat,(X:Int)=x:=⟨x.toNat,by omega⟩
 apply rn;simp[v,A,B,D,F,v9]
 have ep:(σ.del c).Le ab:=λy z hy=>by
  have y1:y≠c:=λe=>by subst e;simp[af.del]at hy
  have y0:σ y=some z:=by simpa[af.del,y1]using hy
  have y4:y≠H:=λe=>by simp_all
  have y9:y≠G:=λe=>by simp_all
  rw[bw.2 y y1,af.ai _ _ y9,a9.2 y y1,fl y y1 y4 y9];exact y0
 have et:oh (σ.del c) ab [(.nil,5,([]:List Way).map jK)]:=⟨ep,λt q=>by rw[lb.1 q];exact⟨ep,.inl ⟨rfl,rfl⟩⟩,List.pairwise_singleton _ _⟩
 have ev:bo c nums (k+503+7*0) ab:=bw.1.mono (by omega)
 refine Oo (P:=?P2) (λkey=>?f2) ?p2
 case f2=>
  refine aa.loop X (λj s=>∃env σ' aw ws,s=⟨env,σ',[],.no⟩/\(env 0=.ref c 0/\env 7=.cp (cy f) 0/\env 8=ints U/\env 4=.ref H 0/\env 9=.ref G 0/\env 10=int (X-j))/\bo c nums (k+503+7*j) σ'/\σ' H=some (.cells [.nil,.nil,int 0,int 0,int 0,int 0,int 0,.nil,.nil])/\σ' G=some (.cells [.nil,rows f.roads,int f.aU,int f.eT,int f.cP,int M,int T,aw,.nil])/\oh (σ.del c) σ' [(aw,5,(ws:List Way).map jK)]/\ws.length<=j/\∀x∈ws,qx T x=0) ?_ ?_
  . exact⟨_,_,.nil,[],rfl,by simp[v,A,B,D,F,v9,hX],ev,by rw[bw.2 H (za n4),af.ai _ _ (za a8),a9.2 H (za n4)];exact u4,by rw[bw.2 G n9,af.aj],et,by simp⟩
  rintro c0 j _ hj ⟨env,σ',aw,ws,rfl,⟨v,A,B,D,F,aZ⟩,bA,q4,V,J,fu,b4⟩ ih
  have a7:=J.head.cells;apply rn;simp[v,A,B,D,F,aZ,V,a7.1,a7.2];refine uh.intro (λg1=>?_) (λg1=>?_)<;>(try simp[-Nat.not_lt,-Nat.not_le]at g1)<;>(try simp[v,A,B,D,F,aZ,V,a7.1,a7.2,g1])
  rotate_left
  . have cg:k+503+7*j<=k+540:=by omega
    have cm:ws.length<=5:=by omega
    refine aa.jd (λenv σ'=>∃aw ws,env 0=.ref c 0/\env 7=.cp (cy f) 0/\env 8=ints U/\env 4=.ref H 0/\env 9=.ref G 0/\env 11=.nil/\env 12=.nil/\env 13=int 0/\bo c nums (k+540) σ'/\σ' H=some (.cells [.nil,.nil,int 0,int 0,int 0,int 0,int 0,.nil,.nil])/\σ' G=some (.cells [.nil,rows f.roads,int f.aU,int f.eT,int f.cP,int M,int T,aw,.nil])/\oh (σ.del c) σ' [(aw,5,(ws:List Way).map jK)]/\ws.length<=5/\∀x∈ws,qx T x=0) ?_ ?_
    . refine⟨aw,ws,?_,?_,?_,?_,?_,?_,?_,?_,bA.mono cg,q4,V,J,cm,b4⟩<;>simp[v,A,B,D,F,aZ,V,a7.1,a7.2]
    . exact key
  apply aH.intro<;>intro g2<;>simp at g2<;>simp[v,A,B,D,F,aZ,V,a7.1,a7.2,g2]
  rotate_left
  . have cg:k+503+7*j<=k+540:=by omega
    have cm:ws.length<=5:=by omega
    refine aa.jd (λenv σ'=>∃aw ws,env 0=.ref c 0/\env 7=.cp (cy f) 0/\env 8=ints U/\env 4=.ref H 0/\env 9=.ref G 0/\env 11=.nil/\env 12=.nil/\env 13=int 0/\bo c nums (k+540) σ'/\σ' H=some (.cells [.nil,.nil,int 0,int 0,int 0,int 0,int 0,.nil,.nil])/\σ' G=some (.cells [.nil,rows f.roads,int f.aU,int f.eT,int f.cP,int M,int T,aw,.nil])/\oh (σ.del c) σ' [(aw,5,(ws:List Way).map jK)]/\ws.length<=5/\∀x∈ws,qx T x=0) ?_ ?_
    . refine⟨aw,ws,?_,?_,?_,?_,?_,?_,?_,?_,bA.mono cg,q4,V,J,cm,b4⟩<;>simp[v,A,B,D,F,aZ,V,a7.1,a7.2]
    . exact key
  apply yS (I:=λenv r=>∃a' x,env 0=.ref c 0/\env 7=.cp (cy f) 0/\env 8=ints U/\env 4=.ref H 0/\env 9=.ref G 0/\env 10=int (X-j)/\qx T x=0/\bo c nums (k+503+7*j+7) r/\r H=some (.cells [.nil,.nil,int 0,int 0,int 0,int 0,int 0,.nil,.nil])/\r G=some (.cells [.nil,rows f.roads,int f.aU,int f.eT,int f.cP,int M,int T,a',.nil])/\oh (σ.del c) r [(a',5,(ws.map jK)++[jK x])])
  . intro Y
    repeat' (first
              |apply And.intro
              | (refine cf Tryz.func34 rfl (WY.OF (by omega) hn (by omega) bA λx O cr hd=>?_)
                 have cv:∃l,σ' c=some (.cells l):=by obtain⟨_,_,_,q⟩:=bA;exact⟨_,q⟩
                 have L:=J.PD (by simp[af.del]) cv hd.2
                 have ey:=L.head.cells;have r9:O G=some (.cells [.nil,rows f.roads,int f.aU,int f.eT,int f.cP,int M,int T,aw,.nil]):=by rw[hd.2 G n9];exact V
                 have r4:O H=some (.cells [.nil,.nil,int 0,int 0,int 0,int 0,int 0,.nil,.nil]):=by rw[hd.2 H (za n4)];exact q4
                 apply pg;simp[v,A,B,D,F,aZ,r9,ey.1,ey.2])
              | (refine aN lay rfl rfl rfl R9 rfl R9 rfl Vb (by decide) (by simp;omega) (σ0:=O.off aw) (es:=ws.map jK) (xs:=[jK x]) (by simpa using L.head.here.1) (.inr ⟨_,by simp;rfl⟩) λa' ej av=>?_
                 obtain⟨ay,k3⟩:=L.app av;have K:=ay.head.cells;have t9:=k3 _ _ r9;have t4:=k3 _ _ r4;apply pg;simp[v,A,B,D,F,aZ,t9,K.1,K.2,aK];obtain⟨nb,zb,al,S⟩:=hd.1;have tc:=k3 _ _ S;refine Y _ _ ⟨a',x,by simp[v],by simp[A],by simp[B],by simp[D],by simp[F],by simp[aZ],cr,⟨nb,zb,al,by rw[af.ai _ _ (za n9)];exact tc⟩,by rw[af.ai _ _ (za a8)];exact t4,af.aj _ _ _,?_⟩
                 exact(ay.PD (by simp[af.del,n9,s9]) ⟨_,t9⟩ λy hy=>af.ai _ _ hy)))
  clear v A B D F aZ env
  rintro env O ⟨a',x,v,A,B,D,F,aZ,cr,S,r4,r9,L⟩
  apply rn;simp[v,A,B,D,F,aZ];have r1:-9223372036854775808<=(X:Int)-j-1/\(X:Int)-j-1<=9223372036854775807:=by omega
  refine⟨r1,ih _ g1 ⟨_,_,a',ws++[x],rfl,⟨by simp[v,A,B,D,F,aZ],by simp[v,A,B,D,F,aZ],by simp[v,A,B,D,F,aZ],by simp[v,A,B,D,F,aZ],by simp[v,A,B,D,F,aZ],?_⟩,?_,r4,r9,?_,?_,?_⟩⟩
  . simp;omega
  . omega
  . simpa using L
  . simp;omega
  . intro y hy
    rcases aaq.1 hy with q|q
    . exact b4 y q
    . rw[lb.1 q];exact cr
 case p2=>
 clear v A B D F env
 rintro env bB ⟨aw,ws,v,A,B,D,F,bd,bs,d,ez,eA,dj,R,fu,b4⟩
 obtain⟨Q,dm⟩:∃Q:Int->Int,Q=λi=>U.getD i.toNat 0:=⟨_,rfl⟩
 have h6:=hS.nQ.px;have gx:=hS.len;have gA:U.length=f.aD.length:=by obtain⟨_,_,_,_,q,_⟩:=hS.seen;exact q.len
 have fv:∀e∈f.aD,0<=e.hour/\e.hour<=72:=λe he=>(nR (hS.nQ.tH e he)).1
 apply rn;simp[v,A,B,D,F,bd,bs,d,dj];have b5:=R.1
 have b6:oh (σ.del c) bB [(.nil,6,(([]:acX).map (aS f)).map bx),(.nil,8,([]:List OR).map ij),(.nil,1,(([]:acX).map Q).map int),(.nil,1,(([]:acX).map Q).map int),(aw,5,ws.map jK)]:=by
  have n0:∀kk,Tok (σ.del c) bB .nil kk []:=λkk=>⟨b5,.inl ⟨rfl,rfl⟩⟩
  refine⟨b5,λt q=>?_,?_⟩
  . simp at q
    rcases q with rfl|rfl|rfl|rfl
    . exact n0 6
    . exact n0 8
    . exact n0 1
    . exact R.head
  . simp[br]
 refine aa.loop f.aD.length (λi s=>∃env σ' aE Z aO aL E C cs,s=⟨env,σ',[],.no⟩/\(env 0=.ref c 0/\env 7=.cp (cy f) 0/\env 8=ints U/\env 4=.ref H 0/\env 9=.ref G 0/\env 11=aO/\env 12=aL/\env 13=int i)/\bo c nums (k+540+3*i) σ'/\σ' H=some (.cells [.nil,.nil,int 0,int 0,int 0,int 0,int 0,.nil,.nil])/\σ' G=some (.cells [aE,rows f.roads,int f.aU,int f.eT,int f.cP,int M,int T,aw,Z])/\oh (σ.del c) σ' [(aE,6,((E:acX).map (aS f)).map bx),(Z,8,(cs:List OR).map ij),(aO,1,(E.map Q).map int),(aL,1,((C:acX).map Q).map int),(aw,5,ws.map jK)]/\E.length+C.length=i/\(∀x∈E++C,0<=x/\x<f.aD.length)/\cs.map (·.lost)=C.map (aS f)/\cs.length<=3/\∀x∈cs,(0<=x.town/\x.town<T)/\(0<=x.hour/\x.hour<=72)/\x.lost.hour<=x.hour) ?_ ?_
 . refine⟨_,_,.nil,.nil,.nil,.nil,[],[],[],rfl,?_,ez,eA,dj,b6,rfl,by simp,rfl,by simp⟩
   simp_all
 clear b6 R b5 eA dj ez v A B D F bd bs d env
 rintro c0 i _ hi ⟨env,σ',aE,Z,aO,aL,E,C,cs,rfl,⟨v,A,B,D,F,bd,bs,d⟩,dr,q4,V,J,gB,c5,dx,eB,dy⟩ ih
 have g:=J.head.cells;have o:Z.cells=[Z]/\Z.flat=true:=(J.2.1 (Z,8,cs.map ij) (by simp)).cells
 have u:aO.cells=[aO]/\aO.flat=true:=(J.2.1 (aO,1,(E.map Q).map int) (by simp)).cells
 have p:aL.cells=[aL]/\aL.flat=true:=(J.2.1 (aL,1,(C.map Q).map int) (by simp)).cells
 have fw:∀l,(Z,8,cs.map ij)=l->True:=λ_ _=>trivial
 refine aa.runN lay [] 20 ?_;simp[v,A,B,D,F,bd,bs,d,V,g.1,g.2,o.1,o.2,u.1,u.2,p.1,p.2];apply aH.intro<;>intro g1<;>simp at g1<;>simp[v,A,B,D,F,bd,bs,d,V,g.1,g.2,o.1,o.2,u.1,u.2,p.1,p.2,g1]
 . refine aa.runN lay [] 2 ?_
   simp[v,A,B,D,F,bd,bs,d,V,g.1,g.2,o.1,o.2,u.1,u.2,p.1,p.2];refine bM.intro λfx eK=>?_
   simp[v,A,B,D,F,bd,bs,d,V,g.1,g.2,o.1,o.2,u.1,u.2,p.1,p.2,aK]
   change aa _ _ _ _ _ _ _ _ _
   refine aa.bt 14 (b:=fx) (bx f.aD[i]) (af.aj _ _ _) (by simp) rfl ?_
   rw[ew eK];have gC:=fv _ (zD g1);have eN:aS f i=f.aD[i]:=by simp[aS,g1]
   generalize f.aD[i]=e at *;clear eK;apply rn;simp[v,A,B,D,F,bd,bs,d,V,g.1,g.2,o.1,o.2,u.1,u.2,p.1,p.2];refine cf Tryz.func33 rfl (wI (by omega) hn (by omega) dr λon O b0=>?_)
   have cv:∃l,σ' c=some (.cells l):=by obtain⟨_,_,_,q⟩:=dr;exact⟨_,q⟩
   have L:=J.PD (by simp[af.del]) cv b0.2
   have r9:O G=some (.cells [aE,rows f.roads,int f.aU,int f.eT,int f.cP,int M,int T,aw,Z]):=by rw[b0.2 G n9];exact V
   have r4:O H=some (.cells [.nil,.nil,int 0,int 0,int 0,int 0,int 0,.nil,.nil]):=by rw[b0.2 H (za n4)];exact q4
   have eR:=(L.2.1 (Z,8,cs.map ij) (by simp)).Rl
   refine Oo (P:=?P3) (λkey=>?f3) ?p3
   case f3 =>
    have fO:∀b,b=decide ((cs.length:Int)<3)->b=true->cs.length<3:=λb q1 q2=>by rw[q1]at q2;have:=abB q2;clear key;omega
    cases on with
    | false=>
      refine aa.runN lay [] 7 ?_;simp[v,A,B,D,F,bd,bs,d,V,g.1,g.2,o.1,o.2,u.1,u.2,p.1,p.2];refine aa.jd (λenv r=>O=r/\env 0=.ref c 0/\env 7=.cp (cy f) 0/\env 8=ints U/\env 4=.ref H 0/\env 9=.ref G 0/\env 11=aO/\env 12=aL/\env 13=int i/\env 14=.cp (bx e) 0/\∃b,env 71=bool b/\(b=true->cs.length<3)) ?_ ?_
      . refine⟨rfl,?_,?_,?_,?_,?_,?_,?_,?_,?_,false,?_⟩<;>simp[v,A,B,D,F,bd,bs,d,V,g.1,g.2,o.1,o.2,u.1,u.2,p.1,p.2]
      . exact key
    | true=>
      rcases eR with ⟨q1,q2⟩|⟨sp,q1⟩
      . change Z=_ at q1
        rw[q1]at r9;refine aa.runN lay [] 7 ?_;simp[v,A,B,D,F,bd,bs,d,V,g.1,g.2,o.1,o.2,u.1,u.2,p.1,p.2,r9];refine aa.jd (λenv r=>O=r/\env 0=.ref c 0/\env 7=.cp (cy f) 0/\env 8=ints U/\env 4=.ref H 0/\env 9=.ref G 0/\env 11=aO/\env 12=aL/\env 13=int i/\env 14=.cp (bx e) 0/\∃b,env 71=bool b/\(b=true->cs.length<3)) ?_ ?_
        . have hz:cs.length<3:=by
           cases cs with
           |nil=>exact(by decide)
           |cons a l=>cases q2
          refine⟨rfl,?_,?_,?_,?_,?_,?_,?_,?_,?_,true,?_,λ_=>hz⟩<;>simp[v,A,B,D,F,bd,bs,d,V,g.1,g.2,o.1,o.2,u.1,u.2,p.1,p.2]
        . exact key
      . change Z=_ at q1
        rw[q1]at r9;refine aa.runN lay [] 7 ?_;simp[v,A,B,D,F,bd,bs,d,V,g.1,g.2,o.1,o.2,u.1,u.2,p.1,p.2,r9];refine aa.jd (λenv r=>O=r/\env 0=.ref c 0/\env 7=.cp (cy f) 0/\env 8=ints U/\env 4=.ref H 0/\env 9=.ref G 0/\env 11=aO/\env 12=aL/\env 13=int i/\env 14=.cp (bx e) 0/\∃b,env 71=bool b/\(b=true->cs.length<3)) ?_ ?_
        . refine⟨rfl,?_,?_,?_,?_,?_,?_,?_,?_,?_,decide ((cs.length:Int)<3),?_,fO _ rfl⟩<;>simp[v,A,B,D,F,bd,bs,d,V,g.1,g.2,o.1,o.2,u.1,u.2,p.1,p.2]
        . exact key
   case p3=>
   clear v A B D F bd bs d env eR
   rintro env _ ⟨rfl,v,A,B,D,F,bd,bs,d,iO,b,RK,b9⟩
   have rT:-9223372036854775808<=T-1/\T-1<=9223372036854775807:=by omega
   have rh:-9223372036854775808<=e.hour+6/\e.hour+6<=9223372036854775807:=by omega
   have gD:E.length<=i/\C.length<=i:=by omega
   cases b with
   | true=>
     have b9:=b9 rfl
     apply yS (I:=λenv r=>∃a' nc,env 0=.ref c 0/\env 7=.cp (cy f) 0/\env 8=ints U/\env 4=.ref H 0/\env 9=.ref G 0/\env 11=aO/\env 12=aL/\env 13=int i/\bo c nums (k+540+3*i+3) r/\r H=some (.cells [.nil,.nil,int 0,int 0,int 0,int 0,int 0,.nil,.nil])/\r G=some (.cells [aE,rows f.roads,int f.aU,int f.eT,int f.cP,int M,int T,aw,a'])/\oh (σ.del c) r [(a',8,cs.map ij++[ij nc]),(aE,6,(E.map (aS f)).map bx),(aO,1,(E.map Q).map int),(aL,1,(C.map Q).map int),(aw,5,ws.map jK)]/\nc.lost=e/\(0<=nc.town/\nc.town<T)/\(0<=nc.hour/\nc.hour<=72)/\nc.lost.hour<=nc.hour)
     . intro Y
       apply rn;simp[v,A,B,D,F,bd,bs,d,iO,RK,r9,g.1,g.2,o.1,o.2,rT.1,rT.2,rh.1,rh.2]
       repeat' (first
                 |apply And.intro
                 | (refine cf Tryz.func16 rfl (eu (by omega) hn (by omega) b0.1 λy1 ej gG b7=>?_)
                    have ay:=L.PD (by simp[af.del]) (by obtain⟨_,_,_,q⟩:=b0.1;exact⟨_,q⟩) b7.2
                    have v9:=(b7.2 G n9).trans r9;have v4:=(b7.2 H (za n4)).trans r4;apply pg;simp[v,A,B,D,F,bd,bs,d,iO,r9,v9,g.1,g.2,o.1,o.2,rT.1,rT.2,rh.1,rh.2])
                 | (refine cf Tryz.func13 rfl (eM (by omega) hn (by omega) ⟨by split<;>omega,by split<;>omega⟩ b7.1 λy2 bm gd a9=>?_)
                    have eW:=ay.PD (by simp[af.del]) (by obtain⟨_,_,_,q⟩:=b7.1;exact⟨_,q⟩) a9.2
                    have x9:=(a9.2 G n9).trans v9;have x4:=(a9.2 H (za n4)).trans v4;apply pg;simp[v,A,B,D,F,bd,bs,d,iO,x9,g.1,g.2,o.1,o.2,aK])
                 | (have hp:=eW.perm (List.Perm.swap (Z,8,cs.map ij) _ _)
                    refine aN lay rfl rfl rfl PW rfl PW rfl Vd (by decide) (by simp;omega) (σ0:=bm.off Z) (es:=cs.map ij) (xs:=[ij ⟨e,y1,y2⟩]) (by simpa using hp.head.here.1) (.inr ⟨.exact,by simp[aK]⟩) λa' ab av=>?_
                    obtain⟨N,k5⟩:=hp.app av;have K:=N.head.cells;have t9:=k5 _ _ x9;have t4:=k5 _ _ x4;apply pg;simp[v,A,B,D,F,bd,bs,d,iO,t9,K.1,K.2,aK];obtain⟨nb,zb,al,S⟩:=a9.1;have tc:=k5 _ _ S
                    refine Y _ _ ⟨a',⟨e,y1,y2⟩,by simp[v],by simp[A],by simp[B],by simp[D],by simp[F],by simp[bd],by simp[bs],by simp[d],⟨nb,zb,by omega,by rw[af.ai _ _ (za n9)];exact tc⟩,by rw[af.ai _ _ (za a8)];exact t4,af.aj _ _ _,N.PD (by simp[af.del,n9,s9]) ⟨_,t9⟩ λy hy=>af.ai _ _ hy,rfl,by simp only;omega,?_,?_⟩
                    . simp only;revert gd;split<;>omega
                    . simp only;omega))
     clear v A B D F bd bs d iO RK env
     rintro env ab ⟨a',nc,v,A,B,D,F,bd,bs,d,ea,eb,ec,N,gf,gH,gI,gP⟩
     have b1:i<U.length:=by omega
     have K:=N.head.cells;apply rn;simp[v,A,B,D,F,bd,bs,d,K.1,K.2,p.1,p.2,b1];have hp:=N.perm (acn (a:=(aL,1,(C.map Q).map int)) (l₁:=[(a',8,cs.map ij++[ij nc]),(aE,6,(E.map (aS f)).map bx),(aO,1,(E.map Q).map int)]) (l₂:=[(aw,5,ws.map jK)]));have b8:Q (i:Int)=U[i]:=by rw[dm];simp[b1]
     refine aN lay rfl rfl rfl dC rfl dC rfl rp (by decide) (by simp;omega) (σ0:=ab.off aL) (es:=(C.map Q).map int) (xs:=[int U[i]]) (by simpa using hp.head.here.1) (.inr ⟨_,rfl⟩) λeX bB av=>?_
     obtain⟨R,k6⟩:=hp.app av;have ca:=R.head.cells;have t9:=k6 _ _ ec;have t4:=k6 _ _ eb;apply rn;simp[v,A,B,D,F,bd,bs,d,K.1,K.2,p.1,p.2,ca.1,ca.2];obtain⟨nb,zb,al,S⟩:=ea;have tc:=k6 _ _ S;have ed:=R.perm ((acn (a:=(eX,1,(C.map Q).map int++[int U[i]])) (l₁:=[(a',8,cs.map ij++[ij nc]),(aE,6,(E.map (aS f)).map bx),(aO,1,(E.map Q).map int)]) (l₂:=[(aw,5,ws.map jK)])).symm.trans (List.Perm.swap _ _ _))
     refine⟨by omega,ih _ g1 ⟨_,_,aE,a',aO,eX,E,C++[(i:Int)],cs++[nc],rfl,?_,⟨nb,zb,by omega,tc⟩,t4,t9,?_,?_,?_,?_,?_,?_⟩⟩
     . exact by simp[v,A,B,D,F,bd,bs,d,K.1,K.2,p.1,p.2]
     . simpa[b8]using ed
     . simp;omega
     . intro x hx
       rw[<-List.append_assoc]at hx
       rcases aaq.1 hx with q|q
       . exact c5 x q
       . rw[lb.1 q];omega
     . rw[aax,aax,dx];simp[gf,eN]
     . simp;omega
     . intro x hx
       rcases aaq.1 hx with q|q
       . exact dy x q
       . rw[lb.1 q];omega
   | false=>
     have b1:i<U.length:=by omega
     have b8:Q (i:Int)=U[i]:=by rw[dm];simp[b1]
     apply yS (I:=λenv r=>∃ad ax,env 0=.ref c 0/\env 7=.cp (cy f) 0/\env 8=ints U/\env 4=.ref H 0/\env 9=.ref G 0/\env 11=ax/\env 12=aL/\env 13=int i/\bo c nums (k+540+3*i+3) r/\r H=some (.cells [.nil,.nil,int 0,int 0,int 0,int 0,int 0,.nil,.nil])/\r G=some (.cells [ad,rows f.roads,int f.aU,int f.eT,int f.cP,int M,int T,aw,Z])/\oh (σ.del c) r [(ax,1,(E.map Q).map int++[int U[i]]),(ad,6,(E.map (aS f)).map bx++[bx e]),(Z,8,cs.map ij),(aL,1,(C.map Q).map int),(aw,5,ws.map jK)])
     . intro Y
       apply rn;simp[v,A,B,D,F,bd,bs,d,iO,RK,r9,g.1,g.2,u.1,u.2,b1]
       repeat' (first
                 |apply And.intro
                 | (refine aN lay rfl rfl rfl nk rfl nk rfl zw (by decide) (by simp;omega) (σ0:=O.off aE) (es:=(E.map (aS f)).map bx) (xs:=[bx e]) (by simpa using L.head.here.1) (.inr ⟨.exact,by simp⟩) λad ab av=>?_
                    obtain⟨N,k5⟩:=L.app av;have K:=N.head.cells;have t9:=k5 _ _ r9;have t4:=k5 _ _ r4;apply pg;simp[v,A,B,D,F,bd,bs,d,iO,t9,K.1,K.2,u.1,u.2,b1])
                 | (have hp:=N.perm (acn (a:=(aO,1,(E.map Q).map int)) (l₁:=[(ad,6,(E.map (aS f)).map bx++[bx e]),(Z,8,cs.map ij)]) (l₂:=[(aL,1,(C.map Q).map int),(aw,5,ws.map jK)]))
                    refine aN lay rfl rfl rfl dC rfl dC rfl rp (by decide) (by simp;omega) (σ0:=ab.off aO) (es:=(E.map Q).map int) (xs:=[int U[i]]) (by simpa using hp.head.here.1) (.inr ⟨.exact,by simp⟩) λax bB gj=>?_
                    obtain⟨R,k6⟩:=hp.app gj;have cb:=R.head.cells;have x9:=k6 _ _ t9;have x4:=k6 _ _ t4;apply pg;simp[v,A,B,D,F,bd,bs,d,iO,x9,K.1,K.2,cb.1,cb.2,aK];obtain⟨nb,zb,al,S⟩:=b0.1;have tc:=k6 _ _ (k5 _ _ S);exact Y _ _ ⟨ad,ax,by simp[v],by simp[A],by simp[B],by simp[D],by simp[F],by simp,by simp[bs],by simp[d],⟨nb,zb,by omega,by rw[af.ai _ _ (za n9)];exact tc⟩,by rw[af.ai _ _ (za a8)];exact x4,af.aj _ _ _,R.PD (by simp[af.del,n9,s9]) ⟨_,x9⟩ λy hy=>af.ai _ _ hy⟩))
     clear v A B D F bd bs d iO RK env
     rintro env ab ⟨ad,ax,v,A,B,D,F,bd,bs,d,ea,eb,ec,N⟩
     apply rn;simp[v,A,B,D,F,bd,bs,d];have ed:=N.perm ((acn (a:=(ax,1,(E.map Q).map int++[int U[i]])) (l₁:=[(ad,6,(E.map (aS f)).map bx++[bx e]),(Z,8,cs.map ij)]) (l₂:=[(aL,1,(C.map Q).map int),(aw,5,ws.map jK)])).symm);refine⟨by omega,ih _ g1 ⟨_,_,ad,Z,ax,aL,E++[(i:Int)],C,cs,rfl,?_,ea.mono (by omega),eb,ec,?_,?_,?_,dx,eB,dy⟩⟩
     . exact by simp[v,A,B,D,F,bd,bs,d]
     . simpa[b8,eN]using ed
     . simp;omega
     . intro x hx
       rcases aaq.1 hx with q|q
       . rcases aaq.1 q with q|q
         . exact c5 x (List.mem_append_left _ q)
         . rw[lb.1 q];omega
       . exact c5 x (List.mem_append_right _ q)
 . have ei:i=f.aD.length:=by omega
   have fc:aw.cells=[aw]/\aw.flat=true:=(J.2.1 (aw,5,ws.map jK) (by simp)).cells
   simp[v,A,B,D,F,bd,bs,d,V,g.1,g.2,o.1,o.2,u.1,u.2,p.1,p.2,fc.1,fc.2,q4,af.ai,a8,za a8,aK];apply rn;simp[v,A,B,D,F,bd,bs,d,V,g.1,g.2,o.1,o.2,u.1,u.2,p.1,p.2];obtain⟨w,hw⟩:∃w:fP,w=⟨⟨E.map (aS f),f.roads,f.aU,f.eT,f.cP,M⟩,T,ws,cs⟩:=⟨_,rfl⟩
   have ee:EZ cnt w (E.map Q) (C.map Q):=by subst hw;subst dm;exact Qx hS c6.2 c5 (by omega) rfl dx rfl rfl rfl rfl fi fp b4 (show ws.length<=5 by omega) eB dy
   obtain⟨nb,zb,al,S⟩:=dr
   have gl:(AV.agg [aE,rows f.roads,int f.aU,int f.eT,int f.cP,int M,int T,aw,Z]).W (dA w):=by
    subst hw;refine qm rfl λi x y h1 h2=>?_
    match i with
    |0=>cases h1;cases h2;exact J.head.W
    |1=>cases h1;cases h2;exact .refl _
    |2=>cases h1;cases h2;exact .refl _
    |3=>cases h1;cases h2;exact .refl _
    |4=>cases h1;cases h2;exact .refl _
    |5=>cases h1;cases h2;exact .refl _
    |6=>cases h1;cases h2;exact .refl _
    |7=>cases h1;cases h2;exact(J.2.1 (aw,5,ws.map jK) (by simp)).W
    |8=>cases h1;cases h2;exact(J.2.1 (Z,8,cs.map ij) (by simp)).W
    |i+9=>cases h1
   have gp:(AV.cq [.agg [aE,rows f.roads,int f.aU,int f.eT,int f.cP,int M,int T,aw,Z],aO,aL]).W (.cq [dA w,ints (E.map Q),ints (C.map Q)]):=by
    refine NJ rfl λi x y h1 h2=>?_
    match i with
    |0=>cases h1;cases h2;exact gl
    |1=>cases h1;cases h2;exact(J.2.1 (aO,1,(E.map Q).map int) (by simp)).W
    |2=>cases h1;cases h2;exact (J.2.1 (aL,1,(C.map Q).map int) (by simp)).W
    |i+3=>cases h1
   refine .pD gp (.less (σ':=σ.set c (.cells [ints nums,int nb,.lit (.int .u64 zb)])) (λy x hy=>?_) (.done (h w _ _ _ ee ⟨⟨nb,zb,by omega,af.aj _ _ _⟩,λy hy=>af.ai _ _ hy⟩)))
   by_cases y1:y=c
   . subst y1
     rw[af.aj]at hy;rw[af.ai _ _ n4,S];exact hy
   . rw[af.ai _ _ y1]at hy
     have y4:y≠H:=λe=>by subst e;grind
     rw[af.ai _ _ y4];exact J.1 y x (by simpa[af.del,y1]using hy)
end WA
end
end
open Go.cE Go.Conc
variable{m:Mo}{σ:af}{KF:acJ}
theorem E3{w:fP}(d:ns w=0){a b c:acX}(e:∀x∈a,0<=x/\x<=72)(hb:∀x∈b,0<=x/\x<(w.fair.aD.length:Int))(f:∀x∈c,0<=x/\x<(w.aF.length:Int)):eY w a b c=0:=by
 have g:a.all (bz · 0 72)=true:=aap.2 λx q=>by have:=e x q;simp only[bz,zj,KD];omega
 have h:b.all (bz · 0 (w.fair.aD.length-1))=true:=aap.2 λx q=>by have:=hb x q;simp only[bz,zj,KD];omega
 have i:c.all (bz · 0 (w.aF.length-1))=true:=aap.2 λx q=>by have:=f x q;simp only[bz,zj,KD];omega
 unfold eY;rw[aal d,g,h,i,aaj (by simp),aaj (by simp),aaj (by simp)]
theorem GZ{w}(a:w.Valid){c}(f:c<w.aF.length)(b:dB w c<=72):0<=lZ (aB (kC w 72)) c/\jG w c<(oa w).aD.length/\w.fair.aD.length<=(oa w).aD.length:=by
 have d:(c:Int)∈de w 72:=(od a f).2 ⟨b,b⟩;have e:oa w=mh w 72:=by unfold oa;rw[a.kE,a.kC]
 have hlen:(mh w 72).aD.length=w.fair.aD.length+(de w 72).length:=by rw[(rk w 72).len,aas,jV a (abq _),mY,aaC]
 have g:lZ (de w 72) c=(de w 72).idxOf (c:Int):=by unfold lZ;rw[su _ _ _ d];omega
 have:=(nW d).1;rw[e,hlen];unfold jG;rw[a.kC,g];refine⟨by omega,?_,by omega⟩
 push_cast;omega
theorem OG  w   h i :(ua w h i).length<=w.aF.length:=by unfold ua;refine aar (aaU _ _) ?_;rw[mY];exact aao _
theorem G1(G:m.solo=true){nums}(W:nums.length<1152921504606846976)(h:∀σ',KF (.val (bool true)) σ'):xJ prog lay m 9 [ints nums] σ KF:=by
 refine xJ.start lay [] pl9 1 Tryz.func9 rfl rfl (by rfl) (by kernel_rfl) ?_
 simp[Tryz.f9];refine cf Tryz.func10 rfl (J1 λc av hc hb A=>?_)
 apply rn;simp;refine cf Tryz.func11 rfl (WA.GY (by omega) W ⟨by omega,by omega⟩ hb λw own lost ax H hd=>?_)
 refine aa.runN lay [] 6 ?_;simp;refine bM.intro λd I=>?_
 simp[aK]
 change aa _ _ _ _ _ _ _ _ _
 refine aa.bt 4 (b:=d) (dA w) (af.aj _ _ _) (by simp) rfl ?_
 rw[ew I];have q:=H.valid;have hk:=H.CX;have X:=q.open;have c3:=q.GD.1;have h6:=q.px;have ay:=H.lo;have aC:=H.ll;apply rn;simp;refine cf Tryz.func16 rfl (eu (by omega) W (by omega) hd.1 λt1 aE Y J=>?_)
 apply rn;simp;refine cf Tryz.func16 rfl (eu (by omega) W (by omega) J.1 λt2 aL Z a7=>?_)
 apply rn;simp;obtain⟨L,T⟩:∃L:acX,L=[t1,t2,72]:=⟨_,rfl⟩;have aO:L.length=3:=by rw[T];rfl
 have a8:∀x∈L,0<=x/\x<=72:=λx hx=>by rw[T]at hx;simp at hx;omega
 refine aa.HO 7 (a':=ints L) (by rw[T];simp;exact fS 1 _ .exact) ?_
 refine aa.jd (λenv _=>env 4=.cp (dA w) 0/\env 5=ints own/\env 6=ints lost/\env 7=ints L/\env 8=int 0) ?_ ?_
 . exact⟨by simp,by simp,by simp,by simp,by simp⟩
 clear T Y Z hd J a7 hb A hc I
 rintro env o ⟨e,f,g,j,l⟩
 refine aa.loop lost.length (λc s=>∃env σ',s=⟨env,σ',[],.no⟩/\env 4=.cp (dA w) 0/\env 5=ints own/\env 6=ints lost/\env 7=ints L/\env 8=int c) ⟨env,o,rfl,e,f,g,j,l⟩ ?_
 clear e f g j l env o
 rintro c0 c _ b0 ⟨env,o,rfl,e,f,g,j,l⟩ ih
 apply rn;simp[e,f,g,j,l];refine aH.intro (λB=>?_) (λB=>?_)<;>(try simp[-Int.not_lt,-Int.not_le,-Nat.not_lt,-Nat.not_le]at B)<;>(try simp[e,f,g,j,l,B])
 . have r:c<w.aF.length:=by omega
   have u:c<3:=by omega
   have U:eY w [] [] [(c:Int)]=0:=E3 hk (by simp) (by simp) (by simp;omega)
   have K:=GZ q r
   by_cases V:72<dB w c
   . refine cf Tryz.func15 rfl (qC G q.zF u U ?_)
     rw[aal V];apply rn;simp[e,f,g,j,l];refine cf Tryz.func31 rfl (vS G q.zF X u K U ?_);rw[aal V];apply rn;simp[e,f,g,j,l];refine aa.loop 0 (λ_ s=>∃env σ',s=⟨env,σ',[],.no⟩/\env 4=.cp (dA w) 0/\env 5=ints own/\env 6=ints lost/\env 7=ints L/\env 8=int c/\env 10=int 11/\env 13=int 0) ?_ ?_
     . exact⟨_,_,rfl,by simp[e,f,g,j,l],by simp[e,f,g,j,l],by simp[e,f,g,j,l],by simp[e,f,g,j,l],by simp[e,f,g,j,l],by simp,by simp⟩
     clear e f g j l env o
     rintro c1 i _ hi ⟨env,o,rfl,e,f,g,j,l,aZ,a⟩ C
     by_cases z:0<own.length
     . apply rn
       simp[e,f,g,j,l,aZ,a,z];refine⟨by omega,ih _ B ⟨_,_,rfl,by simp[e,f,g,j,l,aZ,a],by simp[e,f,g,j,l,aZ,a],by simp[e,f,g,j,l,aZ,a],by simp[e,f,g,j,l,aZ,a],by simp⟩⟩
     . apply rn
       simp[e,f,g,j,l,aZ,a,z];refine⟨by omega,ih _ B ⟨_,_,rfl,by simp[e,f,g,j,l,aZ,a],by simp[e,f,g,j,l,aZ,a],by simp[e,f,g,j,l,aZ,a],by simp[e,f,g,j,l,aZ,a],by simp⟩⟩
   . obtain ⟨v,M⟩:∃v,v=mq w c:=⟨_,rfl⟩
     obtain⟨N,a9⟩:∃N,N=dB w c:=⟨_,rfl⟩;have O:dB w c<=72:=by omega
     refine cf Tryz.func15 rfl (qC G q.zF u U ?_);rw[aaj V,<-a9];apply rn;simp[e,f,g,j,l];refine cf Tryz.func31 rfl (vS G q.zF X u K U ?_);rw[aaj V,<-M];apply rn;simp[e,f,g,j,l];refine aa.loop own.length (λi s=>∃env σ',s=⟨env,σ',[],.no⟩/\env 4=.cp (dA w) 0/\env 5=ints own/\env 6=ints lost/\env 7=ints L/\env 8=int c/\env 9=int N/\env 10=int 0/\env 11=int v/\env 12=int 0/\env 13=int i) ?_ ?_
     . exact⟨_,_,rfl,by simp[e,f,g,j,l],by simp[e,f,g,j,l],by simp[e,f,g,j,l],by simp[e,f,g,j,l],by simp[e,f,g,j,l],by simp,by simp,by simp,by simp,by simp⟩
     clear e f g j l env o
     rintro c1 i _ hi ⟨env,o,rfl,e,f,g,j,l,n,aZ,bd,bs,a⟩ C
     apply rn
     by_cases z:i<own.length
     . simp [e,f,g,j,l,n,aZ,bd,bs,a,z]
       have p:i<w.fair.aD.length:=by omega
       have D:own[i]?=some own[i]:=zR z;have E:lost[c]?=some lost[c]:=zR B;have ab:own.getD i 0=lost.getD c 0↔own[i]=lost[c]:=by rw[zs,zs,D,E];rfl
       by_cases g3:own[i]=lost[c]
       . have he:=ab.2 g3
         have ad:v≠2:=by rw[M];exact yT H p r he O
         have P:(v==2)=false:=by rw[beq_eq_false_iff_ne];exact ad
         have Q:∀t:Int,dB w c<=t->w.fair.aD[i].hour<=t->(c:Int)∈ua w t i:=λt q1 q2=>E0 H p r he ⟨(Kr p).2 (by simpa[aS,p]using q2),(od q r).2 ⟨O,q1⟩⟩
         simp[e,f,g,j,l,n,aZ,bd,bs,a,D,E,g3];apply rn;simp[e,f,g,j,l,n,aZ,bd,bs,a,P];refine aa.loop 3 (λk s=>∃env σ',s=⟨env,σ',[],.no⟩/\env 4=.cp (dA w) 0/\env 5=ints own/\env 6=ints lost/\env 7=ints L/\env 8=int c/\env 9=int N/\env 10=int 0/\env 11=int v/\env 12=int 0/\env 13=int i/\env 14=int k) ?_ ?_
         . exact⟨_,_,rfl,by simp[e,f,g,j,l,n,aZ,bd,bs,a],by simp[e,f,g,j,l,n,aZ,bd,bs,a],by simp[e,f,g,j,l,n,aZ,bd,bs,a],by simp[e,f,g,j,l,n,aZ,bd,bs,a],by simp[e,f,g,j,l,n,aZ,bd,bs,a],by simp[e,f,g,j,l,n,aZ,bd,bs,a],by simp[e,f,g,j,l,n,aZ,bd,bs,a],by simp[e,f,g,j,l,n,aZ,bd,bs,a],by simp[e,f,g,j,l,n,aZ,bd,bs,a],by simp[e,f,g,j,l,n,aZ,bd,bs,a],by simp⟩
         clear e f g j l n aZ bd bs a env o
         rintro c2 k _ b1 ⟨env,o,rfl,e,f,g,j,l,n,aZ,bd,bs,a,iO⟩ F
         apply rn;simp[e,f,g,j,l,n,aZ,bd,bs,a,iO];refine aH.intro (λR=>?_) (λR=>?_)<;>(try simp[-Int.not_lt,-Int.not_le,-Nat.not_lt,-Nat.not_le]at R)<;>(try simp[e,f,g,j,l,n,aZ,bd,bs,a,iO,R])
         . obtain⟨t,ht⟩:∃t,t=L[k]:=⟨_,rfl⟩
           have b2:=a8 t (ht ▸ zD R);have y:L[k]?=some t:=by rw[ht];exact zR R
           have S:w.fair.aD[i]?=some w.fair.aD[i]:=zR p;simp only[<-ht]
           by_cases g5:t<N
           . simp[e,f,g,j,l,n,aZ,bd,bs,a,iO,y,g5]
             apply rn;simp[e,f,g,j,l,n,aZ,bd,bs,a,iO]
             refine⟨by omega,F _ (by omega) ⟨_,_,rfl,by simp[e,f,g,j,l,n,aZ,bd,bs,a,iO],by simp[e,f,g,j,l,n,aZ,bd,bs,a,iO],by simp[e,f,g,j,l,n,aZ,bd,bs,a,iO],by simp[e,f,g,j,l,n,aZ,bd,bs,a,iO],by simp[e,f,g,j,l,n,aZ,bd,bs,a,iO],by simp[e,f,g,j,l,n,aZ,bd,bs,a,iO],by simp[e,f,g,j,l,n,aZ,bd,bs,a,iO],by simp[e,f,g,j,l,n,aZ,bd,bs,a,iO],by simp[e,f,g,j,l,n,aZ,bd,bs,a,iO],by simp[e,f,g,j,l,n,aZ,bd,bs,a,iO],by simp⟩⟩
           . by_cases g6:t<w.fair.aD[i].hour
             . simp[e,f,g,j,l,n,aZ,bd,bs,a,iO,y,g5,S,g6]
               apply rn;simp[e,f,g,j,l,n,aZ,bd,bs,a,iO]
               refine⟨by omega,F _ (by omega) ⟨_,_,rfl,by simp[e,f,g,j,l,n,aZ,bd,bs,a,iO],by simp[e,f,g,j,l,n,aZ,bd,bs,a,iO],by simp[e,f,g,j,l,n,aZ,bd,bs,a,iO],by simp[e,f,g,j,l,n,aZ,bd,bs,a,iO],by simp[e,f,g,j,l,n,aZ,bd,bs,a,iO],by simp[e,f,g,j,l,n,aZ,bd,bs,a,iO],by simp[e,f,g,j,l,n,aZ,bd,bs,a,iO],by simp[e,f,g,j,l,n,aZ,bd,bs,a,iO],by simp[e,f,g,j,l,n,aZ,bd,bs,a,iO],by simp[e,f,g,j,l,n,aZ,bd,bs,a,iO],by simp⟩⟩
             . have ow:eY w [t] [(i:Int)] []=0:=E3 hk (by simp;omega) (by simp;omega) (by simp)
               have al:=Q t (by omega) (by omega)
               have b3:=OG w t i;have b4:=(kq (ua w t i) c).2 al;have n3:¬lZ (ua w t i) c<0:=by omega
               simp[e,f,g,j,l,n,aZ,bd,bs,a,iO,y,g5,S,g6];apply rn;simp[e,f,g,j,l,n,aZ,bd,bs,a,iO];simp[e,f,g,j,l,n,aZ,bd,bs,a,iO,y];refine cf Tryz.func24 rfl (Ql G q.zF X (by omega) ow ?_)
               apply pg;simp[e,f,g,j,l,n,aZ,bd,bs,a,iO];apply rn;simp[e,f,g,j,l,n,aZ,bd,bs,a,iO];refine cf Tryz.func21 rfl (qh (by omega) ?_)
               apply rn;simp[e,f,g,j,l,n,aZ,bd,bs,a,iO,n3]
               refine⟨by omega,F _ (by omega) ⟨_,_,rfl,by simp[e,f,g,j,l,n,aZ,bd,bs,a,iO],by simp[e,f,g,j,l,n,aZ,bd,bs,a,iO],by simp[e,f,g,j,l,n,aZ,bd,bs,a,iO],by simp[e,f,g,j,l,n,aZ,bd,bs,a,iO],by simp[e,f,g,j,l,n,aZ,bd,bs,a,iO],by simp[e,f,g,j,l,n,aZ,bd,bs,a,iO],by simp[e,f,g,j,l,n,aZ,bd,bs,a,iO],by simp[e,f,g,j,l,n,aZ,bd,bs,a,iO],by simp[e,f,g,j,l,n,aZ,bd,bs,a,iO],by simp[e,f,g,j,l,n,aZ,bd,bs,a,iO],by simp⟩⟩
         . refine⟨by omega,C _ z ⟨_,_,rfl,by simp[e,f,g,j,l,n,aZ,bd,bs,a,iO],by simp[e,f,g,j,l,n,aZ,bd,bs,a,iO],by simp[e,f,g,j,l,n,aZ,bd,bs,a,iO],by simp[e,f,g,j,l,n,aZ,bd,bs,a,iO],by simp[e,f,g,j,l,n,aZ,bd,bs,a,iO],by simp[e,f,g,j,l,n,aZ,bd,bs,a,iO],by simp[e,f,g,j,l,n,aZ,bd,bs,a,iO],by simp[e,f,g,j,l,n,aZ,bd,bs,a,iO],by simp[e,f,g,j,l,n,aZ,bd,bs,a,iO],by simp⟩⟩
       . have hb:(own[i] !=lost[c])=true:=by simp[g3]
         simp[e,f,g,j,l,n,aZ,bd,bs,a,D,E];apply rn;simp[e,f,g,j,l,n,aZ,bd,bs,a,hb];refine⟨by omega,C _ z ⟨_,_,rfl,by simp[e,f,g,j,l,n,aZ,bd,bs,a],by simp[e,f,g,j,l,n,aZ,bd,bs,a],by simp[e,f,g,j,l,n,aZ,bd,bs,a],by simp[e,f,g,j,l,n,aZ,bd,bs,a],by simp[e,f,g,j,l,n,aZ,bd,bs,a],by simp[e,f,g,j,l,n,aZ,bd,bs,a],by simp[e,f,g,j,l,n,aZ,bd,bs,a],by simp[e,f,g,j,l,n,aZ,bd,bs,a],by simp[e,f,g,j,l,n,aZ,bd,bs,a],by simp⟩⟩
     . simp[e,f,g,j,l,n,aZ,bd,bs,a,z]
       refine⟨by omega,ih _ B ⟨_,_,rfl,by simp[e,f,g,j,l,n,aZ,bd,bs,a],by simp[e,f,g,j,l,n,aZ,bd,bs,a],by simp[e,f,g,j,l,n,aZ,bd,bs,a],by simp[e,f,g,j,l,n,aZ,bd,bs,a],by simp⟩⟩
 . refine cf Tryz.func14 rfl (OD G ?_)
   apply rn;simp[e,f,g,j,l];exact .done (h _)

import Derived.Test.YtebcbkhnlnkolaaGreatDoorC20
set_option linter.all false
set_option maxHeartbeats 2000000
set_option maxRecDepth 4000
namespace Go.Proofs.YtebcbkhnlnkolaaGreatDoor
open Go.Proofs.Tryz (prog)
section
open Go Go.ck Go.Conc
variable{m:Mo}{σ:ab}{KF:adw}
theorem HG{a b c a' b' c' d e f g h i:AV}(m:a.W a')(n:b.W b')(o:c.W c')(j:Nat)(x y:AV)(k:[a,d,e,f,g,h,i,b,c][j]?=some x)(l:[a',d,e,f,g,h,i,b',c'][j]?=some y):x.W y:=by
 match j with
 |0=>simp_all
 |7=>simp_all
 |8=>simp_all
 |1|2|3|4|5|6=>cases k;cases l;exact .refl _
 |j+9=>cases k
structure zS(σ0 σ:ab)(a:AV)(ws:adN)(c c4 c9:Nat):Prop where
 tok:bj σ0 σ a 5 (ws.map cG)
 nc:bd a≠some c
 n4:bd a≠some c4
 n9:bd a≠some c9
theorem zS.PT{σ0 σ σ2:ab}{a:AV}{ws:adN}{c f g d:Nat}(h:zS σ0 σ a ws c f g)(k:σ0 d=none)(hd:bd a≠some d)(i:∀y,y≠d->σ2 y=σ y):zS σ0 σ2 a ws c f g:=⟨h.tok.keep (λy x j=>by rw[i y λe=>by simp_all];exact h.tok.1 y x j) λb hb=>⟨i b λe=>hd (by rw[hb,e]),(h.tok.cx hb).1⟩,h.nc,h.n4,h.n9⟩
theorem zS.app{σ0 σ b:ab}{a a':AV}{ws:adN}{x:Way}{c e f:Nat}(h:zS σ0 σ a ws c e f)(g:bj (σ.sn a) b a' 5 (ws.map cG++[cG x]))(j:∃v,σ c=some v)(k:∃v,σ e=some v)(l:∃v,σ f=some v):zS σ0 b a' (ws++[x]) c e f/\∀y v,bd a≠some y->σ y=some v->b y=some v:=by
 have key:∀y,bd a≠some y->(∃v,σ y=some v)->bd a'≠some y:=λy i d q=>by obtain⟨v,d⟩:=d;have:=(g.cx q).1;rw[ab.gk i,d]at this;cases this
 refine⟨⟨?_,key c h.nc j,key e h.n4 k,key f h.n9 l⟩,λy v i d=>g.1 _ _ (by rw[ab.gk i];exact d)⟩
 rw[aaJ];exact g.base h.tok.here.2
section
variable{c k:Nat}{nums:adK}
namespace WO
abbrev YJ:adB:=[⟨11,.take [0,2,3,8] false (.both 1 (.one 4 (.one 5 (.one 6 (.one 7 (.one 9 (.done)))))) (.one 4 (.both 1 (.one 5 (.one 6 (.one 7 (.one 9 (.done))))) (.one 5 (.both 1 (.one 6 (.one 7 (.one 9 (.done)))) (.one 6 (.take [1] true (.one 7 (.one 9 (.done))))))))))⟩,⟨18,.take [0,2,3,4,8,9,10,11,12,13,19] false (.both 1 (.both 5 (.take [6] false (.both 7 (.one 14 (.one 15 (.one 16 (.one 17 (.one 18 (.one 20 (.done))))))) (.one 14 (.one 7 (.one 15 (.one 16 (.one 17 (.one 18 (.one 20 (.done)))))))))) (.one 14 (.one 5 (.take [6] false (.one 7 (.one 15 (.one 16 (.one 17 (.one 18 (.one 20 (.done))))))))))) (.both 5 (.take [6] false (.both 1 (.both 7 (.one 14 (.one 15 (.one 16 (.one 17 (.one 18 (.one 20 (.done))))))) (.one 14 (.one 7 (.one 15 (.one 16 (.one 17 (.one 18 (.one 20 (.done))))))))) (.both 7 (.both 1 (.one 14 (.one 15 (.one 16 (.one 17 (.one 18 (.one 20 (.done))))))) (.one 14 (.both 1 (.one 15 (.one 16 (.one 17 (.one 18 (.one 20 (.done)))))) (.one 15 (.both 1 (.one 16 (.one 17 (.one 18 (.one 20 (.done))))) (.one 16 (.both 1 (.one 17 (.one 18 (.one 20 (.done)))) (.one 17 (.take [1] true (.one 18 (.one 20 (.done)))))))))))) (.one 14 (.both 1 (.one 7 (.one 15 (.one 16 (.one 17 (.one 18 (.one 20 (.done))))))) (.one 7 (.both 1 (.one 15 (.one 16 (.one 17 (.one 18 (.one 20 (.done)))))) (.one 15 (.both 1 (.one 16 (.one 17 (.one 18 (.one 20 (.done))))) (.one 16 (.both 1 (.one 17 (.one 18 (.one 20 (.done)))) (.one 17 (.take [1] true (.one 18 (.one 20 (.done)))))))))))))))) (.one 14 (.both 1 (.one 5 (.take [6] false (.one 7 (.one 15 (.one 16 (.one 17 (.one 18 (.one 20 (.done))))))))) (.one 5 (.take [6] false (.both 1 (.one 7 (.one 15 (.one 16 (.one 17 (.one 18 (.one 20 (.done))))))) (.one 7 (.both 1 (.one 15 (.one 16 (.one 17 (.one 18 (.one 20 (.done)))))) (.one 15 (.both 1 (.one 16 (.one 17 (.one 18 (.one 20 (.done))))) (.one 16 (.both 1 (.one 17 (.one 18 (.one 20 (.done)))) (.one 17 (.take [1] true (.one 18 (.one 20 (.done))))))))))))))))))⟩,⟨20,.take [0,1,3,6,7,8,9,10,13,14] false (.both 2 (.both 4 (.both 5 (.one 11 (.one 12 (.take [16] false (.one 15 (.done))))) (.one 11 (.one 5 (.one 12 (.take [16] false (.one 15 (.done))))))) (.one 11 (.one 4 (.one 5 (.one 12 (.take [16] false (.one 15 (.done)))))))) (.both 4 (.both 2 (.both 5 (.one 11 (.one 12 (.take [16] false (.one 15 (.done))))) (.one 11 (.one 5 (.one 12 (.take [16] false (.one 15 (.done))))))) (.one 11 (.one 2 (.one 5 (.one 12 (.take [16] false (.one 15 (.done)))))))) (.one 11 (.both 2 (.one 4 (.one 5 (.one 12 (.take [16] false (.one 15 (.done)))))) (.one 4 (.one 2 (.one 5 (.one 12 (.take [16] false (.one 15 (.done)))))))))))⟩]
theorem FN{cnt:Int}(hk:k+600<1000000)(hn:nums.length<1152921504606846976)(bx:1<=cnt/\cnt<=6)(hb:aU c nums k σ)(h:∀(w:eG) (own lost:adK) aw σ',PB cnt w own lost->aU c nums (k+600) σ'->bj (σ.del c) σ' aw 5 (w.ways.map cG)->bd aw≠some c->KF (.val (.cH [.agg (Ay w aw (fV w.au)),ints own,ints lost])) σ'):aB prog m 11 [.ref c 0,ι cnt] σ KF:=by
 obtain⟨n0,s0,_,eW⟩:=id hb;refine fs YJ Tryz.func11 rfl (by kernel_rfl) ?_
 simp[Tryz.f11];refine bP.intro λp h4=>?_
 have n4:c≠p:=λe=>by simp_all
 have a9:∀x,aU c nums k (σ.set p x):=λx=>⟨n0,s0,by assumption,by rw[ab.ah _ _ n4];exact eW⟩
 simp;refine cf Tryz.func32 rfl (Lq (by omega) hn bx (a9 _) λf Q ec hS b0=>?_)
 refine aa.runN lay [] 6 ?_;simp;refine bP.intro λc7 h7=>?_
 simp[aG]
 change aa _ _ _ _ _ _ _ _ _
 refine aa.bE 7 (b:=c7) (dv f) (ab.ai _ _ _) (by simp) rfl ?_
 rw[gE h7];clear h7;apply rn;simp;refine bP.intro λg h9=>?_
 have u4:ec p=some (.cells [.nil,.nil,ι 0,ι 0,ι 0,ι 0,ι 0,.nil,.nil]):=by rw[b0.2 p (wK n4),ab.ai]
 have n9:g≠c:=λe=>by subst e;obtain⟨_,_,_,q⟩:=b0.1;simp_all
 have ad:g≠p:=λe=>by simp_all
 simp[aG]
 have N:∀X,aU c nums (k+500) (ec.set g X):=λX=>by obtain⟨n,z,g1,g2⟩:=b0.1;exact⟨n,z,g1,by rw[ab.ah _ _ (wK n9)];exact g2⟩
 refine cf Tryz.func33 rfl (xl (by omega) hn (by omega) (N _) λon J b1=>?_)
 refine aa.runN lay [] 3 ?_;simp;obtain⟨M,hM⟩:∃M:Int,M=if on=true then 6 else f.aT:=⟨_,rfl⟩
 apply Au
 . intro key
   have v9:J g=some (.cells [.nil,rows f.roads,ι f.aK,ι f.dE,ι f.cP,ι f.aT,ι 0,.nil,.nil]):=by rw[b1.2 g n9,ab.ai]
   have v4:J p=some (.cells [.nil,.nil,ι 0,ι 0,ι 0,ι 0,ι 0,.nil,.nil]):=by rw[b1.2 p (wK n4),ab.ah _ _ (wK ad)];exact u4
   have vk:∀y,y≠c->y≠p->y≠g->J y=σ y:=λy y1 y2 y3=>by rw[b1.2 y y1,ab.ah _ _ y3,b0.2 y y1,ab.ah _ _ y2]
   cases on with
   | false=>
     simp;refine aa.runN lay [] 1 ?_;simp;refine aa.dX (λenv σ'=>env 0=.ref c 0/\env 7=.cp (dv f) 0/\env 8=ints Q/\env 4=.ref p 0/\env 9=.ref g 0/\aU c nums (k+501) σ'/\σ' p=some (.cells [.nil,.nil,ι 0,ι 0,ι 0,ι 0,ι 0,.nil,.nil])/\σ' g=some (.cells [.nil,rows f.roads,ι f.aK,ι f.dE,ι f.cP,ι M,ι 0,.nil,.nil])/\∀y,y≠c->y≠p->y≠g->σ' y=σ y) ?_ ?_
     . exact⟨by simp,by simp,by simp,by simp,by simp,b1.1,v4,by rw[hM];exact v9,vk⟩
     exact key
   | true=>
     simp;refine aa.runN lay [] 5 ?_;simp[v9,aG];obtain⟨n,z,g1,g2⟩:=b1.1;refine aa.dX (λenv σ'=>env 0=.ref c 0/\env 7=.cp (dv f) 0/\env 8=ints Q/\env 4=.ref p 0/\env 9=.ref g 0/\aU c nums (k+501) σ'/\σ' p=some (.cells [.nil,.nil,ι 0,ι 0,ι 0,ι 0,ι 0,.nil,.nil])/\σ' g=some (.cells [.nil,rows f.roads,ι f.aK,ι f.dE,ι f.cP,ι M,ι 0,.nil,.nil])/\∀y,y≠c->y≠p->y≠g->σ' y=σ y) ?_ ?_
     . exact⟨by simp,by simp,by simp,by simp,by simp,⟨n,z,g1,by rw[ab.ah _ _ (wK n9)];exact g2⟩,by rw[ab.ah _ _ (wK ad)];exact v4,by rw[hM];exact ab.ai _ _ _,λy y1 y2 y3=>by rw[ab.ah _ _ y3];exact vk y y1 y2 y3⟩
     exact key
 have eX:f.aT<=M/\M<=6:=by have:=hS.oh.aT;omega
 have s9:σ g=none:=by rw[<-h9,b0.2 g n9,ab.ah _ _ ad]
 rintro env ed ⟨v,D,F,G,u,b8,u4,u9,fa⟩
 apply rn;simp[v];refine cf Tryz.func13 rfl (eP (by omega) hn (by omega) (by omega) b8 λT b9 hT V=>?_)
 have fc:1<=T/\T<=4:=by omega
 have v9:b9 g=some (.cells [.nil,rows f.roads,ι f.aK,ι f.dE,ι f.cP,ι M,ι 0,.nil,.nil]):=by rw[V.2 g n9];exact u9
 apply rn;simp[v,u,v9,aG]
 have fg:∀X,aU c nums (k+502) (b9.set g X):=λX=>by obtain⟨n,z,g1,g2⟩:=V.1;exact⟨n,z,by omega,by rw[ab.ah _ _ (wK n9)];exact g2⟩
 refine cf Tryz.func16 rfl (fD (by omega) hn (by omega) (fg _) λx Y hx bc=>?_)
 have gp:0<=x/\x<=5:=by omega
 obtain⟨X,hX⟩:∃X:Nat,(X:Int)=x:=⟨x.toNat,by omega⟩
 apply rn;simp
 have fi:(σ.del c).Le Y:=λy z hy=>by
  have y1:y≠c:=λe=>by subst e;simp[ab.del]at hy
  have y0:σ y=some z:=by simpa[ab.del,y1]using hy
  have y4:y≠p:=λe=>by simp_all
  have y9:y≠g:=λe=>by simp_all
  rw[bc.2 y y1,ab.ah _ _ y9,V.2 y y1,fa y y1 y4 y9];exact y0
 have ee:zS (σ.del c) Y .nil [] c p g:=⟨⟨fi,.inl ⟨rfl,.inl rfl⟩⟩,by simp[bd],by simp[bd],by simp[bd]⟩
 have eg:aU c nums (k+503+7*0) Y:=bc.1.mono (by omega)
 refine Au (P:=?P2) (λkey=>?f2) ?p2
 case f2=>
  refine aa.loop X (λj s=>∃env σ' aw ws,s=⟨env,σ',[],.no⟩/\(env 0=.ref c 0/\env 7=.cp (dv f) 0/\env 8=ints Q/\env 4=.ref p 0/\env 9=.ref g 0/\env 10=ι (X-j))/\aU c nums (k+503+7*j) σ'/\σ' p=some (.cells [.nil,.nil,ι 0,ι 0,ι 0,ι 0,ι 0,.nil,.nil])/\σ' g=some (.cells [.nil,rows f.roads,ι f.aK,ι f.dE,ι f.cP,ι M,ι T,aw,.nil])/\zS (σ.del c) σ' aw (ws:adN) c p g/\ws.length<=j/\∀x∈ws,jf T x=0) ?_ ?_
  . exact⟨_,_,.nil,[],rfl,⟨by simp[v],by simp[D],by simp[F],by simp[G],by simp[u],by simp[hX]⟩,eg,by rw[bc.2 p (wK n4),ab.ah _ _ (wK ad),V.2 p (wK n4)];exact u4,by rw[bc.2 g n9,ab.ai],ee,by simp,by simp⟩
  rintro c0 j _ hj ⟨env,σ',aw,ws,rfl,⟨v,D,F,G,u,cN⟩,bB,q4,q9,A,fl,b2⟩ ih
  have gw:=A.tok.cells;apply rn;simp[cN];refine vM.intro (λg1=>?_) (λg1=>?_)<;>(try simp[-Int.not_lt,-Int.not_le,-Nat.not_lt,-Nat.not_le]at g1)<;>(try simp[u,q9,g1])
  rotate_left
  . have c5:k+503+7*j<=k+540:=by omega
    have c6:ws.length<=5:=by omega
    refine aa.dX (λenv σ'=>∃aw ws,env 0=.ref c 0/\env 7=.cp (dv f) 0/\env 8=ints Q/\env 4=.ref p 0/\env 9=.ref g 0/\env 11=.nil/\env 12=.nil/\env 13=ι 0/\aU c nums (k+540) σ'/\σ' p=some (.cells [.nil,.nil,ι 0,ι 0,ι 0,ι 0,ι 0,.nil,.nil])/\σ' g=some (.cells [.nil,rows f.roads,ι f.aK,ι f.dE,ι f.cP,ι M,ι T,aw,.nil])/\zS (σ.del c) σ' aw (ws:adN) c p g/\ws.length<=5/\∀x∈ws,jf T x=0) ?_ ?_
    . exact⟨aw,ws,by simp[v],by simp[D],by simp[F],by simp[G],by simp[u],by simp,by simp,by simp,bB.mono c5,q4,q9,A,c6,b2⟩
    exact key
  refine aI.intro (λg2=>?_) (λg2=>?_)<;>(try simp[-Int.not_lt,-Int.not_le,-Nat.not_lt,-Nat.not_le]at g2)<;>(try simp[v,u,q9,g2])
  rotate_left
  . have c5:k+503+7*j<=k+540:=by omega
    have c6:ws.length<=5:=by omega
    refine aa.dX (λenv σ'=>∃aw ws,env 0=.ref c 0/\env 7=.cp (dv f) 0/\env 8=ints Q/\env 4=.ref p 0/\env 9=.ref g 0/\env 11=.nil/\env 12=.nil/\env 13=ι 0/\aU c nums (k+540) σ'/\σ' p=some (.cells [.nil,.nil,ι 0,ι 0,ι 0,ι 0,ι 0,.nil,.nil])/\σ' g=some (.cells [.nil,rows f.roads,ι f.aK,ι f.dE,ι f.cP,ι M,ι T,aw,.nil])/\zS (σ.del c) σ' aw (ws:adN) c p g/\ws.length<=5/\∀x∈ws,jf T x=0) ?_ ?_
    . exact⟨aw,ws,by simp[v],by simp[D],by simp[F],by simp[G],by simp[u],by simp,by simp,by simp,bB.mono c5,q4,q9,A,c6,b2⟩
    exact key
  apply wx (I:=λenv d=>∃a' x,env 0=.ref c 0/\env 7=.cp (dv f) 0/\env 8=ints Q/\env 4=.ref p 0/\env 9=.ref g 0/\env 10=ι (X-j)/\jf T x=0/\aU c nums (k+503+7*j+7) d/\d p=some (.cells [.nil,.nil,ι 0,ι 0,ι 0,ι 0,ι 0,.nil,.nil])/\d g=some (.cells [.nil,rows f.roads,ι f.aK,ι f.dE,ι f.cP,ι M,ι T,a',.nil])/\zS (σ.del c) d a' (ws++[x]) c p g)
  . intro R
    repeat' (first
              |apply And.intro
              | (refine cf Tryz.func34 rfl (WY.Pv (by omega) hn (by omega) bB λx J ca hd=>?_)
                 have r:=A.PT (by simp[ab.del]) A.nc hd.2
                 have ej:=r.tok.cells;have r9:J g=some (.cells [.nil,rows f.roads,ι f.aK,ι f.dE,ι f.cP,ι M,ι T,aw,.nil]):=by rw[hd.2 g n9];exact q9
                 have r4:J p=some (.cells [.nil,.nil,ι 0,ι 0,ι 0,ι 0,ι 0,.nil,.nil]):=by rw[hd.2 p (wK n4)];exact q4
                 apply pg;simp[v,D,F,G,u,cN,r9,ej.1,ej.2])
              | (refine gi lay rfl rfl rfl Ns rfl Ns rfl Tj (by decide) (by simp;omega) (σ0:=J.sn aw) (es:=ws.map cG) (xs:=[cG x]) (by simpa using r.tok.here.1) (.inl (.inr ⟨_,by simp;rfl⟩)) (by simp) λa' ed al=>?_
                 obtain⟨a7,k3⟩:=r.app al hd.1.at ⟨_,r4⟩ ⟨_,r9⟩;have S:=a7.tok.cells;have t9:=k3 _ _ r.n9 r9;have t4:=k3 _ _ r.n4 r4;apply pg;simp[v,D,F,G,u,cN,t9,S.1,S.2,aG];obtain⟨nb,zb,a9,N⟩:=hd.1;have tc:=k3 _ _ r.nc N;refine R _ _ ⟨a',x,by simp[v],by simp[D],by simp[F],by simp[G],by simp[u],by simp[cN],ca,⟨nb,zb,a9,by rw[ab.ah _ _ (wK n9)];exact tc⟩,by rw[ab.ah _ _ (wK ad)];exact t4,ab.ai _ _ _,?_⟩
                 exact (a7.PT (by simp[ab.del,n9,s9]) a7.n9 λy hy=>ab.ah _ _ hy)))
  clear v D F G u cN env
  rintro env J ⟨a',x,v,D,F,G,u,cN,ca,N,r4,r9,r⟩
  apply rn;simp[cN];have r1:-9223372036854775808<=(X:Int)-j-1/\(X:Int)-j-1<=9223372036854775807:=by omega
  refine⟨r1,ih _ g1 ⟨_,_,a',ws++[x],rfl,⟨by simp[v],by simp[D],by simp[F],by simp[G],by simp[u],?_⟩,?_,r4,r9,?_,?_,?_⟩⟩
  . simp;omega
  . omega
  . exact r
  . simp;omega
  intro y hy
  rcases KD.1 hy with q|q
  . exact b2 y q
  rw[lb.1 q];exact ca
 case p2=>
 clear v D F G u env
 rintro env O ⟨aw,ws,v,D,F,G,u,dw,fI,o,ep,et,ev,L,fl,b2⟩
 obtain⟨K,cb⟩:∃K:Int->Int,K=λi=>Q.getD i.toNat 0:=⟨_,rfl⟩
 have h6:=hS.oh.nK;have gx:=hS.len;have gA:Q.length=f.aA.length:=by obtain⟨_,_,_,_,q,_⟩:=hS.seen;exact q.len
 have fp:∀e∈f.aA,0<=e.hour/\e.hour<=72:=λe he=>(oi (hS.oh.rX e he)).1
 apply rn;simp;have Z:=L;have ft:=Z.tok.cells
 have ax:((O.del c).del g).Le O:=λy x hy=>by
  unfold ab.del at hy
  simp_all
 have cg:∀y,y≠c->y≠g->((O.del c).del g) y=O y:=λy y1 y2=>by simp[ab.del,y1,y2]
 have bm:((O.del c).del g) c=none:=by simp[ab.del]
 have cm:((O.del c).del g) g=none:=by simp[ab.del]
 obtain⟨B,hB⟩:∃B,B=(O.del c).del g:=⟨_,rfl⟩;rw[<-hB]at ax bm cm;simp only[<-hB]at cg
 have b3:sN B O [(.nil,6,(([]:adK).map (aP f)).map bb),(.nil,8,([]:List pS).map cT),(.nil,1,(([]:adK).map K).map ι),(.nil,1,(([]:adK).map K).map ι)]:=by
  have n0:∀kk,Tok B O .nil kk []:=λkk=>⟨ax,.inl ⟨rfl,rfl⟩⟩
  refine⟨ax,λt q=>?_,?_⟩
  . simp at q
    grind
  simp[bC]
 refine aa.loop f.aA.length (λi s=>∃env σ' aE aC aO U E C cs,s=⟨env,σ',[],.no⟩/\(env 0=.ref c 0/\env 7=.cp (dv f) 0/\env 8=ints Q/\env 4=.ref p 0/\env 9=.ref g 0/\env 11=aO/\env 12=U/\env 13=ι i)/\aU c nums (k+540+3*i) σ'/\σ' p=some (.cells [.nil,.nil,ι 0,ι 0,ι 0,ι 0,ι 0,.nil,.nil])/\σ' g=some (.cells [aE,rows f.roads,ι f.aK,ι f.dE,ι f.cP,ι M,ι T,aw,aC])/\sN B σ' [(aE,6,((E:adK).map (aP f)).map bb),(aC,8,(cs:List pS).map cT),(aO,1,(E.map K).map ι),(U,1,((C:adK).map K).map ι)]/\E.length+C.length=i/\(∀x∈E++C,0<=x/\x<f.aA.length)/\cs.map (·.lost)=C.map (aP f)/\cs.length<=3/\∀x∈cs,(0<=x.town/\x.town<T)/\(0<=x.hour/\x.hour<=72)/\x.lost.hour<=x.hour) ?_ ?_
 . refine⟨_,_,.nil,.nil,.nil,.nil,[],[],[],rfl,?_,ep,et,ev,b3,rfl,by simp,rfl,by simp,by simp⟩
   grind
 clear b3 L ax hB et ev ep v D F G u dw fI o env
 rintro c0 i _ hi ⟨env,σ',aE,aC,aO,U,E,C,cs,rfl,⟨v,D,F,G,u,dw,fI,o⟩,cv,q4,q9,A,gB,bw,dj,ey,dm⟩ ih
 have b4:=A.head.cells;have b5:aC.cells=[aC]/\aC.flat=true:=(A.2.1 (aC,8,cs.map cT) (by simp)).cells
 have eA:aO.cells=[aO]/\aO.flat=true:=(A.2.1 (aO,1,(E.map K).map ι) (by simp)).cells
 have gC:U.cells=[U]/\U.flat=true:=(A.2.1 (U,1,(C.map K).map ι) (by simp)).cells
 have fu:∀l,(aC,8,cs.map cT)=l->True:=λ_ _=>trivial
 refine aa.runN lay [] 20 ?_;simp[D,o];refine aI.intro (λg1=>?_) (λg1=>?_)<;>(try simp[-Int.not_lt,-Int.not_le,-Nat.not_lt,-Nat.not_le]at g1)<;>(try simp[D,G,u,dw,fI,o,q9,b4.2,b5.2,g1])
 . refine aa.runN lay [] 2 ?_
   simp;refine bP.intro λfv eB=>?_
   simp[aG]
   change aa _ _ _ _ _ _ _ _ _
   refine aa.bE 14 (b:=fv) (bb f.aA[i]) (ab.ai _ _ _) (by simp) rfl ?_
   rw[gE eB];have gD:=fp _ (xE g1);have eC:aP f i=f.aA[i]:=by simp[aP,g1]
   generalize f.aA[i]=e at *;clear eB;apply rn;simp[v];refine cf Tryz.func33 rfl (xl (by omega) hn (by omega) cv λon J ay=>?_)
   have fw:∃l,σ' c=some (.cells l):=by obtain⟨_,_,_,q⟩:=cv;exact⟨_,q⟩
   have r:=A.PT bm fw ay.2;have r9:J g=some (.cells [aE,rows f.roads,ι f.aK,ι f.dE,ι f.cP,ι M,ι T,aw,aC]):=by rw[ay.2 g n9];exact q9
   have r4:J p=some (.cells [.nil,.nil,ι 0,ι 0,ι 0,ι 0,ι 0,.nil,.nil]):=by rw[ay.2 p (wK n4)];exact q4
   have eE:=(r.2.1 (aC,8,cs.map cT) (by simp)).Sq
   refine Au (P:=?P3) (λkey=>?f3) ?p3
   case f3 =>
    have fx:∀b,b=decide ((cs.length:Int)<3)->b=true->cs.length<3:=λb q1 q2=>by rw[q1]at q2;have:=acL q2;clear key;omega
    cases on with
    | false=>
      refine aa.runN lay [] 7 ?_;simp;refine aa.dX (λenv d=>J=d/\env 0=.ref c 0/\env 7=.cp (dv f) 0/\env 8=ints Q/\env 4=.ref p 0/\env 9=.ref g 0/\env 11=aO/\env 12=U/\env 13=ι i/\env 14=.cp (bb e) 0/\∃b,env 71=ψ b/\(b=true->cs.length<3)) ?_ ?_
      . exact⟨rfl,by simp[v],by simp[D],by simp[F],by simp[G],by simp[u],by simp[dw],by simp[fI],by simp[o],by simp,false,by simp,by simp⟩
      exact key
    | true=>
      rcases eE with ⟨q1,q2⟩|⟨sp,q1⟩
      . change aC=_ at q1
        rw[q1]at r9;refine aa.runN lay [] 7 ?_;simp[u,r9];refine aa.dX (λenv d=>J=d/\env 0=.ref c 0/\env 7=.cp (dv f) 0/\env 8=ints Q/\env 4=.ref p 0/\env 9=.ref g 0/\env 11=aO/\env 12=U/\env 13=ι i/\env 14=.cp (bb e) 0/\∃b,env 71=ψ b/\(b=true->cs.length<3)) ?_ ?_
        . have hz:cs.length<3:=by
           cases cs with
           |nil=>exact (by decide)
           |cons a l=>cases q2
          exact⟨rfl,by simp[v],by simp[D],by simp[F],by simp[G],by simp[u],by simp[dw],by simp[fI],by simp[o],by simp,true,by simp,λ_=>hz⟩
        exact key
      change aC=_ at q1
      rw[q1]at r9;refine aa.runN lay [] 7 ?_;simp[u,r9];refine aa.dX (λenv d=>J=d/\env 0=.ref c 0/\env 7=.cp (dv f) 0/\env 8=ints Q/\env 4=.ref p 0/\env 9=.ref g 0/\env 11=aO/\env 12=U/\env 13=ι i/\env 14=.cp (bb e) 0/\∃b,env 71=ψ b/\(b=true->cs.length<3)) ?_ ?_
      . exact⟨rfl,by simp[v],by simp[D],by simp[F],by simp[G],by simp[u],by simp[dw],by simp[fI],by simp[o],by simp,decide ((cs.length:Int)<3),by simp,fx _ rfl⟩
      exact key
   case p3=>
   clear v D F G u dw fI o env eE
   rintro env _ ⟨rfl,v,D,F,G,u,dw,fI,o,LA,b,SP,b8⟩
   have rT:-9223372036854775808<=T-1/\T-1<=9223372036854775807:=by omega
   have rh:-9223372036854775808<=e.hour+6/\e.hour+6<=9223372036854775807:=by omega
   have gG:E.length<=i/\C.length<=i:=by omega
   cases b with
   | true=>
     have b8:=b8 rfl;apply wx (I:=λenv d=>∃a' nc,env 0=.ref c 0/\env 7=.cp (dv f) 0/\env 8=ints Q/\env 4=.ref p 0/\env 9=.ref g 0/\env 11=aO/\env 12=U/\env 13=ι i/\aU c nums (k+540+3*i+3) d/\d p=some (.cells [.nil,.nil,ι 0,ι 0,ι 0,ι 0,ι 0,.nil,.nil])/\d g=some (.cells [aE,rows f.roads,ι f.aK,ι f.dE,ι f.cP,ι M,ι T,aw,a'])/\sN B d [(a',8,cs.map cT++[cT nc]),(aE,6,(E.map (aP f)).map bb),(aO,1,(E.map K).map ι),(U,1,(C.map K).map ι)]/\nc.lost=e/\(0<=nc.town/\nc.town<T)/\(0<=nc.hour/\nc.hour<=72)/\nc.lost.hour<=nc.hour)
     . intro R
       apply rn;simp[v,u,LA,SP,r9,rT.1,rT.2,rh.1,rh.2]
       repeat' (first
                 |apply And.intro
                 | (refine cf Tryz.func16 rfl (fD (by omega) hn (by omega) ay.1 λy1 ed gH b6=>?_)
                    have a7:=r.PT bm (by obtain⟨_,_,_,q⟩:=ay.1;exact⟨_,q⟩) b6.2
                    have v9:=(b6.2 g n9).trans r9;have v4:=(b6.2 p (wK n4)).trans r4;apply pg;simp[v,D,F,G,u,dw,fI,o,LA,r9,v9,b4.1,b4.2,b5.1,b5.2,rT.1,rT.2,rh.1,rh.2])
                 | (refine cf Tryz.func13 rfl (eP (by omega) hn (by omega) ⟨by split<;>omega,by split<;>omega⟩ b6.1 λy2 b9 fA V=>?_)
                    have eK:=a7.PT bm (by obtain⟨_,_,_,q⟩:=b6.1;exact⟨_,q⟩) V.2
                    have x9:=(V.2 g n9).trans v9;have x4:=(V.2 p (wK n4)).trans v4;apply pg;simp[v,D,F,G,u,dw,fI,o,LA,x9,b4.1,b4.2,b5.1,b5.2,aG])
                 | (have hp:=eK.perm (List.Perm.swap (aC,8,cs.map cT) _ _)
                    refine aR lay rfl rfl rfl J0 rfl J0 rfl Tl (by decide) (by simp;omega) (σ0:=b9.off aC) (es:=cs.map cT) (xs:=[cT ⟨e,y1,y2⟩]) (by simpa using hp.head.here.1) (.inr ⟨.exact,by simp[aG]⟩) λa' Y al=>?_
                    obtain⟨H,k5⟩:=hp.app al;have S:=H.head.cells;have t9:=k5 _ _ x9;have t4:=k5 _ _ x4;apply pg;simp[v,D,F,G,u,dw,fI,o,LA,t9,S.1,S.2,aG];obtain⟨nb,zb,a9,N⟩:=V.1;have tc:=k5 _ _ N;refine R _ _ ⟨a',⟨e,y1,y2⟩,by simp[v],by simp[D],by simp[F],by simp[G],by simp[u],by simp[dw],by simp[fI],by simp[o],⟨nb,zb,by omega,by rw[ab.ah _ _ (wK n9)];exact tc⟩,by rw[ab.ah _ _ (wK ad)];exact t4,ab.ai _ _ _,H.PT cm ⟨_,t9⟩ λy hy=>ab.ah _ _ hy,rfl,by simp only;omega,?_,?_⟩
                    . simp only;revert fA;split<;>omega
                    . simp only;omega))
     clear v D F G u dw fI o LA SP env
     rintro env Y ⟨a',nc,v,D,F,G,u,dw,fI,o,dr,dx,dy,H,fO,gI,gL,gP⟩
     have aW:i<Q.length:=by omega
     have S:=H.head.cells;apply rn;simp[F,fI,o,aW];have hp:=H.perm (ade (a:=(U,1,(C.map K).map ι)) (l₁:=[(a',8,cs.map cT++[cT nc]),(aE,6,(E.map (aP f)).map bb),(aO,1,(E.map K).map ι)]) (l₂:=[]));have b7:K (i:Int)=Q[i]:=by rw[cb];simp[aW]
     refine aR lay rfl rfl rfl dS rfl dS rfl sF (by decide) (by simp;omega) (σ0:=Y.off U) (es:=(C.map K).map ι) (xs:=[ι Q[i]]) (by simpa using hp.head.here.1) (.inr ⟨_,rfl⟩) λeN O al=>?_
     obtain⟨L,k6⟩:=hp.app al;have gl:=L.head.cells;have t9:=k6 _ _ dy;have t4:=k6 _ _ dx;apply rn;simp[o];obtain⟨nb,zb,a9,N⟩:=dr;have tc:=k6 _ _ N;have ea:=L.perm ((ade (a:=(eN,1,(C.map K).map ι++[ι Q[i]])) (l₁:=[(a',8,cs.map cT++[cT nc]),(aE,6,(E.map (aP f)).map bb),(aO,1,(E.map K).map ι)]) (l₂:=[])).symm.trans (List.Perm.swap _ _ _));refine⟨by omega,ih _ g1 ⟨_,_,aE,a',aO,eN,E,C++[(i:Int)],cs++[nc],rfl,?_,⟨nb,zb,by omega,tc⟩,t4,t9,?_,?_,?_,?_,?_,?_⟩⟩
     . exact⟨by simp[v],by simp[D],by simp[F],by simp[G],by simp[u],by simp[dw],by simp,by simp⟩
     . simpa[b7]using ea
     . simp;omega
     . intro x hx
       rw[<-List.append_assoc]at hx
       rcases KD.1 hx with q|q
       . exact bw x q
       rw[lb.1 q];omega
     . rw[aaJ,aaJ,dj];simp[fO,eC]
     . simp;omega
     intro x hx
     rcases KD.1 hx with q|q
     . exact dm x q
     rw[lb.1 q];omega
   | false=>
     have aW:i<Q.length:=by omega
     have b7:K (i:Int)=Q[i]:=by rw[cb];simp[aW]
     apply wx (I:=λenv d=>∃a8 av,env 0=.ref c 0/\env 7=.cp (dv f) 0/\env 8=ints Q/\env 4=.ref p 0/\env 9=.ref g 0/\env 11=av/\env 12=U/\env 13=ι i/\aU c nums (k+540+3*i+3) d/\d p=some (.cells [.nil,.nil,ι 0,ι 0,ι 0,ι 0,ι 0,.nil,.nil])/\d g=some (.cells [a8,rows f.roads,ι f.aK,ι f.dE,ι f.cP,ι M,ι T,aw,aC])/\sN B d [(av,1,(E.map K).map ι++[ι Q[i]]),(a8,6,(E.map (aP f)).map bb++[bb e]),(aC,8,cs.map cT),(U,1,(C.map K).map ι)])
     . intro R
       apply rn;simp[F,u,dw,o,LA,SP,r9,aW]
       repeat' (first
                 |apply And.intro
                 | (refine aR lay rfl rfl rfl mG rfl mG rfl yS (by decide) (by simp;omega) (σ0:=J.off aE) (es:=(E.map (aP f)).map bb) (xs:=[bb e]) (by simpa using r.head.here.1) (.inr ⟨.exact,by simp⟩) λa8 Y al=>?_
                    obtain⟨H,k5⟩:=r.app al;have S:=H.head.cells;have t9:=k5 _ _ r9;have t4:=k5 _ _ r4;apply pg;simp[v,D,F,G,u,dw,fI,o,LA,t9,S.1,S.2,eA.1,eA.2,aW])
                 | (have hp:=H.perm (ade (a:=(aO,1,(E.map K).map ι)) (l₁:=[(a8,6,(E.map (aP f)).map bb++[bb e]),(aC,8,cs.map cT)]) (l₂:=[(U,1,(C.map K).map ι)]))
                    refine aR lay rfl rfl rfl dS rfl dS rfl sF (by decide) (by simp;omega) (σ0:=Y.off aO) (es:=(E.map K).map ι) (xs:=[ι Q[i]]) (by simpa using hp.head.here.1) (.inr ⟨.exact,by simp⟩) λav O fT=>?_
                    obtain⟨L,k6⟩:=hp.app fT;have bA:=L.head.cells;have x9:=k6 _ _ t9;have x4:=k6 _ _ t4;apply pg;simp[v,D,F,G,u,dw,fI,o,LA,x9,S.1,S.2,bA.1,bA.2,aG];obtain⟨nb,zb,a9,N⟩:=ay.1;have tc:=k6 _ _ (k5 _ _ N);exact R _ _ ⟨a8,av,by simp[v],by simp[D],by simp[F],by simp[G],by simp[u],by simp,by simp[fI],by simp[o],⟨nb,zb,by omega,by rw[ab.ah _ _ (wK n9)];exact tc⟩,by rw[ab.ah _ _ (wK ad)];exact x4,ab.ai _ _ _,L.PT cm ⟨_,x9⟩ λy hy=>ab.ah _ _ hy⟩))
     clear v D F G u dw fI o LA SP env
     rintro env Y ⟨a8,av,v,D,F,G,u,dw,fI,o,dr,dx,dy,H⟩
     apply rn;simp[o];have ea:=H.perm ((ade (a:=(av,1,(E.map K).map ι++[ι Q[i]])) (l₁:=[(a8,6,(E.map (aP f)).map bb++[bb e]),(aC,8,cs.map cT)]) (l₂:=[(U,1,(C.map K).map ι)])).symm);refine⟨by omega,ih _ g1 ⟨_,_,a8,aC,av,U,E++[(i:Int)],C,cs,rfl,?_,dr.mono (by omega),dx,dy,?_,?_,?_,dj,ey,dm⟩⟩
     . exact⟨by simp[v],by simp[D],by simp[F],by simp[G],by simp[u],by simp[dw],by simp[fI],by simp⟩
     . simpa[b7,eC]using ea
     . simp;omega
     intro x hx
     rcases KD.1 hx with q|q
     . rcases KD.1 q with q|q
       . exact bw x (List.mem_append_left _ q)
       rw[lb.1 q];omega
     exact bw x (List.mem_append_right _ q)
 have ei:i=f.aA.length:=by omega
 simp[ft.2,q4,aG];apply rn;simp[G];obtain⟨w,hw⟩:∃w:eG,w=⟨⟨E.map (aP f),f.roads,f.aK,f.dE,f.cP,M⟩,T,ws,cs⟩:=⟨_,rfl⟩
 have eb:PB cnt w (E.map K) (C.map K):=by subst hw;subst cb;exact Rt hS bx.2 bw (by omega) rfl dj rfl rfl rfl rfl eX fc b2 (show ws.length<=5 by omega) ey dm
 obtain⟨nb,zb,a9,N⟩:=cv
 have gd:(AV.agg [aE,rows f.roads,ι f.aK,ι f.dE,ι f.cP,ι M,ι T,aw,aC]).W (.agg (Ay w aw (fV w.au))):=by subst hw;exact qE rfl (HG A.head.W (.refl _) (A.2.1 (aC,8,cs.map cT) (by simp)).W)
 have gf:(AV.cH [.agg [aE,rows f.roads,ι f.aK,ι f.dE,ι f.cP,ι M,ι T,aw,aC],aO,U]).W (.cH [.agg (Ay w aw (fV w.au)),ints (E.map K),ints (C.map K)]):=by
  refine Pm rfl λi x y h1 h2=>?_
  match i with
  |0=>cases h1;cases h2;exact gd
  |1=>cases h1;cases h2;exact(A.2.1 (aO,1,(E.map K).map ι) (by simp)).W
  |2=>cases h1;cases h2;exact (A.2.1 (U,1,(C.map K).map ι) (by simp)).W
  |i+3=>cases h1
 have gj:w.ways=ws:=by rw[hw]
 have eR:∀b,bd aw=some b->σ' b=O b:=λb q=>by obtain⟨_,l,z⟩:=Z.tok.cx q;rw[z];exact A.1 _ _ (by rw[cg b (λe=>Z.nc (by rw[q,e])) λe=>Z.n9 (by rw[q,e])];exact z)
 refine .pN gf (.done (h w _ _ aw _ eb ⟨nb,zb,by omega,by rw[ab.ah _ _ n4];exact N⟩ ?_ Z.nc))
 rw[gj];refine Z.tok.keep (λy x hy=>?_) λb q=>⟨by rw[ab.ah _ _ λe=>Z.n4 (by rw[q,e])];exact eR b q,(Z.tok.cx q).1⟩
 have y1:y≠c:=λe=>by subst e;simp[ab.del]at hy
 have y0:σ y=some x:=by simpa[ab.del,y1]using hy
 have y4:y≠p:=λe=>by subst e;grind
 have y9:y≠g:=λe=>by subst e;grind
 rw[ab.ah _ _ y4];exact A.1 _ _ (by rw[cg y y1 y9];exact Z.tok.1 y x hy)
end WO
end
end
section
open Go.ck Go.Conc
variable{m:Mo}{σ:ab}{KF:adw}
abbrev vz:=AV × Nat × List AV
structure fM(σ0 σ:ab)(L:List vz)(F:adL):Prop where
 le:σ0.Le σ
 tok:∀t∈L,bj σ0 σ t.1 t.2.1 t.2.2
 apart:L.Pairwise λs t=>∀b,bd s.1=some b->bd t.1≠some b
 out:∀t∈L,∀c∈F,bd t.1≠some c
 kept:∀c∈F,σ c≠none/\σ0 c=none
theorem fM.one{σ:ab}{c:Nat}{x:nz}(h:σ c=none):fM σ (σ.set c x) [] [c]:=⟨ab.l9 (ab.le_refl _) h,by simp,List.Pairwise.nil,by simp,λd hd=>by simp_all⟩
theorem fM.new{σ0 σ σ':ab}{L:List vz}{F:adL}(h:fM σ0 σ L F){a:AV}{kk:Nat}{es:adQ}(d:bj σ σ' a kk es):fM σ0 σ' ((a,kk,es)::L) F:=by
 refine⟨ab.le_trans h.le d.1,λt q=>?_,aaL.2 ⟨λt q b hb g=>?_,h.apart⟩,λt q c f e=>?_,λc f=>⟨λe=>?_,(h.kept c f).2⟩⟩
 . rcases aaM.1 q with rfl|q
   . exact d.base h.le
   refine(h.tok t q).keep (ab.le_trans h.le d.1) λb hb=>?_
   obtain⟨j,l,i⟩:=(h.tok t q).cx hb;exact⟨by rw[i];exact d.1 _ _ i,j⟩
 . obtain⟨_,l,i⟩:=(h.tok t q).cx g
   have:=(d.cx hb).1
   simp_all
 . rcases aaM.1 q with rfl|q
   . exact(h.kept c f).1 (d.cx e).1
   exact h.out t q c f e
 cases z:σ c with
 |none=>exact(h.kept c f).1 z
 |some x=>rw[d.1 c x z]at e;cases e
theorem fM.alloc{σ0 σ:ab}{L:List vz}{F:adL}(h:fM σ0 σ L F){c:Nat}(f:σ c=none)(x:nz):fM σ0 (σ.set c x) L (c::F):=by
 have a:=h.le.none f
 have b:∀t∈L,bd t.1≠some c:=λt q e=>by
  obtain⟨_,l,g⟩:=(h.tok t q).cx e
  simp_all
 refine⟨ab.dQ h.le a,λt q=>(h.tok t q).beside a (b t q),h.apart,λt q d hd=>?_,λd hd=>?_⟩
 . rcases aaM.1 hd with rfl|hd
   . exact b t q
   exact h.out t q d hd
 rcases aaM.1 hd with rfl|hd
 . simp_all
 have:=h.kept d hd;by_cases e:d=c
 . simp_all
 rw[ab.ah _ _ e];exact this
theorem fM.upd{σ0 σ:ab}{L:List vz}{F:adL}(h:fM σ0 σ L F){c:Nat}(a:c∈F)(x:nz):fM σ0 (σ.set c x) L F:=by
 refine⟨ab.dQ h.le (h.kept c a).2,λt q=>(h.tok t q).beside (h.kept c a).2 (h.out t q c a),h.apart,h.out,λd hd=>?_⟩;by_cases e:d=c
 . subst e;rw[ab.ai];exact⟨by simp,(h.kept d hd).2⟩
 rw[ab.ah _ _ e];exact h.kept d hd
theorem fM.here{σ0 σ:ab}{L:List vz}{F:adL}{c:Nat}{x:nz}(_:fM σ0 (σ.set c x) L F):(σ.set c x) c=some x:=ab.ai _ _ _
theorem fM.swap{σ0 σ:ab}{s t:vz}{L:List vz}{F:adL}(h:fM σ0 σ (s::t::L) F):fM σ0 σ (t::s::L) F:=by
 obtain⟨c,d⟩:=aaL.1 h.apart;obtain⟨g,e⟩:=aaL.1 d;have a:∀x,x∈t::s::L->x∈s::t::L:=λx q=>by grind
 refine⟨h.le,λx q=>h.tok x (a x q),aaL.2 ⟨λx q b hb f=>?_,aaL.2 ⟨λx q=>c x (by simp[q]),e⟩⟩,λx q=>h.out x (a x q),h.kept⟩
 grind
theorem fM.renew{σ0 σ σ':ab}{L:List vz}{F:adL}{a a':AV}{kk:Nat}{es d:adQ}(h:fM σ0 σ ((a,kk,es)::L) F)(g:bj (σ.sn a) σ' a' kk d):fM σ0 σ' ((a',kk,d)::L) F:=by
 obtain⟨i,j⟩:=aaL.1 h.apart
 have k:fM σ0 (σ.sn a) L F:=by
  refine⟨((h.tok (a,kk,es) (by simp)).here).2,λt q=>(h.tok t (by simp[q])).keep ((h.tok (a,kk,es) (by simp)).here).2 λb hb=>⟨ab.gk λe=>i t q b e hb,((h.tok t (by simp[q])).cx hb).1⟩,j,λt q=>h.out t (by simp[q]),λc f=>?_⟩;rw[ab.gk (h.out (a,kk,es) (by simp) c f)];exact h.kept c f
 exact k.new g
theorem fM.row{σ0 σ:ab}{L:List vz}{F:adL}(h:fM σ0 σ L F){a:AV}{kk:Nat}{es:adQ}(d:(a,kk,es)∈L){b n cap:Nat}(e:a=.fN b 0 n cap):n=es.length/\n<=cap/\∃μ,σ b=some (.cells (flatten es++μ))/\μ.length=(cap-n)*kk:=by
 rcases(h.tok _ d).2 with⟨_,q|q⟩|⟨f,c,μ,q,g,i,j,k,l⟩
 . simp_all
 . simp_all
 simp_all
theorem fM.write{σ0 σ:ab}{L:List vz}{F:adL}{a:AV}{kk:Nat}{es d:adQ}(h:fM σ0 σ ((a,kk,es)::L) F){b n cap:Nat}(g:a=.fN b 0 n cap)(m:d.length=es.length)(k:∀e∈d,e.cells.length=kk){μ:adQ}(o:μ.length=(cap-n)*kk):fM σ0 (σ.set b (.cells (flatten d++μ))) ((a,kk,d)::L) F:=by
 obtain⟨p,r,_⟩:=h.row (kk:=kk) (es:=es) (by simp) g
 have hb:bd a=some b:=by rw[g];rfl
 have f:=((h.tok (a,kk,es) (by simp)).cx hb).1
 obtain⟨i,l⟩:=aaL.1 h.apart;refine⟨ab.dQ h.le f,λt q=>?_,aaL.2 ⟨i,l⟩,λt q=>?_,λc j=>?_⟩
 . rcases aaM.1 q with rfl|q
   . exact⟨ab.dQ h.le f,.inr ⟨b,cap,μ,by simp_all,f,by simp_all,k,ab.ai _ _ _,by simp_all⟩⟩
   exact(h.tok t (by simp[q])).beside f (i t q b hb)
 . rcases aaM.1 q with rfl|q
   . exact h.out (a,kk,es) (by simp)
   exact h.out t (by simp[q])
 have e:c≠b:=λe=>h.out (a,kk,es) (by simp) c j (by rw[hb,e])
 rw[ab.ah _ _ e];exact h.kept c j
abbrev rE(w:eG)(aE aW aC:AV):adQ:=[aE,rows w.fair.roads,ι w.fair.aK,ι w.fair.dE,ι w.fair.cP,ι w.fair.aT,ι w.aS,aW,aC]
theorem Df{w:eG}(N:w.fair.Good)(O:∀e∈w.fair.aA,e.marks.length<=1000000000)(C:w.fair.roads.length<=1000000)(D:∀r∈w.fair.roads,r.length<=1000000000)(Q:w.ways.length<=6)(R:∀c∈w.au,c.lost.marks.length<=1000000000)(S:w.au.length<=3)(h:∀aE aW aC σ' F,fM σ σ' [(aC,8,w.au.map cT),(aW,5,w.ways.map cG),(aE,6,w.fair.aA.map bb)] F->KF (.val (.agg (rE w aE aW aC))) σ'):aB prog m 12 [c8 w] σ KF:=by
 refine fs Ym Tryz.func12 rfl (by kernel_rfl) ?_
 simp[Tryz.f12];refine bP.intro λf T=>?_
 simp;have hlen:([]:adQ).length+(w.ways.map cG).length<=1073741824:=by simp;omega
 have d:fM σ (σ.set f (.cells HF)) [] [f]:=.one T;have k:(σ.set f (.cells HF)) f=some (.cells HF):=ab.ai _ _ _;obtain⟨J,K⟩:∃J:adu,J=λenv σ'=>∃g aE aW,g≠f/\env 1=.cp (c8 w) 0/\env 2=.ref f 0/\env 3=.ref g 0/\σ' f=some (.cells HF)/\σ' g=some (.cells (rE w aE aW (.lit (.slice none 0 0))))/\fM σ σ' [(aW,5,w.ways.map cG),(aE,6,w.fair.aA.map bb)] [g,f]:=⟨_,rfl⟩
 refine Au (P:=?P2) (λkey=>?f2) ?p2
 case f2=>
  repeat' (first
            |apply And.intro
            | (refine cf Tryz.func35 rfl (FM N O C D λaE U y=>?_)
               have d:=d.new y;have k:=y.1 _ _ k;have a:=y.cells;apply pg
               first|(have j:=y.1 _ _ j;simp[b.1,b.2,a.1,a.2,j,aG])|(have j:=y.1 _ _ j;simp[a.1,a.2,j,aG])|simp[b.1,b.2,a.1,a.2,aG]|simp[a.1,a.2,aG])
            | (refine gi lay rfl rfl rfl Ns rfl Ns rfl Tj (by decide) hlen (es:=[]) (xs:=w.ways.map cG) (.empty _ 5) (.inl (.inr ⟨_,rfl⟩)) (by simp) λaW V z=>?_
               have d:=d.new z;have k:=z.1 _ _ k;have b:=z.cells;apply pg
               first|(have j:=z.1 _ _ j;simp[b.1,b.2,a.1,a.2,j,aG])|(have j:=z.1 _ _ j;simp[b.1,b.2,j,aG])|simp[b.1,b.2,a.1,a.2,aG]|simp[b.1,b.2,aG])
            | (refine rA.intro λg E=>?_
               have v:g≠f:=λe=>by rw[e,k]at E;cases E
               have d:=d.alloc E (.cells HF);have k:=(ab.ah _ (nz.cells HF) (wK v)).trans k;have j:=d.here
               first|simp[b.1,b.2,a.1,a.2,aG]|simp[b.1,b.2,aG]|simp[a.1,a.2,aG]|simp[aG]))
  all_goals (
   have d:=d.upd (c:=g) (by simp) (.cells (rE w aE aW (.lit (.slice none 0 0))))
   try rw[ab.set_set]at d
   refine aa.dX J (by rw[K];exact⟨g,aE,aW,v,by simp,by simp,by simp,by first|exact(ab.ah _ _ (wK v)).trans k|(rw[ab.ah _ _ (wK v)]at k ⊢;exact k),d.here,by first|exact d|exact d.swap⟩) ?_
   exact key)
 case p2=>
  rw[K]
  rintro env σ' ⟨g,aE,aW,v,n,q,o,x,t,d⟩
  have b:=(d.tok (aW,5,w.ways.map cG) (by simp)).cells
  have a:=(d.tok (aE,6,w.fair.aA.map bb) (by simp)).cells
  have W:f≠g:=wK v;apply rn;simp;have G:fM σ σ' [(.lit (.slice none 0 0),8,[]),(aW,5,w.ways.map cG),(aE,6,w.fair.aA.map bb)] [g,f]:=d.new ⟨ab.le_refl _,.inl ⟨rfl,.inl rfl⟩⟩
  refine aa.loop w.au.length (λi s=>∃env σ' aC,s=⟨env,σ',[],.no⟩/\env 1=.cp (c8 w) 0/\env 2=.ref f 0/\env 3=.ref g 0/\env 4=ι i/\σ' f=some (.cells HF)/\σ' g=some (.cells (rE w aE aW aC))/\fM σ σ' [(aC,8,(w.au.take i).map cT),(aW,5,w.ways.map cG),(aE,6,w.fair.aA.map bb)] [g,f]) ⟨_,_,.lit (.slice none 0 0),rfl,by simp[n],by simp[q],by simp[o],by simp,x,t,by simp_all⟩ ?_
  clear n q o x t d G env σ'
  rintro c0 i _ hi ⟨env,σ',aC,rfl,n,q,o,A,x,t,d⟩ X
  have L:=d.tok (aC,8,(w.au.take i).map cT) (by simp)
  have u:=L.cells
  rcases abC i w.au.length with g1|g1
  . have Y:(i:Int)<w.au.length:=by omega
    have f1:-9223372036854775808<=(i:Int)+1/\(i:Int)+1<=9223372036854775807:=by omega
    apply rn;simp[n,o,A,t,g1]
    repeat' (first
              |apply And.intro
              | (refine cf Tryz.func36 rfl (wv (R _ (xE g1)) ?_)
                 apply pg;simp[n,q,o,A,x,t,b.1,b.2,a.1,a.2,u.1,u.2,g1,aG])
              | (refine gi lay rfl rfl rfl J0 rfl J0 rfl Tl (by decide) (by simp;omega) (σ0:=σ'.sn aC) (es:=(w.au.take i).map cT) (xs:=[cT w.au[i]]) (by simpa using L.here.1) (.inl (.inr ⟨_,by simp[aG];rfl⟩)) (by simp) λB Z l=>?_
                 have p:=l.cells;have t3:=l.1 _ _ ((ab.gk (d.out (aC,8,(w.au.take i).map cT) (by simp) g (by simp))).trans t)
                 have M:=l.1 _ _ ((ab.gk (d.out (aC,8,(w.au.take i).map cT) (by simp) f (by simp))).trans x)
                 apply pg;simp[n,q,o,A,M,t3,b.1,b.2,a.1,a.2,p.1,p.2,aG]))
    all_goals (
     apply rn;simp[A,f1.1,f1.2];have H:=(d.renew l).upd (c:=g) (by simp) (.cells (rE w aE aW B))
     refine X _ g1 ⟨_,_,B,rfl,by simp[n],by simp[q],by simp[o],by simp,by rw[ab.ah _ _ W];exact M,ab.ai _ _ _,?_⟩
     rw[xC g1,aaJ];simpa using H)
  have I:i=w.au.length:=by omega
  subst I;rw[aaF]at d;apply rn;simp[n,q,o,A,x,t,b.2,a.2,u.2,aG];exact .done (h aE aW aC _ _ (d.upd (c:=f) (by simp) _))
end
section
open Go.ck Go.Conc
def Way.later(d:Int)(x:Way):Way:=⟨x.a,x.b,x.bo,x.aK+d,x.dE+d⟩
def pS.later(d:Int)(c:pS):pS:={c with lost:=dF d c.lost,hour:=c.hour+d}
def eG.later(w:eG)(d:Int):eG:={w with fair:=bO w.fair d,ways:=w.ways.map (Way.later d),au:=w.au.map (pS.later d)}
def sh(d t:Int):Int:=if t<1048576 then t+d else t
def Az(t:Int):Prop:=(0<=t/\t<=84)\/t=1048576
section
variable{d:Int}{l:adN}
theorem Sm(hd:0<=d/\d<=12){s t:Int}(a:Az s)(b:Az t):sh d s<sh d t↔s<t:=by unfold Az at a b;unfold sh;omega
theorem PF(hd:0<=d/\d<=12){t:Int}(a:Az t):sh d t<1048576↔t<1048576:=by unfold Az at a;unfold sh;omega
theorem TN(hd:0<=d/\d<=12){s t:Int}(a:Az s)(b:Az t)(e:sh d s=sh d t):s=t:=by unfold Az at a b;unfold sh at e;omega
theorem Lv(hd:0<=d/\d<=12){h a b c:Int}{x:Way}(k:(1<=x.bo/\x.bo<=12)/\0<=x.aK/\x.dE<=72)(l:0<=h)(hb:Az c):Dm (h+d) a b (x.later d) (sh d c)=sh d (Dm h a b x c)/\Az (Dm h a b x c):=by
 have f:jd (h+d) (x.later d)=jd h x+d:=by unfold jd Way.later;grind
 have m:0<=jd h x:=by unfold jd;omega
 have e:(x.later d).a=x.a/\(x.later d).b=x.b/\(x.later d).bo=x.bo/\(x.later d).dE=x.dE+d:=⟨rfl,rfl,rfl,rfl⟩;unfold Dm;rw[f,e.1,e.2.1,e.2.2.1,e.2.2.2]
 by_cases g:(x.a≠a\/x.b≠b)/\(x.a≠b\/x.b≠a)
 . simp_all
 rw[zA g,zA g]
 by_cases i:jd h x<=x.dE
 . rw[zR (show jd h x+d<=x.dE+d by omega),zR i]
   by_cases j:jd h x+x.bo<c
   . have:jd h x+d+x.bo<sh d c:=by unfold sh;omega
     rw[zR this,zR j];exact⟨by unfold sh;omega,.inl ⟨by omega,by omega⟩⟩
   have:¬jd h x+d+x.bo<sh d c:=by unfold sh;omega
   grind
 grind
def Dg(l:adN):Prop:=∀x∈l,(1<=x.bo/\x.bo<=12)/\0<=x.aK/\x.dE<=72
theorem HH(hd:0<=d/\d<=12){h a b:Int}(g:0<=h)(e:Dg l):kR (l.map (Way.later d)) (h+d) a b=sh d (kR l h a b)/\Az (kR l h a b):=by
 have key:∀(l:adN) (c:Int),Dg l->Az c->(l.map (Way.later d)).foldl (λc x=>Dm (h+d) a b x c) (sh d c)=sh d (l.foldl (λc x=>Dm h a b x c) c)/\Az (l.foldl (λc x=>Dm h a b x c) c):=λl=>by
  induction l with
  |nil=>simp_all
  | cons x l i=>
    intro c e hb;have f:=Lv hd (a:=a) (b:=b) (e x (by simp)) g hb;rw[acP,abB,abB,f.1];exact i _ (λy j=>e y (by simp[j])) f.2
 exact key l 1048576 e (.inr rfl)
def uA(t:adK):Prop:=t.length=4/\∀x∈t,Az x
theorem Dh{t:adK}{i:Nat}(hi:i<t.length):(t.map (sh d)).getD i 0=sh d (t.getD i 0):=by simp_all
theorem PG(hd:0<=d/\d<=12)(k:Dg l){a b:Nat}(j:a<4)(hb:b<4){t:adK}(c:uA t):jv (l.map (Way.later d)) a b (t.map (sh d))=(jv l a b t).map (sh d)/\uA (jv l a b t):=by
 have i:Az (t.getD a 0):=c.2 _ (by rw[wN,xW (by rw[c.1];exact j)];simp_all)
 have fb:Az (t.getD b 0):=c.2 _ (by rw[wN,xW (by rw[c.1];exact hb)];simp_all)
 unfold jv;rw[Dh (by rw[c.1];exact j),Dh (by rw[c.1];exact hb)]
 by_cases g:t.getD a 0<1048576
 . have m:0<=t.getD a 0:=by unfold Az at i;omega
   have f:=HH hd (a:=a) (b:=b) m k;rw[zR ((PF hd i).2 g),zR g];have es:sh d (t.getD a 0)=t.getD a 0+d:=by unfold sh;omega
   rw[es,f.1]
   by_cases h:kR l (t.getD a 0) a b<t.getD b 0
   . rw[zR ((Sm hd f.2 fb).2 h),zR h,acg]
     exact⟨rfl,by rw[abK];exact c.1,λx e=>by
      rcases abU e with e|rfl
      . exact c.2 x e
      exact f.2⟩
   rw[zA (λq=>h ((Sm hd f.2 fb).1 q)),zA h,acg]
   exact⟨rfl,by rw[abK];exact c.1,λx e=>by
    rcases abU e with e|rfl
    . exact c.2 x e
    exact fb⟩
 rw[zA (λq=>g ((PF hd i).1 q)),zA g]
 simp_all
theorem sO{α:Type}{f f':adK->α->adK}:∀(L:List α) (t:adK),(∀t,∀x∈L,uA t->f' (t.map (sh d)) x=(f t x).map (sh d)/\uA (f t x))->uA t->L.foldl f' (t.map (sh d))=(L.foldl f t).map (sh d)/\uA (L.foldl f t)
 |[],_,_,h=>⟨rfl,h⟩
 | x::L,t,a,h=>by
   have b:=a t x (by simp) h;rw[abB,abB,b.1];exact sO L _ (λu y c=>a u y (by simp[c])) b.2
theorem HI(hd:0<=d/\d<=12)(c:Dg l){n:Nat}(h:n<=4){t:adK}(e:uA t):pass (l.map (Way.later d)) n (t.map (sh d))=(pass l n t).map (sh d)/\uA (pass l n t):=sO _ _ (λu a i f=>sO _ _ (λv b hb g=>PG hd c (by grind) (by grind) g) f) e
theorem map_inj(hd:0<=d/\d<=12){s t:adK}(a:uA s)(b:uA t)(e:s.map (sh d)=t.map (sh d)):s=t:=by
 refine List.ext_getElem (by rw[a.1,b.1]) λi c f=>?_
 have:(s.map (sh d))[i]'(by simp_all)=(t.map (sh d))[i]'(by simp_all):=by grind
 rw[acO,acO]at this;exact TN hd (a.2 _ (xE c)) (b.2 _ (xE f)) this
theorem zT(hd:0<=d/\d<=12)(c:Dg l){n:Nat}(e:n<=4):∀(k:Nat){t:adK},uA t->cD (l.map (Way.later d)) n k (t.map (sh d))=(cD l n k t).map (sh d)/\uA (cD l n k t)
 |0,_,a=>⟨rfl,a⟩
 | k+1,t,a=>by
   have b:=HI hd c e a;unfold cD;rw[b.1];by_cases g:pass l n t=t
   . simp_all
   rw[zA (λq=>g (map_inj hd b.2 a q)),zA g];exact zT hd c e k b.2
theorem vA{l:adN}{n:Nat}:∀(k j:Nat) (t:adK),pass l n (cD l n k t)=cD l n k t->cD l n (k+j) t=cD l n k t
 | 0,j,t,h=>by
   rw[aci];cases j with
   |zero=>rfl
   |succ j=>unfold cD at h ⊢;grind
 | k+1,j,t,h=>by
   rw[show k+1+j=(k+j)+1 by omega];unfold cD at h ⊢;by_cases g:pass l n t=t
   . simp_all
   rw[zA g,zA g];rw[zA g]at h;exact vA k j _ h
theorem Dg.bo{l:adN}(h:Dg l):∀x∈l,1<=x.bo/\x.bo<=12:=λx a=>(h x a).1
theorem FO(hd:0<=d/\d<=12){town hour:Int}(c:0<=hour/\hour<=72):begun town (hour+d)=(begun town hour).map (sh d)/\uA (begun town hour):=by
 have e:sh d 1048576=1048576:=by unfold sh;omega
 have b:sh d hour=hour+d:=by unfold sh;omega
 unfold begun;rw[acg,b];refine⟨by simp_all,by simp_all,λx a=>?_⟩
 rcases abU a with a|rfl
 . simp at a;exact .inr a
 exact .inl ⟨by omega,by omega⟩
theorem Lw(hd:0<=d/\d<=12)(a:Dg l){n:Nat}(c:n<=4){town hour:Int}(k:0<=hour/\hour+d<=72):jm (l.map (Way.later d)) n town (hour+d)=(jm l n town hour).map (sh d)/\uA (jm l n town hour):=by
 have b:∀x∈l.map (Way.later d),1<=x.bo/\x.bo<=12:=λx e=>by obtain⟨y,f,rfl⟩:=zU.1 e;exact a.bo y f
 obtain⟨m,g⟩:=FO hd (town:=town) (hour:=hour) ⟨by omega,by omega⟩
 have f1:=qK a.bo (n:=n) (ln (begun town hour)+1) (begun town hour) (rk ⟨by omega,by omega⟩) (by omega)
 have h:=qK b (n:=n) (ln (begun town (hour+d))+1) (begun town (hour+d)) (rk ⟨by omega,by omega⟩) (by omega)
 have i:=vA _ (ln (begun town (hour+d))+1) _ f1;have j:=vA _ (ln (begun town hour)+1) _ h;unfold jm;rw[<-i,<-j,Nat.add_comm (ln (begun town (hour+d))+1)];have:=zT hd a c (ln (begun town hour)+1+(ln (begun town (hour+d))+1)) g
 simp_all
end
theorem zV{w:eG}{d:Int}(hd:0<=d/\d<=12)(a:w.Valid)(g:∀c∈w.au,c.hour+d<=72){c:Nat}(h:c<w.au.length):eQ (w.later d) c=sh d (eQ w c)/\Az (eQ w c):=by
 have b:=a.Ar.2 _ (xE h);have e:=g _ (xE h);have m:=a.aS;have i:Dg w.ways:=λx b=>by have:=a.cM x b;exact⟨this.2.2.1,this.2.2.2.1.1,this.2.2.2.2.2⟩
 have j:(w.later d).au[c]?=some (w.au[c].later d):=by
  show(w.au.map (pS.later d))[c]?=_
  simp_all
 unfold eQ;rw[j,xW h];show BA (w.later d) (w.au[c].later d)=sh d (BA w w.au[c])/\Az (BA w w.au[c]);generalize w.au[c]=x at *;obtain⟨k,f⟩:=Lw hd i (n:=w.aS.toNat) (by omega) (town:=x.town) (hour:=x.hour) ⟨b.2.1,e⟩
 unfold BA;show(jm (w.ways.map (Way.later d)) w.aS.toNat x.town (x.hour+d)).getD 0 0=_/\_;have l:0<(jm w.ways w.aS.toNat x.town x.hour).length:=by rw[f.1];omega
 rw[k,Dh l];refine⟨rfl,f.2 _ ?_⟩
 simp_all
structure pz(w:eG)(d:Int):Prop where
 I1:0<=d/\d<=12
 rX:∀e∈w.fair.aA,e.hour+d<=72
 cM:∀x∈w.ways,x.dE+d<=72
 IN:∀c∈w.au,c.hour+d<=72
section
variable{w:eG}{d:Int}
theorem HJ(w:eG)(d:Int):gQ (w.later d)=bO (gQ w) d:=by
 show({bO w.fair d with aA:=(bO w.fair d).aA++(w.au.map (pS.later d)).map (·.lost)}:Fr)=_;unfold bO;simp only[aaJ,acK];rfl
theorem HK{T:Int}{x:Way}(hd:0<=d)(h:jf T x=0)(g:x.dE+d<=72):jf T (x.later d)=0:=by
 have a:=vo h;obtain⟨i,j,k,l,m⟩:=a;unfold jf at h;split at h
 . cases h
 next b=>
 split at h
 . cases h
 next c=>
 split at h
 . cases h
 next e=>
 split at h
 . cases h
 next f=>
 split at h
 . cases h
 next n=>
 split at h
 . cases h
 next o=>
 split at h
 . cases h
 next p=>
 unfold jf Way.later;rw[zA b,zA c,zA e,zA f,zA (by simp only[bn,Bool.and_eq_false_iff,abu];omega),zA (by simp only[bn,Bool.and_eq_false_iff,abu];omega),zA (by simp_all)]
theorem HL(a:w.Valid)(h:pz w d):(w.later d).rD:=by
 have f:=zi (Fr.oh a.mQ.fits a.mQ.AM) h.I1.1 h.rX;refine⟨f.fits,f.AM,λc g=>?_,?_,?_⟩
 . obtain⟨x,b,rfl⟩:=zU.1 g
   have i:=Fr.oh (a.mQ.IN x b).1 (a.mQ.IN x b).2;have:=zi i h.I1.1 (λe j=>by rw[lb.1 j];have:=a.late x b;have:=h.IN x b;omega);have e:bO (lone w.fair x.lost) d=lone (w.later d).fair (x.later d).lost:=rfl;rw[e]at this;exact⟨this.fits,this.AM⟩
 . show(w.ways.map _).length<_
   rw[zH];exact a.mQ.ways
 . show(w.au.map _).length<_
   rw[zH];exact a.mQ.au
theorem BP(c:w.Valid)(a:eu w=0)(h:pz w d):eu (w.later d)=0:=by
 have g:=ku c.mQ c.nK;have n:er (gQ (w.later d))=er (gQ w):=by rw[HJ];exact Fg g
 unfold eu at a;split at a
 . cases a
 next o=>
 split at a
 . cases a
 next p=>
 split at a
 . omega
 next q=>
 split at a
 . cases a
 next r=>
 split at a
 . omega
 next s=>
 split at a
 . cases a
 next i=>
 split at a
 . cases a
 next t=>
 have j:=jF _ (by omega:dJ (jf w.aS) w.ways=0)
 have k:=jF _ (by omega:dJ (sI w) w.au=0)
 have u:bn (w.later d).aS 1 4=true:=(by simp_all:bn w.aS 1 4=true)
 have v:¬(6:Int)<(w.later d).ways.length:=by show ¬(6:Int)<(w.ways.map _).length;simp_all
 have A:dJ (jf (w.later d).aS) (w.later d).ways=0:=kB λx e=>by obtain⟨y,b,rfl⟩:=zU.1 e;exact HK h.I1.1 (j y b) (h.cM y b)
 have B:¬(3:Int)<(w.later d).au.length:=by show ¬(3:Int)<(w.au.map _).length;simp_all
 have C:dJ (sI (w.later d)) (w.later d).au=0:=kB λx e=>by
  obtain⟨y,b,rfl⟩:=zU.1 e;have z:=k y b;have D:=h.IN y b;have l:=c.Ar.2 y b;have hd:=h.I1.1;have E:=c.late y b;unfold sI at z ⊢;split at z
  . cases z
  next m=>
  have f:¬bn (y.later d).town 0 ((w.later d).aS-1)=false:=m;rw[zA f,zA (by show ¬bn (y.hour+d) 0 72=false;simp only[bn,Bool.and_eq_false_iff,abu];omega),zA (by show ¬y.hour+d<y.lost.hour+d;omega)]
 have F:¬(6:Int)<((w.later d).fair.aA.length:Int)+(w.later d).au.length:=by show ¬(6:Int)<((bO w.fair d).aA.length:Int)+(w.au.map _).length;rw[iJ,zH];exact i
 unfold eu
 grind
theorem wy(a:w.Valid)(b:eu w=0)(h:pz w d):(w.later d).Valid:=eG.valid (HL a h) (BP a b h)
theorem Rw(w:eG)(d t:Int):fh (w.later d) (t+d)=fh w t:=by
 unfold fh pE;show(pW (bO w.fair d).aA.length).filter _=_;rw[iJ];refine abV λi a=>?_
 show decide ((aP (bO w.fair d) i).hour<=t+d)=_;rw[gV (rv a)];show decide ((aP w.fair i).hour+d<=t+d)=_
 simp_all
theorem Rx(b:w.Valid)(h:pz w d){t:Int}(f:t+d<=72):fH (w.later d) (t+d)=fH w t:=by
 unfold fH pC;show(pW (w.au.map (pS.later d)).length).filter _=_;rw[zH];refine abV λi a=>?_
 have a:=rv a;obtain⟨e,g⟩:=zV h.I1 b h.IN (c:=i.toNat) (by omega);have hd:=h.I1;rw[e];unfold sh
 grind
theorem HM{es cs:adK}(e:∀i∈es,0<=i/\i<w.fair.aA.length)(f:∀i∈cs,0<=i/\i<w.au.length):cU (w.later d) es cs=bO (cU w es cs) d:=by
 have g:es.map (aP (w.later d).fair)=(es.map (aP w.fair)).map (dF d):=by rw[acK];exact acf λi h=>gV (e i h)
 have j:(cs.map λc=>(zp (w.later d) c).lost)=(cs.map λc=>(zp w c).lost).map (dF d):=by
  rw[acK];refine acf λc b=>?_
  have:=f c b;have a:c.toNat<w.au.length:=by omega
  show((w.au.map (pS.later d)).getD c.toNat _).lost=dF d (w.au.getD c.toNat _).lost;rw[wN,abw,xW a,wN,xW a];rfl
 unfold cU;rw[g,j,<-List.map_append];rfl
theorem Lx(a:w.Valid)(g:eu w=0)(h:pz w d){t:Int}(j:t+d<=72){i:Int}(hi:0<=i/\i<6):Hq (w.later d) (t+d) i=Hq w t i:=by
 have k:=wy a g h;have e:=Rw w d t;have f:=Rx a h j
 have l:pL (w.later d) (t+d)=bO (pL w t) d:=by show cU (w.later d) (fh (w.later d) (t+d)) (fH (w.later d) (t+d))=_;rw[e,f];exact HM (λ_=>kA) λ_=>lX
 have m:aH (pL (w.later d) (t+d)) []=aH (pL w t) []:=by rw[l];exact sH (zO a t) []
 have n:sa (w.later d) (t+d)=sa w t:=by
  show fh (w.later d) (t+d)++(fH (w.later d) (t+d)).map (λ(c:Int)=>c+((bO w.fair d).aA.length:Int))=_
  rw[e,f,iJ]
 have hlen:((w.later d).fair.aA.length:Int)=w.fair.aA.length:=by show((bO w.fair d).aA.length:Int)=_;rw[iJ]
 have o:=a.Ar.1;unfold Hq;show(pW (w.au.map (pS.later d)).length).filter _=_;rw[zH];refine abV λc b=>?_
 have b:=rv b;rw[acx,I7 k hi ⟨b.1,by omega⟩,I7 a hi ⟨b.1,by omega⟩,e,f,m,n,hlen]
theorem HN(b:w.Valid)(c:eu w=0)(h:pz w d){t:Int}(e:t+d<=72):jh (w.later d) (t+d)=jh w t:=by
 have f:=b.nK;unfold jh;show(pW (bO w.fair d).aA.length).filter _=_;rw[iJ];refine abV λi a=>?_
 have a:=rv a;rw[Lx b c h e ⟨a.1,by omega⟩]
end
end
open Go.ck Go.Conc
variable{m:Mo}{σ:ab}{KF:adw}
theorem Sn{v d:AV}{o:Nat}(n:d.cells.length=v.cells.length)(h:∀(j:Nat) a a',v.cells[j]?=some a->d.cells[j]?=some a'->a.W a'):(AV.cp v o).W (.cp d o):=λk x f=>by
 cases f with
 | cp b base off N E v c g p i l=>
   refine .cp b base o N E d c g (by omega) (λj e=>i j (by omega)) (λj a m=>?_);have e:j<v.cells.length:=by grind
   exact h j _ a (xW e) m _ _ (l j _ (xW e))
theorem Di{k j:Nat}:∀(es:adQ) (i:Nat) (hi:i<es.length),(∀e∈es,e.cells.length=k)->j<k->(flatten es)[i*k+j]?=es[i].cells[j]?
 | e::es,0,_,a,c=>by
   have d:=a e (by simp);rw[flatten_cons,Nat.zero_mul,aci,aby (by omega)];rfl
 | e::es,i+1,hi,a,c=>by
   have d:=a e (by simp);have b:i<es.length:=by simp_all
   rw[flatten_cons,show(i+1)*k+j=e.cells.length+(i*k+j)by grind,abp (by omega),Nat.add_sub_cancel_left,Di es i b (λx f=>a x (by simp[f])) c];rfl
theorem I9{P:adT}{m:Mo}{ξ n:Nat}{ro:adD}{ω:adB}{K:ck.Exit->St->Prop}{todo:adH}{env:Env}{σ0 σ:ab}{D:List wA}{rc:Rec}{kk d i:Nat}{a:AV}{cs es:adQ}(hd:bd a≠some d)(h:bj σ0 σ a kk es)(v:σ d=some (.cells cs))(hi:cs[i]?=some a)
 (k:∀c σ',σ' d=some (.cells (cs.set i c))->c.W (.sl kk es .any)->c.cells=[c]/\c.flat=true->(∀y,y≠d->bd a≠some y->σ' y=σ y)->aa P m ξ n ro ω todo ⟨env,σ',D,rc⟩ K):aa P m ξ n ro ω todo ⟨env,σ,D,rc⟩ K:=by
 have l:=(aaE.1 hi).1
 have o:cs.set i a=cs:=by rw[<-(aaE.1 hi).2];simp_all
 rcases h.2 with⟨rfl,e|e⟩|⟨b,cap,μ,e,E,w,s,z,F⟩
 . exact k a σ (by simp_all) (by rw[e];exact gZ kk) h.cells λ_ _ _=>rfl
 . exact k a σ (by simp_all) (by rw[e];exact iK kk [] .exact) h.cells λ_ _ _=>rfl
 subst e;have G:=aX s;have p:d≠b:=λq=>hd (by rw[q];rfl)
 refine aa.freeze b _ z (λu=>.refl _) (σ':=(σ.del b).set d (.cells (cs.set i (.sl kk es .any)))) (λy x g=>?_) (k (.sl kk es .any) _ (ab.ai _ _ _) (.refl _) ⟨rfl,rfl⟩ λy A B=>?_)
 . by_cases e:y=d
   . subst e
     rw[ab.ai]at g;cases g;refine⟨p,.inr ⟨_,_,v,rfl,by simp,λj x H r f=>?_⟩⟩
     by_cases t:j=i
     . subst t
       rw[hi]at r;cases r;rw[abQ l]at f;cases f;refine .sl 0 cap kk es .any w ?_ s (λj x I=>?_) (.inl rfl)
       . have:cap*kk=es.length*kk+(cap-es.length)*kk:=by rw[<-Nat.add_mul];simp_all
         simp_all
       grind
     rw[abM (wK t)]at f;rw[r]at f;cases f;exact .refl _
   rw[ab.ah _ _ e]at g;unfold ab.del at g
   simp_all
 have C:y≠b:=λe=>B (by rw[e];rfl)
 rw[ab.ah _ _ A];simp[ab.del,C]
def Way.cut(x:Way):Way:=⟨x.a,x.b,x.bo,min x.aK 60,min x.dE 60⟩
theorem PH{T:Int}{x:Way}(h:jf T x=0):jf T x.cut=0:=by
 have a:=vo h;obtain⟨f,g,i,j,k⟩:=a;unfold jf at h;split at h
 . cases h
 next b=>
 split at h
 . cases h
 next c=>
 split at h
 . cases h
 next d=>
 split at h
 . cases h
 next e=>
 split at h
 . cases h
 next l=>
 split at h
 . cases h
 next m=>
 split at h
 . cases h
 next n=>
 unfold jf Way.cut;rw[zA b,zA c,zA d,zA e,zA (by simp only[bn,Bool.and_eq_false_iff,abu];omega),zA (by simp only[bn,Bool.and_eq_false_iff,abu];omega),zA (by grind)]
section
variable{α:Type}{f:α->α}{l:List α}
def upto(f:α->α)(l:List α)(i:Nat):List α:=(l.take i).map f++l.drop i
theorem uB:upto f l l.length=l.map f:=by unfold upto;simp_all
theorem cy{i:Nat}:(upto f l i).length=l.length:=by unfold upto;simp;omega
theorem qL{i:Nat}(hi:i<l.length)(h:i<(upto f l i).length):(upto f l i)[i]=l[i]:=by
 have a:((l.take i).map f).length=i:=by grind
 have e:(upto f l i)[i]?=some l[i]:=by
  unfold upto
  grind
 simp_all
theorem uC{i:Nat}{g:α->AV}(h:(upto f l i).map g=[]):l=[]/\upto f l i=l.map f:=by
 have a:=congrArg List.length (List.map_eq_nil_iff.1 h);rw[cy]at a
 simp_all
theorem qM{i:Nat}(hi:i<l.length):(upto f l i).set i (f l[i])=upto f l (i+1):=by
 have a:((l.take i).map f).length=i:=by grind
 unfold upto;rw[List.set_append_right _ _ (by omega),a,Nat.sub_self,xC hi,aaJ,abE hi,List.set_cons_zero,acd];rfl
end
theorem fM.perm{σ0 σ:ab}{L b:List vz}{F:adL}(h:fM σ0 σ L F)(a:L.Perm b):fM σ0 σ b F:=⟨h.le,λt q=>h.tok t (a.mem_iff.2 q),(a.pairwise_iff λq c d e=>q c e d).1 h.apart,λt q=>h.out t (a.mem_iff.2 q),h.kept⟩
theorem fM.move{σ0 σ σ2:ab}{L:List vz}{F a:adL}(h:fM σ0 σ L F)(c:∀t∈L,∀b,bd t.1=some b->σ2 b=σ b/\∀d∈a,b≠d)(f:∀d∈a,σ2 d≠none):fM (λ_=>none) σ2 L a:=⟨(λ_ _ q=>by cases q),λt q=>(h.tok t q).keep (λ_ _ q=>by cases q) λb hb=>⟨(c t q b hb).1,rfl⟩,h.apart,λt q d hd e=>(c t q d e).2 d hd rfl,λd hd=>⟨f d hd,rfl⟩⟩
structure sb(c xb:Nat)(nums:adK)(k:Nat)(w:eG)(aE aW aC:AV)(E:List sP)(l:adN)(C:List pS)(σ:ab):Prop where
 Xf:aU c nums k σ
 cells:σ xb=some (.cells (rE w aE aW aC))
 own:fM (λ_=>none) σ [(aE,6,E.map bb),(aW,5,l.map cG),(aC,8,C.map cT)] [xb,c]
 ne:xb≠c
section
variable{c xb:Nat}{nums:adK}{k:Nat}{w:eG}{aE aW aC:AV}{E:List sP}{l:adN}{C:List pS}
theorem sb.make{h i a:ab}{F:adL}{k':Nat}(m:fM h i [(aC,8,C.map cT),(aW,5,l.map cG),(aE,6,E.map bb)] F)(hb:aU c nums k h)(hd:pT c nums k' i a)(n:a xb=none):sb c xb nums k' w aE aW aC E l C (a.set xb (.cells (rE w aE aW aC))):=by
 have f:xb≠c:=λe=>by obtain⟨x,q⟩:=hd.1.at;simp_all
 refine⟨hd.1.put f _,ab.ai _ _ _,?_,f⟩
 have p:fM (λ_=>none) (a.set xb (.cells (rE w aE aW aC))) [(aC,8,C.map cT),(aW,5,l.map cG),(aE,6,E.map bb)] [xb,c]:=by
  refine m.move (λt q b j=>?_) λd g=>?_
  . obtain⟨u,y,r⟩:=(m.tok t q).cx j
    have o:b≠c:=λe=>by obtain⟨x,z⟩:=hb.at;simp_all
    have s:b≠xb:=λe=>by rw[<-e,hd.2 b o,r]at n;cases n
    exact⟨by rw[ab.ah _ _ s,hd.2 b o],λd g=>by grind⟩
  simp at g
  rcases g with rfl|rfl
  . simp_all
  obtain⟨x,z⟩:=hd.1.at
  rw[ab.ah _ _ (wK f),z];simp
 exact p.perm ((List.Perm.swap _ _ _).trans (((List.Perm.swap _ _ _).cons _).trans (List.Perm.swap _ _ _))|>.trans (List.Perm.refl _))|>.perm (List.Perm.refl _)
theorem sb.TO{σ:ab}(h:sb c xb nums k w aE aW aC E l C σ){b:Nat}{x:nz}{E':List sP}{l':adN}{C':List pS}(a:b≠c)(d:b≠xb)(e:fM (λ_=>none) (σ.set b x) [(aE,6,E'.map bb),(aW,5,l'.map cG),(aC,8,C'.map cT)] [xb,c]):sb c xb nums k w aE aW aC E' l' C' (σ.set b x):=⟨h.Xf.put a x,by rw[ab.ah _ _ (wK d)];exact h.cells,e,h.ne⟩
theorem sb.Xg{σ:ab}(h:sb c xb nums k w aE aW aC E l C σ){b n cap:Nat}(d:aE=.fN b 0 n cap):n=E.length/\b≠c/\b≠xb/\∃μ,σ b=some (.cells (flatten (E.map bb)++μ))/\μ.length=(cap-n)*6:=by
 obtain⟨g,_,f⟩:=h.own.row (a:=aE) (kk:=6) (es:=E.map bb) (by simp) d;exact⟨by simp_all,λe=>h.own.out (aE,6,E.map bb) (by simp) c (by simp) (by rw[d,e];rfl),λe=>h.own.out (aE,6,E.map bb) (by simp) xb (by simp) (by rw[d,e];rfl),f⟩
theorem sb.Xh{σ:ab}(h:sb c xb nums k w aE aW aC E l C σ){b n cap:Nat}(d:aW=.fN b 0 n cap):n=l.length/\b≠c/\b≠xb/\∃μ,σ b=some (.cells (flatten (l.map cG)++μ))/\μ.length=(cap-n)*5:=by
 obtain⟨g,_,f⟩:=h.own.row (a:=aW) (kk:=5) (es:=l.map cG) (by simp) d;exact⟨by simp_all,λe=>h.own.out (aW,5,l.map cG) (by simp) c (by simp) (by rw[d,e];rfl),λe=>h.own.out (aW,5,l.map cG) (by simp) xb (by simp) (by rw[d,e];rfl),f⟩
theorem sb.Xi{σ:ab}(h:sb c xb nums k w aE aW aC E l C σ){b n cap:Nat}(d:aC=.fN b 0 n cap):n=C.length/\b≠c/\b≠xb/\∃μ,σ b=some (.cells (flatten (C.map cT)++μ))/\μ.length=(cap-n)*8:=by
 obtain⟨g,_,f⟩:=h.own.row (a:=aC) (kk:=8) (es:=C.map cT) (by simp) d;exact⟨by simp_all,λe=>h.own.out (aC,8,C.map cT) (by simp) c (by simp) (by rw[d,e];rfl),λe=>h.own.out (aC,8,C.map cT) (by simp) xb (by simp) (by rw[d,e];rfl),f⟩
theorem sb.YK{σ:ab}(h:sb c xb nums k w aE aW aC E l C σ){b n cap:Nat}(a:aE=.fN b 0 n cap){E':List sP}(j:E'.length=E.length){μ:adQ}(d:μ.length=(cap-n)*6):sb c xb nums k w aE aW aC E' l C (σ.set b (.cells (flatten (E'.map bb)++μ))):=by obtain⟨_,f,g,_⟩:=h.Xg a;exact h.TO f g (h.own.write a (by simp_all) (λe i=>by obtain⟨y,_,rfl⟩:=zU.1 i;rfl) d)
theorem sb.YL{σ:ab}(h:sb c xb nums k w aE aW aC E l C σ){b n cap:Nat}(a:aW=.fN b 0 n cap){l':adN}(j:l'.length=l.length){μ:adQ}(d:μ.length=(cap-n)*5):sb c xb nums k w aE aW aC E l' C (σ.set b (.cells (flatten (l'.map cG)++μ))):=by obtain⟨_,f,g,_⟩:=h.Xh a;exact h.TO f g (h.own.swap.write a (by simp_all) (λe i=>by obtain⟨y,_,rfl⟩:=zU.1 i;rfl) d).swap
theorem sb.YM{σ:ab}(h:sb c xb nums k w aE aW aC E l C σ){b n cap:Nat}(d:aC=.fN b 0 n cap){C':List pS}(m:C'.length=C.length){μ:adQ}(f:μ.length=(cap-n)*8):sb c xb nums k w aE aW aC E l C' (σ.set b (.cells (flatten (C'.map cT)++μ))):=by
 obtain⟨_,g,i,_⟩:=h.Xi d;have a:∀{σ:ab}{x y z:vz}{F},fM (λ_=>none) σ [x,y,z] F->fM (λ_=>none) σ [z,x,y] F:=λh=>h.perm (((List.Perm.swap _ _ _).cons _).trans (List.Perm.swap _ _ _))
 exact h.TO g i (a (a ((a h.own).write d (by simp_all) (λe j=>by obtain⟨y,_,rfl⟩:=zU.1 j;rfl) f)))
theorem sb.thaw{P:adT}{m:Mo}{ξ n:Nat}{ro:adD}{ω:adB}{K:ck.Exit->St->Prop}{todo:adH}{env:Env}{σ:ab}{D:List wA}{rc:Rec}(h:sb c xb nums k w aE aW aC E l C σ)
 (y:∀f g j σ',aU c nums k σ'->σ' xb=some (.cells (rE w f g j))->f.W (.sl 6 (E.map bb) .any)->g.W (.sl 5 (l.map cG) .any)->j.W (.sl 8 (C.map cT) .any)->(f.cells=[f]/\g.cells=[g]/\j.cells=[j])->aa P m ξ n ro ω todo ⟨env,σ',D,rc⟩ K):aa P m ξ n ro ω todo ⟨env,σ,D,rc⟩ K:=by
 have z:=h.own.tok (aE,6,E.map bb) (by simp);have A:=h.own.tok (aW,5,l.map cG) (by simp);have B:=h.own.tok (aC,8,C.map cT) (by simp);have u:=λd hd=>h.own.out (aE,6,E.map bb) (by simp) d hd
 have p:=λd hd=>h.own.out (aW,5,l.map cG) (by simp) d hd
 have r:=λd hd=>h.own.out (aC,8,C.map cT) (by simp) d hd
 obtain⟨v,F⟩:=aaL.1 h.own.apart;obtain⟨G,_⟩:=aaL.1 F;have o:∀b,bd aW=some b->b≠xb/\bd aE≠some b:=λb q=>⟨λe=>p xb (by simp) (by rw[q,e]),λe=>v (aW,5,l.map cG) (by simp) b e q⟩
 have a:∀b,bd aC=some b->b≠xb/\bd aE≠some b/\bd aW≠some b:=λb q=>⟨λe=>r xb (by simp) (by rw[q,e]),λe=>v (aC,8,C.map cT) (by simp) b e q,λe=>G (aC,8,C.map cT) (by simp) b e q⟩
 refine I9 (u xb (by simp)) z h.cells (i:=0) rfl λf σ1 H I J s=>?_
 refine I9 (p xb (by simp)) (A.keep (σ1:=λ_=>none) (λ_ _ q=>by cases q) λb q=>⟨s b (o b q).1 (o b q).2,rfl⟩) H (i:=7) rfl λg L M N O x=>?_
 refine I9 (r xb (by simp)) (B.keep (σ1:=λ_=>none) (λ_ _ q=>by cases q) λb q=>⟨(x b (a b q).1 (a b q).2.2).trans (s b (a b q).1 (a b q).2.1),rfl⟩) M (i:=8) rfl λj t Q R S T=>?_
 refine y f g j t ?_ Q I N R ⟨J.1,O.1,S.1⟩;obtain⟨U,V,X,Y⟩:=h.Xf;exact⟨U,V,X,by rw[T c (wK h.ne) (r c (by simp)),x c (wK h.ne) (p c (by simp)),s c (wK h.ne) (u c (by simp))];exact Y⟩
end
theorem I'{l:adN}{K j:Nat}(d:K<l.length)(hj:j<5)(μ:adQ):(flatten (l.map cG)++μ)[K*5+j]?=(cG l[K]).cells[j]?:=by
 have b:∀e∈l.map cG,e.cells.length=5:=λe c=>by obtain⟨y,_,rfl⟩:=zU.1 c;rfl
 have a:=aX b;rw[zH]at a;rw[aby (by omega),Di (k:=5) (l.map cG) K (by simp_all) b hj,acO]
theorem PI(x:Int):(if 60<x then(60:Int)else x)=min x 60:=by omega
theorem Lu.cell{c e:Nat}{nums:adK}{k:Nat}{w:eG}{a:AV}{l:adN}{σ:ab}(h:Lu c e nums k w a l σ){b n cap:Nat}(f:a=.fN b 0 n cap){μ:adQ}(g:μ.length=(cap-n)*5){K j:Nat}(i:K<l.length)(hj:j<5){v:AV}{x':Way}(m:(cG x').cells=(cG l[K]).cells.set j v):Lu c e nums k w a (l.set K x') (σ.set b (.cells (List.take (K*5+j) (flatten (l.map cG)++μ)++v::List.drop (K*5+j+1) (flatten (l.map cG)++μ)))):=by
 have d:=h.put f (l':=l.set K x') (by simp_all) g;have e:(flatten (l.map cG)++μ).set (K*5+j) v=List.take (K*5+j) (flatten (l.map cG)++μ)++v::List.drop (K*5+j+1) (flatten (l.map cG)++μ):=by rw[acn,zR (by rw[De];omega)]
 rw[<-Dd i hj m μ,e]at d;exact d
section
variable{α:Type}{f:α->AV}{kk:Nat}{l:List α}
theorem zW(a:∀x,(f x).cells.length=kk):∀e∈l.map f,e.cells.length=kk:=λe b=>by grind
theorem Dj(a:∀x,(f x).cells.length=kk)(μ:adQ):(flatten (l.map f)++μ).length=l.length*kk+μ.length:=by rw[aaI,aX (zW a),zH]
theorem TP(a:∀x,(f x).cells.length=kk){K j:Nat}(b:K<l.length)(hj:j<kk)(μ:adQ):(flatten (l.map f)++μ)[K*kk+j]?=(f l[K]).cells[j]?:=by
 have c:K*kk+j<l.length*kk:=by
  have:=abH kk (show K+1<=l.length from b)
  grind
 rw[aby (by rw[aX (zW a),zH];exact c),Di (k:=kk) (l.map f) K (by simp_all) (zW a) hj,acO]
theorem HO(a:∀x,(f x).cells.length=kk){K j:Nat}(b:K<l.length)(hj:j<kk){v:AV}{x':α}(g:(f x').cells=(f l[K]).cells.set j v)(μ:adQ):List.take (K*kk+j) (flatten (l.map f)++μ)++v::List.drop (K*kk+j+1) (flatten (l.map f)++μ)=flatten ((l.set K x').map f)++μ:=by
 have c:K*kk+j<l.length*kk:=by
  have:=abH kk (show K+1<=l.length from b)
  grind
 have d:K*kk+j<(flatten (l.map f)).length:=by rw[aX (zW a),zH];exact c
 have e:(flatten (l.map f)++μ).set (K*kk+j) v=List.take (K*kk+j) (flatten (l.map f)++μ)++v::List.drop (K*kk+j+1) (flatten (l.map f)++μ):=by rw[acn,zR (by grind)]
 rw[<-e,List.set_append_left _ _ d,zQ (k:=kk) (l.map f) K (by simp_all) (zW a) hj v (f x') (by simp_all),acg]
end
theorem TR{R X:adQ}{n:Nat}{v:AV}(h:n<R.length):(List.take n R++v::X)[n]?=some v:=by grind
theorem So{f:Fr}(a:f.Good):∀e∈f.aA,0<=e.hour/\e.hour<=72:=λe b=>(oi (a.rX e b)).1
namespace CL
abbrev pl3:adB:=[⟨6,.take [0,2,3,5] false (.both 1 (.take [11,12,13] false (.one 4 (.take [6,7,8] false (.one 9 (.one 10 (.one 14 (.done))))))) (.one 4 (.take [6,7,8] false (.both 1 (.take [11,12,13] false (.one 9 (.one 10 (.one 14 (.done))))) (.one 9 (.both 1 (.take [11,12,13] false (.one 10 (.one 14 (.done)))) (.one 10 (.one 1 (.take [11,12,13] false (.one 14 (.done)))))))))))⟩,⟨7,.take [0,2,3,5] false (.both 1 (.take [11,12,13] false (.one 4 (.take [6,7,8] false (.one 9 (.one 10 (.one 14 (.done))))))) (.one 4 (.take [6,7,8] false (.both 1 (.take [11,12,13] false (.one 9 (.one 10 (.one 14 (.done))))) (.one 9 (.both 1 (.take [11,12,13] false (.one 10 (.one 14 (.done)))) (.one 10 (.one 1 (.take [11,12,13] false (.one 14 (.done)))))))))))⟩,⟨12,.take [0,1,3,4,5,6,7,8,9,10,11,12] false (.one 2 (.take [13,14] false (.one 15 (.done))))⟩,⟨18,.take [0,2,3,4,5,6,7,8,9,10,11,12,13,14,15,16,17,18,19,20] false (.both 1 (.take [22,23] false (.one 21 (.one 24 (.done)))) (.one 21 (.one 1 (.take [22,23] false (.one 24 (.done))))))⟩,⟨22,.take [0,2,3,5,6,7,8,9,10,11,12,13,14,15,16,17,18,19,20,21,22] false (.both 1 (.take [23,24] false (.both 4 (.take [26,27,28] false (.one 25 (.one 29 (.done)))) (.one 25 (.one 4 (.take [26,27,28] false (.one 29 (.done))))))) (.one 4 (.take [26,27,28] false (.one 1 (.take [23,24] false (.one 25 (.one 29 (.done))))))))⟩]
theorem FP(hs:m.solo=true){nums:adK}(hn:nums.length<1152921504606846976)(h:∀σ',KF (.val (ψ true)) σ'):yp prog lay m 3 [ints nums] σ KF:=by
 refine yp.start lay [] pl3 1 Tryz.func3 rfl rfl (by rfl) (by kernel_rfl) ?_
 simp[Tryz.f3];refine cf Tryz.func10 rfl (K2 λc hp hc hb c9=>?_)
 apply rn;simp;refine cf Tryz.func11 rfl (WO.FN (by omega) hn ⟨by omega,by omega⟩ hb λw own lost a fw hm ca ht ea=>?_)
 have eb:=ht.cells;refine aa.runN lay [] 8 ?_;simp;refine bP.intro λe he=>?_
 simp[aG,eb.2]
 have I:Lu c e nums 600 w a w.ways (fw.set e (.cells (Ay w a (fV w.au)))):=by
  have ec:e≠c:=λq=>by obtain⟨x,z⟩:=ca.at;simp_all
  have hx:bd a≠some e:=λq=>by obtain⟨l,z⟩:=(ht.cx q).2;simp_all
  exact⟨ca.put ec _,ab.ai _ _ _,ht.keep (λ_ _ q=>by cases q) λb q=>⟨ab.ah _ _ λz=>hx (by rw[q,z]),rfl⟩,ec,ea,hx⟩
 have hv:=hm.valid;have hk:=hm.AM;have c3:=hv.Ar.1;have h6:=hv.nK;have h5:=hm.YI;have ed:=TM hk;obtain⟨J,S⟩:∃J:adu,J=λenv σ'=>env 3=.ref c 0/\env 4=.ref e 0/\Lu c e nums 600 w a (w.ways.map Way.cut) σ':=⟨_,rfl⟩
 apply rn;simp;refine aa.dX (λenv σ'=>env 3=.ref c 0/\env 4=.ref e 0/\env 7=ι 0/\Lu c e nums 600 w a w.ways σ') ⟨by simp,by simp,by simp,I⟩ ?_
 clear I he eb ht ea ca hb c9 hc
 rintro env aL ⟨g,f,e7,I⟩
 refine Au (P:=?P2) (λkey=>?f2) ?p2
 case f2=>
  refine aa.loop w.ways.length (λi s=>∃env σ',s=⟨env,σ',[],.no⟩/\(env 3=.ref c 0/\env 4=.ref e 0/\env 7=ι i)/\Lu c e nums 600 w a (upto Way.cut w.ways i) σ') ⟨env,aL,rfl,⟨g,f,e7⟩,I⟩ ?_
  rintro c0 i _ hi ⟨env,aL,rfl,⟨g,f,e7⟩,I⟩ ih
  have G:=I.cells
  rcases id I.tok.2 with ⟨a9,N⟩|⟨b,cap,ad,u,h0,h1,h2,h3,h4⟩
  . obtain⟨hz,al⟩:=uC a9
    have av:¬(i:Int)<0:=Int.not_lt.2 (Int.natCast_nonneg i);rw[al]at I
    rcases N with N|N
    all_goals
     rw[N]at G;refine aa.runN lay [] 11 ?_;simp[f,e7,G,av];refine aa.dX J (by rw[S];exact⟨by simp[g],by simp[f],I⟩) ?_
     exact key
  rw[u]at G;obtain⟨qn,qc,qe,fx,μ,p,O⟩:=I.row u;rw[cy]at qn;have E:((upto Way.cut w.ways i).map cG).length=w.ways.length:=by omega
  by_cases n:i<w.ways.length
  . have Y:i<(upto Way.cut w.ways i).length:=by rw[cy];exact n
    obtain⟨R,hR⟩:∃R,R=flatten ((upto Way.cut w.ways i).map cG)++μ:=⟨_,rfl⟩;rw[<-hR]at p;have ee:R[i*5+4]?=some (ι w.ways[i].dE):=by rw[hR,I' Y (by decide),qL n Y];rfl
    have T:R.length=w.ways.length*5+μ.length:=by rw[hR,De,cy]
    have f4:i*5+4+1<=R.length:=by omega
    obtain⟨x1,cb⟩:∃x1:Way,x1={w.ways[i]with dE:=min w.ways[i].dE 60}:=⟨_,rfl⟩
    have aO:=I.cell u O Y (by decide:4<5) (v:=ι (min w.ways[i].dE 60)) (x':=x1) (by rw[qL n Y,cb];rfl)
    rw[<-hR]at aO;have b1:=PI w.ways[i].dE;obtain⟨J2,cg⟩:∃J2:adu,J2=λenv σ'=>env 3=.ref c 0/\env 4=.ref e 0/\env 7=ι i/\Lu c e nums 600 w a ((upto Way.cut w.ways i).set i x1) σ':=⟨_,rfl⟩
    refine Au (P:=?P3) (λeg=>?f3) ?p3
    case f3=>
     apply rn;simp[f,e7,G,n,E,p,ee,f4,aG,b1];refine⟨?_,?_,?_,?_⟩
     all_goals
      refine aa.dX J2 (by rw[cg];exact⟨by simp[g],by simp[f],by simp[e7],aO⟩) ?_
      exact eg
    case p3=>
     rw[cg];clear aO p ee I G g f e7 O cg J2
     rintro env aL ⟨g,f,e7,I⟩
     have G:=I.cells;rw[u]at G;obtain⟨qn,qc,qe,fx,μ,p,O⟩:=I.row u;rw[abK,cy]at qn;have b5:i<((upto Way.cut w.ways i).set i x1).length:=by rw[abK];exact Y
     have ei:((upto Way.cut w.ways i).set i x1)[i]=x1:=List.getElem_set_self _;obtain⟨R,hR⟩:∃R,R=flatten (((upto Way.cut w.ways i).set i x1).map cG)++μ:=⟨_,rfl⟩;rw[<-hR]at p;have fO:R[i*5+3]?=some (ι w.ways[i].aK):=by rw[hR,I' b5 (by decide),ei,cb];rfl
     have T:R.length=w.ways.length*5+μ.length:=by rw[hR,De,abK,cy]
     have f3:i*5+3+1<=R.length:=by omega
     have aO:=I.cell u O b5 (by decide:3<5) (v:=ι (min w.ways[i].aK 60)) (x':=w.ways[i].cut) (by rw[ei,cb];rfl)
     rw[<-hR,List.set_set,qM n]at aO;have b1:=PI w.ways[i].aK;apply rn;simp[f,e7,G,n,E,p,fO,f3,aG,b1];refine⟨?_,?_,?_,?_⟩
     all_goals
      apply rn;simp[e7];exact⟨by clear key;omega,ih _ n ⟨_,_,rfl,⟨by simp[g],by simp[f],by simp⟩,aO⟩⟩
  have V:i=w.ways.length:=by omega
  rw[V,uB]at I;refine aa.runN lay [] 11 ?_;simp[f,e7,G,n,E];refine aa.dX J (by rw[S];exact⟨by simp[g],by simp[f],I⟩) ?_
  exact key
 case p2 =>
  rw[S];clear S J g f e7 I env aL
  rintro env aL ⟨g,f,I⟩
  have b6:(w.ways.map Way.cut).length<=6:=by grind
  have cm:∀x∈w.ways.map Way.cut,jf w.aS x=0:=λx hx=>by obtain⟨y,hy,rfl⟩:=zU.1 hx;exact PH (ed y hy)
  have bm:∀x∈w.ways.map Way.cut,x.dE<=60:=λx hx=>by obtain⟨y,hy,rfl⟩:=zU.1 hx;exact Int.min_le_right _ _
  have H:=PE hv hk b6 cm;have b2:=PD hv hk b6 cm;have gW:(w.by (w.ways.map Way.cut)).fair.Good:=Fr.oh hv.mQ.fits hv.mQ.AM
  have o1:∀e∈(w.by (w.ways.map Way.cut)).fair.aA,e.marks.length<=1000000000:=λe q=>by have:=hm.Xd e q;omega
  have o2:(w.by (w.ways.map Way.cut)).fair.roads.length<=1000000:=by have:=hm.rows.1;show w.fair.roads.length<=_;omega
  have o3:∀r∈(w.by (w.ways.map Way.cut)).fair.roads,r.length<=1000000000:=λr q=>by have:=hm.rows.2 r q;omega
  have o5:∀c∈(w.by (w.ways.map Way.cut)).au,c.lost.marks.length<=1000000000:=λx q=>by have:=hm.Xe x q;omega
  have c3:(w.by (w.ways.map Way.cut)).au.length<=3:=c3
  have hr:∀x∈(w.by (w.ways.map Way.cut)).ways,x.dE<=60:=bm
  have o4:(w.by (w.ways.map Way.cut)).ways.length<=6:=b6
  have bw:=I.Xf;refine I9 I.nx I.tok I.cells (i:=7) rfl λa2 b7 q4 ej gd ep=>?_
  have et:aU c nums 600 (b7.del e):=by obtain⟨n0,z0,n,g2⟩:=bw;exact⟨n0,z0,n,by rw[show (b7.del e) c=b7 c by simp[ab.del,wK I.ne],ep c (wK I.ne) I.nc];exact g2⟩
  refine aa.bE 4 (b:=e) (.agg (Ay w a2 (fV w.au))) q4 (by simp[f]) (by simp) ?_
  have cv:(AV.cp (.agg (Ay w a2 (fV w.au))) 0).W (.cp (c8 (w.by (w.ways.map Way.cut))) 0):=by
   have k1:(AV.agg (Ay w a2 (fV w.au))).cells=Ay w a2 (fV w.au):=by simp
   have k2:(c8 (w.by (w.ways.map Way.cut))).cells=Ay w (qB (w.ways.map Way.cut)) (fV w.au):=rfl
   exact Sn (by simp_all) (by rw[k1,k2];exact HG (.refl _) ej (.refl _))
  refine aa.IC 4 (a':=.cp (c8 (w.by (w.ways.map Way.cut))) 0) (by simp_all) ?_
  refine aa.dX (λenv σ'=>env 3=.ref c 0/\env 4=.cp (c8 (w.by (w.ways.map Way.cut))) 0/\aU c nums 600 σ') ⟨by simp[g],by simp,et⟩ ?_
  clear et cv ep q4 ej gd I bw bm cm b6 ed h5 hv hk hm g f env;generalize w.by (w.ways.map Way.cut)=W at *
  rintro env b7 ⟨g,f,hb⟩
  apply rn;simp[f];refine cf Tryz.func12 rfl (Df gW o1 o2 o3 o4 o5 c3 λaE aW aC hD F hO=>?_)
  have tE:=(hO.tok (aE,6,W.fair.aA.map bb) (by simp)).cells
  have tW:=(hO.tok (aW,5,W.ways.map cG) (by simp)).cells
  have tC:=(hO.tok (aC,8,W.au.map cT) (by simp)).cells
  apply rn;simp[g];refine cf Tryz.func13 rfl (eP (by omega) hn (by omega) (by omega) (hb.le hO.le) λd hE hd ev=>?_)
  have bx:0<=d/\d<=12:=by omega
  refine aa.runN lay [] 4 ?_;simp;refine bP.intro λxb hx=>?_
  simp[aG,tE.2,tW.2,tC.2];have C:=sb.make (w:=W) hO hb ev hx;apply rn;simp;refine aa.dX (λenv σ'=>env 3=.ref c 0/\env 4=.cp (c8 W) 0/\env 8=.ref xb 0/\env 9=ι d/\env 10=ι 0/\sb c xb nums 601 W aE aW aC W.fair.aA W.ways W.au σ') ⟨by simp[g],by simp[f],by simp,by simp,by simp,C⟩ ?_
  have gf:=So gW;have hF:=H.nK;clear C hx ev hO tE tW tC hb g f env aL hd o1 o2 o3 o5
  rintro env gj ⟨g,f,o,D,cN,C⟩
  have ey:∀x:sP,(bb x).cells.length=6:=λ_=>rfl
  obtain⟨J,S⟩:∃J:adu,J=λenv σ'=>env 3=.ref c 0/\env 4=.cp (c8 W) 0/\env 8=.ref xb 0/\env 9=ι d/\(∀e∈W.fair.aA,e.hour+d<=72)/\sb c xb nums 601 W aE aW aC (W.fair.aA.map (dF d)) W.ways W.au σ':=⟨_,rfl⟩
  refine Au (P:=?P4) (λkey=>?f4) ?p4
  case f4=>
   refine aa.loop W.fair.aA.length (λi s=>∃env σ',s=⟨env,σ',[],.no⟩/\(env 3=.ref c 0/\env 4=.cp (c8 W) 0/\env 8=.ref xb 0/\env 9=ι d/\env 10=ι i)/\sb c xb nums 601 W aE aW aC (upto (dF d) W.fair.aA i) W.ways W.au σ'/\∀e∈W.fair.aA.take i,e.hour+d<=72) ⟨env,gj,rfl,⟨g,f,o,D,cN⟩,C,λe he=>by simp at he⟩ ?_
   rintro c0 i _ hi ⟨env,Z,rfl,⟨g,f,o,D,cN⟩,C,ax⟩ ih
   have G:=C.cells;have av:¬(i:Int)<0:=Int.not_lt.2 (Int.natCast_nonneg i)
   rcases (C.own.tok (aE,6,(upto (dF d) W.fair.aA i).map bb) (by simp)).2 with ⟨a9,N⟩|⟨b,cap,ad,u,h0,h1,h2,h3,h4⟩
   . obtain⟨hz,al⟩:=uC a9
     rw[al]at C;have ay:∀e∈W.fair.aA,e.hour+d<=72:=λe he=>by rw[hz]at he;cases he
     rcases N with N|N
     all_goals
      have N:aE=_:=N;rw[N]at G;refine aa.runN lay [] 12 ?_;simp[o,cN,G,av];refine aa.dX J (by rw[S];exact⟨by simp[g],by simp[f],by simp[o],by simp[D],ay,C⟩) ?_
      exact key
   have u:aE=_:=u;rw[u]at G;obtain⟨qn,qc,qx,μ,p,O⟩:=C.Xg u;have E:((upto (dF d) W.fair.aA i).map bb).length=W.fair.aA.length:=by rw[zH,cy]
   by_cases n:i<W.fair.aA.length
   . have Y:i<(upto (dF d) W.fair.aA i).length:=by rw[cy];exact n
     have eA:W.fair.aA[i]?=some W.fair.aA[i]:=xW n;have hG:=gf _ (xE n);obtain⟨v,hv⟩:∃v,v=W.fair.aA[i].hour+d:=⟨_,rfl⟩;have fv:-9223372036854775808<=W.fair.aA[i].hour+d/\W.fair.aA[i].hour+d<=9223372036854775807:=by omega
     have hP:=HO ey Y (by decide:0<6) (v:=ι v) (x':=dF d W.fair.aA[i]) (by rw[qL n Y,hv];rfl) μ
     have Q:=C.YK u (E':=upto (dF d) W.fair.aA (i+1)) (by rw[cy,cy]) O
     rw[<-qM n,<-hP]at Q;have T:=Dj ey (l:=upto (dF d) W.fair.aA i) μ;obtain⟨R,hR⟩:∃R,R=flatten ((upto (dF d) W.fair.aA i).map bb)++μ:=⟨_,rfl⟩;rw[<-hR]at p Q T;rw[cy]at T;rw[qM n]at Q;have f0:i*6+1<=R.length:=by omega
     have bA:=TR (X:=List.drop (i*6+1) R) (v:=ι v) (show i*6<R.length from f0)
     have b3:¬72<v->∀e∈W.fair.aA.take (i+1),e.hour+d<=72:=λz e he=>by
      rw[xC n]at he
      rcases KD.1 he with he|he
      . exact ax e he
      rw[lb.1 he,<-hv];omega
     apply rn;have b0:∀X,(Z.set b X) xb=some (.cells (rE W (.fN b 0 ((upto (dF d) W.fair.aA i).map bb).length cap) aW aC)):=λX=>(ab.ah _ _ (wK qx)).trans G
     simp[f,o,D,cN,G,n,E,p,f0,aG,<-hv];refine⟨by omega,?_⟩
     apply rn
     by_cases g3:72<v
     . simp[o,cN,b0,n,E,bA,g3]
       refine cf Tryz.func14 rfl (zB hs ?_);apply rn;simp;exact .done (h _)
     simp[o,cN,b0,n,E,bA,g3];exact⟨by omega,ih _ n ⟨_,_,rfl,⟨by simp[g],by simp[f],by simp[o],by simp[D],by simp⟩,Q,b3 g3⟩⟩
   have V:i=W.fair.aA.length:=by omega
   rw[V,uB]at C;rw[V,aaF]at ax;refine aa.runN lay [] 12 ?_;simp[o,cN,G,n,E];refine aa.dX J (by rw[S];exact⟨by simp[g],by simp[f],by simp[o],by simp[D],ax,C⟩) ?_
   exact key
  case p4 =>
   rw[S];clear S J C g f o D cN env
   rintro env Z ⟨g,f,o,D,ay,C⟩
   have gl:=H.cM;have gp:∀x:Way,(cG x).cells.length=5:=λ_=>rfl
   apply rn;simp;obtain⟨J,S⟩:∃J:adu,J=λenv σ'=>env 3=.ref c 0/\env 4=.cp (c8 W) 0/\env 8=.ref xb 0/\env 9=ι d/\sb c xb nums 601 W aE aW aC (W.fair.aA.map (dF d)) (W.ways.map (Way.later d)) W.au σ':=⟨_,rfl⟩
   refine aa.dX (λenv σ'=>env 3=.ref c 0/\env 4=.cp (c8 W) 0/\env 8=.ref xb 0/\env 9=ι d/\env 11=ι 0/\sb c xb nums 601 W aE aW aC (W.fair.aA.map (dF d)) W.ways W.au σ') ⟨by simp[g],by simp[f],by simp[o],by simp[D],by simp,C⟩ ?_
   clear C g f o D env Z
   rintro env Z ⟨g,f,o,D,dw,C⟩
   refine Au (P:=?P5) (λkey=>?f5) ?p5
   case f5=>
    refine aa.loop W.ways.length (λi s=>∃env σ',s=⟨env,σ',[],.no⟩/\(env 3=.ref c 0/\env 4=.cp (c8 W) 0/\env 8=.ref xb 0/\env 9=ι d/\env 11=ι i)/\sb c xb nums 601 W aE aW aC (W.fair.aA.map (dF d)) (upto (Way.later d) W.ways i) W.au σ') ⟨env,Z,rfl,⟨g,f,o,D,dw⟩,C⟩ ?_
    rintro c0 i _ hi ⟨env,a7,rfl,⟨g,f,o,D,dw⟩,C⟩ ih
    have G:=C.cells;have av:¬(i:Int)<0:=Int.not_lt.2 (Int.natCast_nonneg i)
    rcases (C.own.tok (aW,5,(upto (Way.later d) W.ways i).map cG) (by simp)).2 with ⟨a9,N⟩|⟨b,cap,ad,u,h0,h1,h2,h3,h4⟩
    . obtain⟨hz,al⟩:=uC a9
      rw[al]at C
      rcases N with N|N
      all_goals
       have N:aW=_:=N;rw[N]at G;refine aa.runN lay [] 11 ?_;simp[o,dw,G,av];refine aa.dX J (by rw[S];exact⟨by simp[g],by simp[f],by simp[o],by simp[D],C⟩) ?_
       exact key
    have u:aW=_:=u;rw[u]at G;obtain⟨qn,qc,qx,μ,p,O⟩:=C.Xh u;have E:((upto (Way.later d) W.ways i).map cG).length=W.ways.length:=by rw[zH,cy]
    by_cases n:i<W.ways.length
    . have Y:i<(upto (Way.later d) W.ways i).length:=by rw[cy];exact n
      have eA:W.ways[i]?=some W.ways[i]:=xW n;obtain⟨_,_,⟨_,_⟩,⟨_,_⟩,_,_⟩:=gl _ (xE n);obtain⟨v1,eB⟩:∃v,v=W.ways[i].aK+d:=⟨_,rfl⟩;obtain⟨v2,eK⟩:∃v,v=W.ways[i].dE+d:=⟨_,rfl⟩;have eN:-9223372036854775808<=v1/\v1<=9223372036854775807:=by omega
      have eR:-9223372036854775808<=v2/\v2<=9223372036854775807:=by omega
      have e1:=Dd (l:=upto (Way.later d) W.ways i) (K:=i) (j:=3) Y (by decide) (v:=ι v1) (x':={W.ways[i]with aK:=v1}) (by rw[qL n Y];rfl) μ
      have e2:=Dd (l:=(upto (Way.later d) W.ways i).set i {W.ways[i]with aK:=v1}) (K:=i) (j:=4) (by rw[abK];exact Y) (by decide) (v:=ι v2) (x':=W.ways[i].later d) (by rw[List.getElem_set_self,eB,eK];rfl) μ
      have Q:=C.YL u (l':=upto (Way.later d) W.ways (i+1)) (by rw[cy,cy]) O
      have T:=Dj gp (l:=upto (Way.later d) W.ways i) μ;obtain⟨R,hR⟩:∃R,R=flatten ((upto (Way.later d) W.ways i).map cG)++μ:=⟨_,rfl⟩;rw[<-hR]at p T e1;rw[cy]at T;have f3:i*5+3+2<=R.length:=by omega
      have eX:=I8 R (i*5+3) (ι v1) (ι v2) f3;rw[e1,show i*5+3+1=i*5+4 from rfl,e2,List.set_set,qM n]at eX
      rw[<-eX]at Q;apply rn;simp[f,o,D,dw,G,n,E,p,f3,aG,<-eB,<-eK,eN.1,eN.2,eR.1,eR.2];refine⟨?_,?_⟩
      all_goals
       apply rn;simp[dw];exact⟨by clear key;omega,ih _ n ⟨_,_,rfl,⟨by simp[g],by simp[f],by simp[o],by simp[D],by simp⟩,Q⟩⟩
    have V:i=W.ways.length:=by omega
    rw[V,uB]at C;refine aa.runN lay [] 11 ?_;simp[o,dw,G,n,E];refine aa.dX J (by rw[S];exact⟨by simp[g],by simp[f],by simp[o],by simp[D],C⟩) ?_
    exact key
   case p5=>
    rw[S];clear S J C g f o D dw env
    rintro env a7 ⟨g,f,o,D,C⟩
    have b4:∀x:pS,(cT x).cells.length=8:=λ_=>rfl
    have gw:=H.Ar.2;have hH:=H.late;have gx:∀x∈W.au,0<=x.lost.hour/\x.lost.hour<=72:=λx hx=>So (Fr.oh (H.mQ.IN x hx).1 (H.mQ.IN x hx).2) x.lost (by simp)
    apply rn;simp;obtain⟨J,S⟩:∃J:adu,J=λenv σ'=>env 3=.ref c 0/\env 4=.cp (c8 W) 0/\env 8=.ref xb 0/\env 9=ι d/\(∀x∈W.au,x.hour+d<=72)/\sb c xb nums 601 W aE aW aC (W.fair.aA.map (dF d)) (W.ways.map (Way.later d)) (W.au.map (pS.later d)) σ':=⟨_,rfl⟩
    refine aa.dX (λenv σ'=>env 3=.ref c 0/\env 4=.cp (c8 W) 0/\env 8=.ref xb 0/\env 9=ι d/\env 12=ι 0/\sb c xb nums 601 W aE aW aC (W.fair.aA.map (dF d)) (W.ways.map (Way.later d)) W.au σ') ⟨by simp[g],by simp[f],by simp[o],by simp[D],by simp,C⟩ ?_
    clear C g f o D env a7
    rintro env a7 ⟨g,f,o,D,fI,C⟩
    refine Au (P:=?P6) (λkey=>?f6) ?p6
    case f6=>
     refine aa.loop W.au.length (λi s=>∃env σ',s=⟨env,σ',[],.no⟩/\(env 3=.ref c 0/\env 4=.cp (c8 W) 0/\env 8=.ref xb 0/\env 9=ι d/\env 12=ι i)/\sb c xb nums 601 W aE aW aC (W.fair.aA.map (dF d)) (W.ways.map (Way.later d)) (upto (pS.later d) W.au i) σ'/\∀x∈W.au.take i,x.hour+d<=72) ⟨env,a7,rfl,⟨g,f,o,D,fI⟩,C,λe he=>by simp at he⟩ ?_
     rintro c0 i _ hi ⟨env,Z,rfl,⟨g,f,o,D,fI⟩,C,ax⟩ ih
     have G:=C.cells;have av:¬(i:Int)<0:=Int.not_lt.2 (Int.natCast_nonneg i)
     rcases (C.own.tok (aC,8,(upto (pS.later d) W.au i).map cT) (by simp)).2 with ⟨a9,N⟩|⟨b,cap,ad,u,h0,h1,h2,h3,h4⟩
     . obtain⟨hz,al⟩:=uC a9
       rw[al]at C;have dj:∀e∈W.au,e.hour+d<=72:=λe he=>by rw[hz]at he;cases he
       rcases N with N|N
       all_goals
        have N:aC=_:=N;rw[N]at G;refine aa.runN lay [] 11 ?_;simp[o,fI,G,av];refine aa.dX J (by rw[S];exact⟨by simp[g],by simp[f],by simp[o],by simp[D],dj,C⟩) ?_
        exact key
     have u:aC=_:=u;rw[u]at G;obtain⟨qn,qc,qx,μ,p,O⟩:=C.Xi u;have E:((upto (pS.later d) W.au i).map cT).length=W.au.length:=by rw[zH,cy]
     by_cases n:i<W.au.length
     . have Y:i<(upto (pS.later d) W.au i).length:=by rw[cy];exact n
       have eA:W.au[i]?=some W.au[i]:=xW n;have hI:=(gw _ (xE n)).2;have hK:=gx _ (xE n);obtain⟨v7,b8⟩:∃v,v=W.au[i].hour+d:=⟨_,rfl⟩;obtain⟨v0,fa⟩:∃v,v=W.au[i].lost.hour+d:=⟨_,rfl⟩;have fc:-9223372036854775808<=v7/\v7<=9223372036854775807:=by omega
       have fg:-9223372036854775808<=v0/\v0<=9223372036854775807:=by omega
       obtain⟨U,hU⟩:∃U,U=upto (pS.later d) W.au i:=⟨_,rfl⟩;have hS:U.length=W.au.length:=by rw[hU,cy]
       have gA:∀z:i<U.length,U[i]=W.au[i]:=λz=>by simp only[hU];exact qL n Y
       rw[<-hU]at p Y E;have e7:=HO b4 Y (by decide:7<8) (v:=ι v7) (x':={W.au[i]with hour:=v7}) (by rw[gA Y];rfl) μ
       have b5:i<(U.set i {W.au[i]with hour:=v7}).length:=by rw[abK];exact Y
       have e0:=HO b4 b5 (by decide:0<8) (v:=ι v0) (x':=W.au[i].later d) (by rw[List.getElem_set_self,b8,fa];rfl) μ
       rw[List.set_set]at e0;have bB:U.set i (W.au[i].later d)=upto (pS.later d) W.au (i+1):=by rw[hU];exact qM n
       rw[bB]at e0;have Q:=C.YM u (C':=upto (pS.later d) W.au (i+1)) (by rw[cy,cy]) O
       have M:=TP b4 (l:=upto (pS.later d) W.au (i+1)) (K:=i) (j:=7) (by rw[cy];exact n) (by decide) μ
       have gB:∀z:i<(upto (pS.later d) W.au (i+1)).length,(upto (pS.later d) W.au (i+1))[i]=W.au[i].later d:=λz=>by simp only[<-bB];exact List.getElem_set_self _
       rw[gB]at M;have T:=Dj b4 (l:=U) μ;have c5:=Dj b4 (l:=U.set i {W.au[i]with hour:=v7}) μ
       obtain⟨R,hR⟩:∃R,R=flatten (U.map cT)++μ:=⟨_,rfl⟩;obtain⟨R1,gC⟩:∃R1,R1=flatten ((U.set i {W.au[i]with hour:=v7}).map cT)++μ:=⟨_,rfl⟩
       obtain⟨R2,gD⟩:∃R2,R2=flatten ((upto (pS.later d) W.au (i+1)).map cT)++μ:=⟨_,rfl⟩;rw[<-hR]at p T e7;rw[<-gC]at c5 e7 e0;rw[<-gD]at e0 Q M;have M:R2[i*8+7]?=some (ι v7):=by rw[M,b8];rfl
       rw[abK]at c5;have f7:i*8+7+1<=R.length:=by omega
       have f0:i*8+1<=R1.length:=by omega
       have b3:¬72<v7->∀e∈W.au.take (i+1),e.hour+d<=72:=λz e he=>by
        rw[xC n]at he
        rcases KD.1 he with he|he
        . exact ax e he
        rw[lb.1 he,<-b8];omega
       have b0:∀X,(Z.set b X) xb=some (.cells (rE W aE aW (.fN b 0 (U.map cT).length cap))):=λX=>(ab.ah _ _ (wK qx)).trans (by rw[hU];exact G)
       have fi:=G;rw[<-hU]at fi;apply rn;have gG:List.take (i*8) R1++ι v0::List.drop (i*8+1) R1=R2:=e0;simp[f,o,D,fI,fi,n,E,p,f7,f0,aG,<-b8,<-fa,fc.1,fc.2,fg.1,fg.2,b0,e7,gG];refine⟨?_,?_⟩
       all_goals
        apply rn
        by_cases g3:72<v7
        . simp[o,fI,b0,n,E,M,g3]
          refine cf Tryz.func14 rfl (zB hs ?_);apply rn;simp;exact .done (h _)
        simp[o,fI,b0,n,E,M,g3];exact⟨by clear key;omega,ih _ n ⟨_,_,rfl,⟨by simp[g],by simp[f],by simp[o],by simp[D],by simp⟩,Q,b3 g3⟩⟩
     have V:i=W.au.length:=by omega
     rw[V,uB]at C;rw[V,aaF]at ax;refine aa.runN lay [] 11 ?_;simp[o,fI,G,n,E];refine aa.dX J (by rw[S];exact⟨by simp[g],by simp[f],by simp[o],by simp[D],ax,C⟩) ?_
     exact key
    case p6=>
     rw[S];clear S J C g f o D fI env
     rintro env Z ⟨g,f,o,D,dm,C⟩
     have hL:pz W d:=⟨bx,ay,λx hx=>by grind,dm⟩
     have b9:=wy H b2 hL;have fl:=BP H b2 hL;have hT:(W.later d).au.length=W.au.length:=zH ..;have dr:∀c:Nat,c<W.au.length->eQ (W.later d) c=sh d (eQ W c)/\Az (eQ W c):=λc q=>zV bx H dm q
     have dx:∀t:Int,t+d<=72->jh (W.later d) (t+d)=jh W t:=λt q=>HN H b2 hL q
     refine C.thaw λeE eW eC a7 fp q9 wE wW wC cc=>?_
     have c6:aU c nums 601 (a7.del xb):=by obtain⟨n0,z0,n,g2⟩:=fp;exact⟨n0,z0,n,by rw[show (a7.del xb) c=a7 c by simp[ab.del,wK C.ne]];exact g2⟩
     refine aa.bE 8 (b:=xb) (.agg (rE W eE eW eC)) q9 (by simp[o]) (by simp) ?_
     have cv:(AV.cp (.agg (rE W eE eW eC)) 0).W (.cp (c8 (W.later d)) 0):=by
      have k1:(AV.agg (rE W eE eW eC)).cells=rE W eE eW eC:=by simp
      have k2:(c8 (W.later d)).cells=rE W (jb (W.fair.aA.map (dF d))) (qB (W.ways.map (Way.later d))) (fV (W.au.map (pS.later d))):=rfl;exact Sn (by simp_all) (by rw[k1,k2];exact HG wE wW wC)
     refine aa.IC 8 (a':=.cp (c8 (W.later d)) 0) (by simp_all) ?_
     refine aa.dX (λenv σ'=>env 3=.ref c 0/\env 4=.cp (c8 W) 0/\env 8=.cp (c8 (W.later d)) 0/\env 9=ι d/\aU c nums 601 σ') ⟨by simp[g],by simp[f],by simp,by simp[D],c6⟩ ?_
     clear c6 cv fp q9 wE wW wC cc C hL dm ay g f o D env;generalize W.later d=X at *
     rintro env h8 ⟨g,f,o,D,hb⟩
     have hO:=H.open;have gH:=b9.open;apply rn;simp;refine aa.loop W.au.length (λc' s=>∃env σ',s=⟨env,σ',[],.no⟩/\(env 3=.ref c 0/\env 4=.cp (c8 W) 0/\env 8=.cp (c8 X) 0/\env 9=ι d/\env 13=ι c')/\aU c nums 601 σ') ⟨_,_,rfl,⟨by simp[g],by simp[f],by simp[o],by simp[D],by simp⟩,hb⟩ ?_
     clear g f o D hb env
     rintro c0 i _ hi ⟨env,h9,rfl,⟨g,f,o,D,a8⟩,hb⟩ ih
     apply rn;simp[f,a8];refine aI.intro (λn=>?_) (λn=>?_)<;>(try simp[-Int.not_lt,-Int.not_le,-Nat.not_lt,-Nat.not_le]at n)<;>(try simp[f,a8,n])
     . have oc:fK W [] [] [(i:Int)]=0:=uz b2 (by simp) (by simp) (by simp;omega)
       have ox:fK X [] [] [(i:Int)]=0:=uz fl (by simp) (by simp) (by simp;omega)
       have dy:i<3:=by omega
       obtain⟨ft,c7⟩:=dr i n;obtain⟨A,hA⟩:∃A,A=eQ W i:=⟨_,rfl⟩;obtain⟨B,hB⟩:∃B,B=eQ X i:=⟨_,rfl⟩;rw[<-hA]at c7;rw[<-hA,<-hB]at ft;unfold Az at c7;unfold sh at ft;refine cf Tryz.func15 rfl (nu hs H.mQ dy oc ?_);rw[<-hA]
       by_cases hl:72<A
       . have bc:72<B:=by omega
         rw[zR hl];apply rn;simp[o,a8];refine cf Tryz.func15 rfl (nu hs b9.mQ dy ox ?_);rw[<-hB,zR bc];apply rn;simp[a8];refine⟨by omega,ih _ n ⟨_,_,rfl,⟨by simp[g],by simp[f],by simp[o],by simp[D],by simp⟩,hb⟩⟩
       have gI:B=A+d:=by omega
       have fA:-9223372036854775808<=A+d/\A+d<=9223372036854775807:=by omega
       rw[zA hl];apply rn;simp[o,a8];refine cf Tryz.func15 rfl (nu hs b9.mQ dy ox ?_);rw[<-hB,gI]
       by_cases bc:72<A+d
       . have n1:¬A+d<=72:=by omega
         rw[zR bc];apply rn;simp[D,a8,fA.1,fA.2,n1];refine⟨by omega,ih _ n ⟨_,_,rfl,⟨by simp[g],by simp[f],by simp[o],by simp[D],by simp⟩,hb⟩⟩
       rw[zA bc];apply rn;simp[D,a8,fA.1,fA.2];refine⟨by omega,ih _ n ⟨_,_,rfl,⟨by simp[g],by simp[f],by simp[o],by simp[D],by simp⟩,hb⟩⟩
     refine aa.loop 4 (λk' s=>∃env σ',s=⟨env,σ',[],.no⟩/\(env 3=.ref c 0/\env 4=.cp (c8 W) 0/\env 8=.cp (c8 X) 0/\env 9=ι d/\env 18=ι k')/\aU c nums (601+k') σ') ⟨_,_,rfl,⟨by simp[g],by simp[f],by simp[o],by simp[D],by simp⟩,hb⟩ ?_
     clear g f o D a8 hb env
     rintro c1 k _ hV ⟨env,hh,rfl,⟨g,f,o,D,sz⟩,hb⟩ gP
     apply rn;simp[sz];refine aI.intro (λg2=>?_) (λg2=>?_)<;>(try simp[-Int.not_lt,-Int.not_le,-Nat.not_lt,-Nat.not_le]at g2)<;>(try simp[g,D,g2])
     . have gR:-9223372036854775808<=72-d/\72-d<=9223372036854775807:=by omega
       refine⟨gR,?_⟩;refine cf Tryz.func16 rfl (fD (by omega) hn (by omega) hb λt hj ht fu=>?_)
       have gU:0<=t/\t+d<=72:=by omega
       have o1:fK W [t] [] []=0:=uz b2 (by simp;omega) (by simp) (by simp)
       have o2:fK X [t+d] [] []=0:=uz fl (by simp;omega) (by simp) (by simp)
       have fT:-9223372036854775808<=t+d/\t+d<=9223372036854775807:=by omega
       have h7:=vr W t;have ho:=H.nK;apply rn;simp[f];refine cf Tryz.func17 rfl (zu hs H.mQ hO (λq=>absurd o1 q) λ_=>?_)
       apply rn;simp[o,D,fT.1,fT.2];refine cf Tryz.func17 rfl (zu hs b9.mQ gH (λq=>absurd o2 q) λ_=>?_)
       rw[dx t gU.2];obtain⟨L,hL⟩:∃L,L=jh W t:=⟨_,rfl⟩;rw[<-hL]at h7 ⊢;apply rn;simp;refine cf Tryz.func18 rfl (qA (by omega) (by omega) ?_)
       apply rn;simp[sz];refine⟨by omega,gP _ (by omega) ⟨_,_,rfl,⟨by simp[g],by simp[f],by simp[o],by simp[D],by simp⟩,fu.1⟩⟩
     refine cf Tryz.func14 rfl (zB hs ?_);apply rn;simp;exact .done (h _)
end CL

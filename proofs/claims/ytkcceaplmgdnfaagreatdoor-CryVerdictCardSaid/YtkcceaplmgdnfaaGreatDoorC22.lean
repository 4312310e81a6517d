import Derived.Test.YtkcceaplmgdnfaaGreatDoorC21
set_option linter.all false
set_option maxHeartbeats 2000000
set_option maxRecDepth 4000
namespace Go.Proofs.YtkcceaplmgdnfaaGreatDoor
open Go.Proofs.Tryz (prog)
section
open Go.cG Go.Conc
variable{m:Mo}{σ:aa}{KF:adl}
structure ON(dW:Int)(e:m5):Prop where
 hour:0<=e.hour/\e.hour<=72
 place:0<=e.place/\e.place<dW
 cX:0<=e.cX/\e.cX<=1
 marks:e.marks.Sublist [0,1,2]
 br:0<=e.br/\e.br<=30
 jQ:0<=e.jQ/\e.jQ<=2
theorem ON.check{dW:Int}{e:m5}(h:ON dW e):cL dW e=0:=by
 obtain⟨b,c,d,a,f,g⟩:=h;have a:=(lJ a).1;unfold cL bt
 grind
structure G8(cnt:Int)(f:Fr)(ks:adG):Prop where
 n8:f.Good
 len:(f.aD.length:Int)<=cnt
 dW:f.roads.length<=3
 row:∀r∈f.roads,r.length<=3
 marks:∀e∈f.aD,e.marks.length<=3
 aR:f.aR<=3
 seen:∃(aR:Nat) (C H:adG) (last:adR),Seen f aR C H ks f.aD last/\(aR:Int)=f.aR
theorem Bl{k:Nat}:∀(es:adL) (i:Nat) (x:AV),i<es.length->(∀e∈es,e.cells.length=k)->x.cells.length=k->(flatten es).take (i*k)++x.cells++(flatten es).drop (i*k+k)=flatten (es.set i x)
 | e::es,0,x,_,a,b=>by
   have c:=a e (by simp);rw[List.set_cons_zero,flatten_cons,flatten_cons]
   grind
 | e::es,i+1,x,g,a,b=>by
   have c:=a e (by simp);have d:=Bl es i x (by simp_all) (λy f=>a y (by simp[f])) b;rw[List.set_cons_succ,flatten_cons,flatten_cons,<-d,acp,Nat.one_mul,acE,List.drop_append];rw[abt (by omega),List.drop_eq_nil_of_le (by omega),c,show i*k+k-k=i*k by omega,show i*k+k+k-k=i*k+k by omega];simp
theorem OP{f:Fr}{n:m5}{h:Int}(g:f.aU<=f.eZ)(i:0<=n.jQ/\n.jQ<=2)(hb:(n.jQ≠1/\n.br=h)\/(n.jQ≠0/\∃y,f.aU<=y/\y<=f.eZ/\n.br=h+y)):h∈bU f n:=by
 have a:n.jQ≠1->n.br∈bU f n:=λc=>by
  unfold bU
  grind
 have b:∀x,x∈jj f n->x∈bU f n:=λx j=>by
  unfold bU
  grind
 rcases hb with⟨c,rfl⟩|⟨d,y,k,l,e⟩
 . exact a c
 . refine b _ ?_
   unfold jj;rw[aaB d];exact aaL.2 ⟨(f.eZ-y).toNat,aax.2 (by omega),by omega⟩
theorem uo{σ0 σ c σ':aa}{a:AV}{kk:Nat}{es:adL}(h:Tok σ0 σ a kk es)(d:c.Le σ')(hb:∀b,bp a=some b->σ' b=σ b/\c b=none):Tok c σ' a kk es:=by
 refine⟨d,?_⟩;rcases h.2 with q|q|⟨b,e,g,f,i⟩
 . exact .inl q
 . simp_all
 . obtain⟨j,k⟩:=hb b (by rw[f];rfl)
   grind
theorem Im{σ0 σ σ2:aa}{a:AV}{kk:Nat}{es:adL}{c:Nat}(h:cJ σ0 σ a kk es)(i:σ0 c=none)(f:eU a≠some c)(d:∀y,y≠c->σ2 y=σ y):cJ σ0 σ2 a kk es:=h.keep (λy x g=>by rw[d y (λe=>by simp_all)];exact h.1 y x g) λb hb=>⟨d b (λe=>f (e ▸ hb)),(h.lS hb).1⟩
theorem QF{σ0 σ σ':aa}{a c j:AV}{kk k m:Nat}{es n o:adL}(h:Tok σ0 σ a kk es)(f:cJ σ0 σ c k n)(g:cJ (σ.BF c) σ' j m o):Tok σ0 σ' a kk es:=
 uo h (aa.le_trans f.here.2 g.1) λb hb=>by
  obtain⟨p,e,i⟩:=h.aY hb;have d:eU c≠some b:=λq=>by obtain⟨_,l,r⟩:=f.lS q;simp_all
  exact⟨by rw[i];exact g.1 b _ (by rw[aa.qS d];exact i),p⟩
theorem QG{σ0 σ σ':aa}{a c j:AV}{kk k m:Nat}{es n o:adL}(h:cJ σ0 σ a kk es)(f:Tok σ0 σ c k n)(g:Tok (σ.off c) σ' j m o):cJ σ0 σ' a kk es:=
 h.keep (aa.le_trans f.here.2 g.1) λb hb=>by
  obtain⟨p,l,i⟩:=h.lS hb;have d:bp c≠some b:=λq=>by obtain⟨_,e,r⟩:=f.aY q;simp_all
  exact⟨by rw[i];exact g.1 b _ (by rw[aa.dQ d];exact i),p⟩
theorem lu{env:Env}{t u:Nat}{v:AV}(h:u≠t):(env.upd t v) u=env u:=by simp_all
theorem TN{env:Env}{t:Nat}{v:AV}:(env.upd t v) t=v:=by simp_all
structure Io(V:Nat->AV)(zX:Env)(σ6:aa)(c c13 K:Nat)(nums:adG)(T:Int)(X:Int->adL)(done:adH)(env:Env)(σ:aa):Prop where
 base:∀s,s<97->env s=zX s
 dL:∀i,i∈done->i≠33->i≠34->i<36->env (97+i)=V i
 pre:33∉done->σ=σ6
 post:33∈done->36∉done->bj c nums K σ/\∀y,y≠c->σ y=σ6 y
 pick:33∈done->∃p:Int,(0<=p/\p<=3)/\env 130=int p/\(34∈done->env 131=int (T+p))
 all:36∈done->∀j,j<36->j∈done
 dep:34∈done->33∈done
 fin:36∈done->∃p:Int,(0<=p/\p<=3)/\bj c nums K σ/\σ c13=some (.cells (X (T+p)))/\∀y,y≠c->y≠c13->σ y=σ6 y
section
variable{V:Nat->AV}{zX env:Env}{σ6:aa}{c c13 K:Nat}{nums:adG}{T:Int}{X:Int->adL}{done:adH}
theorem Io.QH(h:Io V zX σ6 c c13 K nums T X done env σ){i:Nat}(hi:i<36)(b:i∉done):36∉done:=λa=>b (h.all a i hi)
theorem Io.keep(h:Io V zX σ6 c c13 K nums T X done env σ){i:Nat}(hi:i<36)(a:i∉done){y:Nat}(b:y≠c):σ y=σ6 y:=by
 by_cases q:33∈done
 . exact(h.post q (h.QH hi a)).2 y b
 . rw[h.pre q]
theorem Io.next(h:Io V zX σ6 c c13 K nums T X done env σ){i:Nat}(hi:i<36)(m:i∉done)(w:i≠33)(x:i≠34){a:AV}(y:a=V i):Io V zX σ6 c c13 K nums T X (i::done) (env.upd (97+i) a) σ:=by
 have b:33∈i::done↔33∈done:=by grind
 have f:34∈i::done↔34∈done:=by grind
 have k:=h.QH hi m;have d:36∉i::done:=by grind
 refine⟨λs n=>?_,λj o r t u=>?_,λq=>h.pre λl=>q (b.2 l),λq _=>h.post (b.1 q) k,λq=>?_,λq=>absurd q d,λq=>b.2 (h.dep (f.1 q)),λq=>absurd q d⟩
 . rw[lu (by omega)];exact h.base s n
 . by_cases e:j=i
   . simp_all
   . rw[lu (by omega)]
     exact h.dL j ((aaQ.1 o).resolve_left e) r t u
 . obtain⟨p,v,l,z⟩:=h.pick (b.1 q)
   exact⟨p,v,by rw[lu (by omega)];exact l,λg=>by rw[lu (by omega)];simp_all⟩
theorem Io.SM(h:Io V zX σ6 c c13 K nums T X done env σ)(l:33∉done)(b:34∉done){p:Int}(m:0<=p/\p<=3){σ':aa}(hb:bj c nums K σ')(d:∀y,y≠c->σ' y=σ6 y):Io V zX σ6 c c13 K nums T X (33::done) (env.upd 130 (int p)) σ':=by
 have e:=h.QH (i:=33) (by omega) l;have a:36∉33::done:=by simp[e]
 have f:34∉33::done:=by simp[b]
 refine⟨λs d=>?_,λj n k o r=>?_,λq=>absurd (by simp) q,λ_ _=>⟨hb,d⟩,λq=>⟨p,m,by simp_all,λg=>absurd g f⟩,λq=>absurd q a,λ_=>by simp,λq=>absurd q a⟩
 . rw[lu (by omega)];exact h.base s d
 . rw[lu (by omega)]
   exact h.dL j ((aaQ.1 n).resolve_left k) k o r
theorem Io.summed(h:Io V zX σ6 c c13 K nums T X done env σ)(f:34∉done)(a:33∈done){p:Int}(k:0<=p/\p<=3)(r:env 130=int p):Io V zX σ6 c c13 K nums T X (34::done) (env.upd 131 (int (T+p))) σ:=by
 have b:=h.QH (i:=34) (by omega) f;have d:36∉34::done:=by simp[b]
 refine⟨λs l=>?_,λj m n e o=>?_,λq=>absurd (by simp[a]) q,λ_ _=>h.post a b,λq=>⟨p,k,by simp_all,λg=>by simp_all⟩,λq=>absurd q d,λ_=>by simp[a],λq=>absurd q d⟩
 . rw[lu (by omega)];exact h.base s l
 . rw[lu (by omega)]
   exact h.dL j ((aaQ.1 m).resolve_left e) n e o
end
theorem CI{σ0 σ σ':aa}{a c f:AV}{kk j k:Nat}{es l m:adL}(h:Tok σ0 σ a kk es)(n:Tok σ0 σ c j l)(hd:∀b,bp a=some b->bp c≠some b)(d:Tok (σ.off c) σ' f k m):Tok σ0 σ' a kk es/\∀b,bp a=some b->bp f≠some b:=by
 have key:∀b,bp a=some b->(σ.off c) b=σ b:=λb hb=>aa.dQ (hd b hb)
 refine⟨uo h (aa.le_trans n.here.2 d.1) λb hb=>?_,λb hb q=>?_⟩
 . obtain⟨g,e,i⟩:=h.aY hb
   exact⟨by rw[i];exact d.1 b _ (by simp_all),g⟩
 . obtain⟨g,e,i⟩:=h.aY hb
   obtain⟨o,_,_⟩:=d.aY q
   simp_all
section
variable{c k:Nat}{nums:adG}
theorem KC{cnt : Int}(hk:k+500<1000000)(hn:nums.length<1152921504606846976)(tf:1<=cnt/\cnt<=6)(hb:bj c nums k σ)(h:∀(f:Fr) (ks:adG) σ',G8 cnt f ks->pP c nums (k+500) σ σ'->KF (.val (.ck [cz f,ints ks])) σ'):aA prog m 40 [.ref c 0,int cnt] σ KF:=by
 obtain⟨n0,s0,_,oF⟩:=id hb;refine fs Xs Tryz.func40 rfl (by kernel_rfl) ?_
 simp[Tryz.f40];refine bK.intro λX h4=>?_
 have n4:c≠X:=λe=>by simp_all
 have hT:∀x,bj c nums k (σ.set X x):=λx=>⟨n0,s0,by assumption,by rw[aa.ai _ _ n4];exact oF⟩
 simp;refine cf Tryz.func83 rfl (GD (cnt:=0) (by omega) hn ⟨by omega,by omega⟩ (hT _) λf0 a0 hU Z eg oG=>?_)
 obtain rfl:=oG.1 (acd.1 (by have:=Z.len;omega))
 have bw:X≠c:=za n4;have oK:hU X=some (.cells fZ):=by rw[eg.2 X bw,aa.an]
 apply rn;simp;refine bK.intro λP h6=>?_
 have n6:P≠c:=λe=>by subst e;obtain⟨_,_,_,q⟩:=eg.1;simp_all
 have fi:P≠X:=λe=>by simp_all
 have oL:σ P=none:=by rw[eg.2 P n6,aa.ai _ _ fi]at h6;exact h6
 simp
 have gU:∀x,bj c nums (k+20) (hU.set P x):=λx=>by obtain⟨n,z,g1,g2⟩:=eg.1;exact⟨n,z,g1,by rw[aa.ai _ _ (za n6)];exact g2⟩
 refine cf Tryz.func19 rfl (eQ (by omega) hn ⟨by omega,by omega⟩ ⟨by omega,by omega⟩ (gU _) λaR dy vx fl=>?_)
 have t6:dy P=some (.cells [.lit (.slice none 0 0),rows f0.roads,int f0.aU,int f0.eZ,int f0.cP,int f0.aR]):=by rw[fl.2 P n6,aa.an]
 have t4:dy X=some (.cells fZ):=by rw[fl.2 X bw,aa.ai _ _ (za fi)];exact oK
 apply rn;simp[t6,aK];obtain⟨mo,rfl⟩:∃mo:Nat,aR=(mo:Int):=⟨aR.toNat,by omega⟩
 have vy:1<=mo/\mo<=3:=by omega
 have h1:=Z.dW;obtain⟨A6,ei⟩:∃A6:AV->adL,A6=λa=>[a,rows f0.roads,int f0.aU,int f0.eZ,int f0.cP,int mo]:=⟨_,rfl⟩
 have oM:∀a,(A6 a).length=6:=λa=>by grind
 have b3:σ.del c c=none:=by simp[aa.del]
 have hX:bj c nums (k+21) (dy.set P (.cells (A6 (.lit (.slice none 0 0))))):=by obtain⟨n,z,g1,g2⟩:=fl.1;exact⟨n,z,by omega,by rw[aa.ai _ _ (za n6)];exact g2⟩
 have ad:(σ.del c).Le (dy.set P (.cells (A6 (.lit (.slice none 0 0))))):=λy x hy=>by
  have Y:y≠c:=λe=>by simp_all
  have y0:σ y=some x:=by simpa[aa.del,Y]using hy
  have y6:y≠P:=λe=>by simp_all
  have y4:y≠X:=λe=>by simp_all
  rw[aa.ai _ _ y6,fl.2 y Y,aa.ai _ _ y6,eg.2 y Y,aa.ai _ _ y4];exact y0
 have oN:σ.del c P=none:=by simp[aa.del,oL]
 have wm:σ.del c X=none:=by simp[aa.del,h4]
 have hY:(dy.set P (.cells (A6 (.lit (.slice none 0 0))))) X=some (.cells fZ):=by rw[aa.ai _ _ (za fi)];exact t4
 refine af.loop mo (λi s=>∃env σ' la ha L H,s=⟨env,σ',[],.no⟩/\env 0=.ref c 0/\env 1=int cnt/\env 4=.ref X 0/\env 6=.ref P 0/\env 7=la/\env 8=ha/\env 9=int i/\bj c nums (k+21+12*i) σ'/\σ' X=some (.cells fZ)/\σ' P=some (.cells (A6 (.lit (.slice none 0 0))))/\cJ (σ.del c) σ' la 6 (L.map bs)/\Tok (σ.del c) σ' ha 1 (H.map int)/\eU la≠some c/\eU la≠some X/\eU la≠some P/\L.length=i/\H.length=i/\(∀e∈L,yF f0.roads.length e)/\(∀x∈H,13<=x/\x<=16))
  ⟨_,dy.set P (.cells (A6 (.lit (.slice none 0 0)))),.lit (.slice none 0 0),.lit (.slice none 0 0),[],[],by rw[ei],by simp,by simp,by simp,by simp,by simp,by simp,by simp,hX,hY,aa.an _ _ _,⟨ad,.inl ⟨rfl,.inl rfl⟩⟩,⟨ad,.inl ⟨rfl,rfl⟩⟩,by simp[eU],by simp[eU],by simp[eU],rfl,rfl,by simp⟩ ?_
 clear hX ad hY
 rintro c0 i _ hi ⟨env,σ',la,ha,L,H,rfl,D,e1,G,E,F,J,e9,fp,q4,q6,ej,ep,et,ft,fu,hZ,oS,h2,ic⟩ ih
 have b4:=ej.cells;have d:=ep.cells;have a7:σ' P=some (.cells [.lit (.slice none 0 0),rows f0.roads,int f0.aU,int f0.eZ,int f0.cP,int mo]):=by rw[q6,ei]
 rcases abe i mo with g1|g1
 . have ie:(i:Int)<mo:=by omega
   have f1:-9223372036854775808<=(i:Int)+1/\(i:Int)+1<=9223372036854775807:=by omega
   apply rn;simp[D,e1,G,E,F,J,e9,a7,b4.1,b4.2,d.1,d.2,g1];refine cf Tryz.func84 rfl (pj (by omega) hn ⟨by omega,by omega⟩ fp λe a8 he U=>?_)
   have ix:∃l,σ' c=some (.cells l):=by obtain⟨_,_,_,q⟩:=fp;exact⟨_,q⟩
   have ev:=Im ej b3 et U.2;have k0:=rl ep b3 ix U.2;have ey:a8 X=some (.cells fZ):=by rw[U.2 X bw];exact q4
   have ez:a8 P=some (.cells (A6 (.lit (.slice none 0 0)))):=by rw[U.2 P n6];exact q6
   apply rn;simp[D,e1,G,E,F,J,e9,a7,b4.1,b4.2,d.1,d.2];refine sV lay rfl rfl rfl nB rfl nB rfl zJ (by decide) (by simp;omega) (σ0:=a8.BF la) (es:=L.map bs) (xs:=[bs e]) (by simpa using ev.here.1) (.inl (.inr ⟨_,by simp;rfl⟩)) (by simp) λfv aL al=>?_
   have k4:∀y l,eU la≠some y->a8 y=some l->aL y=some l:=λy l hy hl=>al.1 _ _ (by rw[aa.qS hy];exact hl)
   have k2:=QF k0 ev al;have h3:=al.base ev.here.2
   have k3:bj c nums (k+21+12*i+11) aL:=by obtain⟨n,z,g1,g2⟩:=U.1;exact⟨n,z,g1,k4 _ _ et g2⟩
   have gp:eU fv≠some c:=λq=>by obtain⟨g,_⟩:=al.lS q;obtain⟨_,_,_,g2⟩:=U.1;rw[aa.qS et,g2]at g;cases g
   have k5:eU fv≠some X:=λq=>by obtain⟨g,_⟩:=al.lS q;rw[aa.qS ft,ey]at g;cases g
   have k7:eU fv≠some P:=λq=>by obtain⟨g,_⟩:=al.lS q;rw[aa.qS fu,ez]at g;cases g
   have aE:=al.cells;apply rn;simp[D,J,aE.1,aE.2];refine cf Tryz.func19 rfl (eQ (by omega) hn ⟨by omega,by omega⟩ ⟨by omega,by omega⟩ k3 λx ea p0 aO=>?_)
   have k8:∃l,aL c=some (.cells l):=by obtain⟨_,_,_,q⟩:=k3;exact⟨_,q⟩
   have c9:=rl k2 b3 k8 aO.2;have kt:=Im h3 b3 gp aO.2;apply rn;simp[D,J,aE.1,aE.2,d.1,d.2];refine aN lay rfl rfl rfl dD rfl dD rfl rD (by decide) (by simp;omega) (σ0:=ea.off ha) (es:=H.map int) (xs:=[int x]) (by simpa using c9.here.1) (.inr ⟨_,by simp;rfl⟩) λp5 σ6 ca=>?_
   have kv:=QG kt c9 ca;have h5:=ca.base c9.here.2;have gw:=ca.cells;have k6:∀y l,ea y=some (.cells l)->σ6 y=some (.cells l):=λy l hy=>ca.1 _ _ (by rw[aa.dQ (λe=>by obtain⟨_,_,q⟩:=c9.aY e;rw[hy]at q;cases q)];exact hy)
   have p6:σ6 X=some (.cells fZ):=k6 _ _ (by rw[aO.2 X bw];exact k4 _ _ ft ey)
   have p7:σ6 P=some (.cells (A6 (.lit (.slice none 0 0)))):=k6 _ _ (by rw[aO.2 P n6];exact k4 _ _ fu ez)
   have b1:bj c nums (k+21+12*(i+1)) σ6:=by obtain⟨n,z,g1,g2⟩:=aO.1;exact⟨n,z,by omega,k6 _ _ g2⟩
   apply rn;simp[D,e9,f1.1,f1.2,aE.1,aE.2,gw.1,gw.2];refine ih _ g1 ⟨_,σ6,fv,p5,L++[e],H++[x],rfl,by simp[D],by simp[e1],by simp[G],by simp[E],by simp,by simp,by simp,b1,p6,p7,by simpa using kv,by simpa using h5,gp,k5,k7,by simp[hZ],by simp[oS],λy hy=>?_,λy hy=>?_⟩
   . rcases aaC.1 hy with hy|hy
     . exact h2 y hy
     . simp at hy;subst hy;exact he
   . rcases aaC.1 hy with hy|hy
     . exact ic y hy
     . simp at hy;omega
 . have p8:i=mo:=by omega
   subst p8;clear ih
   obtain⟨Q,cap,rest,rfl,r1,r2,r3,r4,r5⟩:∃Q cap rest,la=.ib Q 0 i cap/\σ.del c Q=none/\i<=cap/\(∀e∈L.map bs,e.cells.length=6)/\σ' Q=some (.cells (flatten (L.map bs)++rest))/\rest.length=(cap-i)*6:=by
    have eA:(L.map bs).length=i:=by simp_all
    rcases ej.2 with⟨e,_⟩|⟨b,cap,rest,g1,g2,g3,g4,g5,g6⟩
    . grind
    . rw[eA]at g1 g3 g6
      grind
   have ax:Q≠c:=λe=>et (by rw[e];rfl)
   have pa:Q≠X:=λe=>ft (by rw[e];rfl)
   have h7:Q≠P:=λe=>fu (by rw[e];rfl)
   have tm:σ Q=none:=by simpa[aa.del,ax]using r1
   refine af.Jb 8 (a':=ints H) (by rw[J];simpa using ep.W) ?_
   have b5:=ep.1;clear ej ep b4 d et ft fu J;apply rn;simp[D,e1,G,E,F,e9,a7];refine cf Tryz.func19 rfl (eQ (by omega) hn ⟨by omega,by omega⟩ ⟨by omega,by omega⟩ fp λq a8 hq U=>?_)
   have ey:a8 X=some (.cells fZ):=by rw[U.2 X bw];exact q4
   have ez:a8 P=some (.cells (A6 (.lit (.slice none 0 0)))):=by rw[U.2 P n6];exact q6
   have kx:a8 Q=some (.cells (flatten (L.map bs)++rest)):=by rw[U.2 Q ax];exact r4
   have ad:(σ.del c).Le a8:=λy x hy=>by
    have Y:y≠c:=λe=>by simp_all
    rw[U.2 y Y];exact b5 y x hy
   obtain⟨qn,rfl⟩:∃qn:Nat,q=(qn:Int):=⟨q.toNat,by omega⟩
   have wK:1<=qn/\qn<=6:=by omega
   have gx:bj c nums (k+60) a8:=U.1.mono (by omega)
   obtain⟨C,hC⟩:∃C,C=L.map (·.cX):=⟨_,rfl⟩;obtain⟨f1,eB⟩:∃f1:Fr,f1=⟨[],f0.roads,f0.aU,f0.eZ,f0.cP,(i:Int)⟩:=⟨_,rfl⟩
   have cb:Seen f1 i C H [] [] L:=⟨rfl,by simp,by simp,λj hj=>by simp at hj,λj hj=>by simp at hj,λa b _ hb=>by simp at hb,λj hj=>by simp at hj,λj hj=>by simp_all,hZ⟩
   have gA:∀e∈L,ON f0.roads.length e:=λe he=>by have:=h2 e he;exact⟨⟨this.hour.1,by have:=this.hour;omega⟩,this.place,this.cX,this.marks,⟨by have:=this.br;omega,by have:=this.br;omega⟩,this.jQ⟩
   apply rn;simp[D,e1,G,E,F,e9,a7];have ky:=D;have l1:=G;have l2:=E;have l3:=F;clear D e1 G E F e9 a7 h2 r3
   refine af.loop qn (λj s=>∃env σ' a hh M es ks,s=⟨env,σ',[],.no⟩/\env 0=.ref c 0/\env 4=.ref X 0/\env 6=.ref P 0/\env 7=.ib Q 0 i cap/\env 8=ints H/\env 10=hh/\env 11=int ((qn:Int)-j)/\bj c nums (k+60+16*j) σ'/\σ' X=some (.cells fZ)/\σ' P=some (.cells (A6 a))/\σ' Q=some (.cells (flatten (M.map bs)++rest))/\Tok (σ.del c) σ' a 6 (es.map bs)/\Tok (σ.del c) σ' hh 1 (ks.map int)/\(∀b,bp a=some b->bp hh≠some b)/\Seen f1 i C H ks es M/\(∀e∈M,ON f0.roads.length e)/\(∀e∈es,e.marks.length<=3)/\es.length<=j)
    ⟨_,a8,.lit (.slice none 0 0),.lit (.slice none 0 0),L,[],[],rfl,by simp[ky],by simp[l1],by simp[l2],by simp[l3],by simp,by simp,by simp,gx,ey,ez,kx,⟨ad,.inl ⟨rfl,rfl⟩⟩,⟨ad,.inl ⟨rfl,rfl⟩⟩,λb hb=>by simp[bp]at hb,cb,gA,by simp⟩ ?_
   clear ky l1 l2 l3 gx ey ez kx ad b5 cb gA q4 q6 fp U r4
   rintro c1 j _ hj ⟨env,σ',a,hh,M,es,ks,rfl,D,G,E,F,J,cS,cQ,h8,q4,q6,ql,b8,eb,gB,O,fw,h9,wL⟩ ih
   have o:=b8.cells;have d:=eb.cells;have a7:σ' P=some (.cells [a,rows f0.roads,int f0.aU,int f0.eZ,int f0.cP,int i]):=by rw[q6,ei]
   rcases abe j qn with g1|g1
   . have ie : (0 : Int)<(qn:Int)-j:=by omega
     have FO:(j:Int)<qn:=by omega
     have f2:-9223372036854775808<=(i:Int)-1/\(i:Int)-1<=9223372036854775807:=by omega
     have f3:-9223372036854775808<=(qn:Int)-j-1/\(qn:Int)-j-1<=9223372036854775807:=by omega
     apply rn;simp[D,G,E,F,J,cS,cQ,o.1,o.2,d.1,d.2,ie,FO,g1,a7,f2.1,f2.2];refine cf Tryz.func18 rfl (fA (by omega) hn ⟨by omega,by omega⟩ h8 λkk a8 wN U=>?_)
     obtain⟨R,rfl⟩:∃R:Nat,kk=(R:Int):=⟨kk.toNat,by omega⟩
     have bA:R<i:=by omega
     have w6:a8 P=some (.cells [a,rows f0.roads,int f0.aU,int f0.eZ,int f0.cP,int i]):=by rw[U.2 P n6];exact a7
     apply rn;simp[D,G,E,F,J,cS,cQ,o.1,o.2,d.1,d.2,w6];refine cf Tryz.func84 rfl (pj (by omega) hn ⟨by omega,by omega⟩ U.1 λe aL he ho=>?_)
     have bB:∀y,y≠c->aL y=σ' y:=λy hy=>(ho.2 y hy).trans (U.2 y hy)
     have w6:aL P=some (.cells [a,rows f0.roads,int f0.aU,int f0.eZ,int f0.cP,int i]):=by rw[bB P n6];exact a7
     have wl:aL Q=some (.cells (flatten (M.map bs)++rest)):=by rw[bB Q ax];exact ql
     have w4:aL X=some (.cells fZ):=by rw[bB X bw];exact q4
     apply rn;simp[D,G,E,F,J,cS,cQ,o.1,o.2,d.1,d.2,w6];refine bK.intro λc13 l4=>?_
     have m0:c13≠c:=λe=>by subst e;obtain⟨_,_,_,q⟩:=ho.1;simp_all
     have m4:c13≠X:=λe=>by subst e;simp_all
     have m6:c13≠P:=λe=>by subst e;simp_all
     have ml:c13≠Q:=λe=>by subst e;simp_all
     have fx:R<M.length:=by rw[O.SB];exact bA
     obtain⟨el,eA⟩:∃el,el=M[R]:=⟨_,rfl⟩;have b9:=fw el (by rw[eA];exact zG fx)
     obtain⟨CL,eK⟩:∃CL,CL=flatten (M.map bs)++rest:=⟨_,rfl⟩;rw[<-eK]at wl;have hv:∀x∈M.map bs,x.cells.length=6:=λx hx=>by obtain⟨y,_,rfl⟩:=aaL.1 hx;rfl
     have gC:(flatten (M.map bs)).length=M.length*6:=by rw[bJ (kk:=6) hv,aaP]
     have cg:∀t,t<6->CL[R*6+t]?=(bs el).cells[t]?:=λt ht=>by
      rw[eK,abl (by omega)]
      exact mM (kk:=6) hv (by rw[aaY,zU fx,eA];rfl) t ht
     have l5:=cg 0 (by omega)
     have l6:=cg 1 (by omega)
     have l7:=cg 2 (by omega)
     have lj:=cg 3 (by omega)
     simp at l5 l6 l7 lj;simp[D,G,E,F,J,cS,cQ,o.1,o.2,d.1,d.2,wl,aa.ai,za ml,bA,l7,aK]
     have pb:∀x,bj c nums (k+60+16*j+12) (aL.set c13 x):=λx=>by obtain⟨n,z,g1,g2⟩:=ho.1;exact⟨n,z,by omega,by rw[aa.ai _ _ (za m0)];exact g2⟩
     refine cf Tryz.func18 rfl (fA (by omega) hn ⟨by omega,by omega⟩ (pb _) λsh ea p0 aO=>?_)
     have hz:ea c13=some (.cells [int e.hour,int e.place,int el.cX,ints e.marks,int e.br,int e.jQ]):=by rw[aO.2 c13 m0,aa.an]
     have ec:R<H.length:=by omega
     obtain⟨h0,ed⟩:∃h0,h0=H[R]:=⟨_,rfl⟩;have tr:13<=h0/\h0<=16:=ic _ (by rw[ed];exact zG ec)
     have hA:(H.map int)[R]?=some (int h0):=by rw[aaY,zU ec,ed];rfl
     have lp:sh=0\/sh=1\/sh=2:=by omega
     have gD:0<=sh/\sh<=2:=by omega
     have lA:f0.aU<=f0.eZ:=Z.to.1;have wS:0<=f0.aU/\f0.eZ<=2:=⟨Z.fr.1,Z.to.2⟩
     have hB:∀x,bj c nums (k+60+16*j+13) (ea.set c13 x):=λx=>by obtain⟨n,z,g1,g2⟩:=aO.1;exact⟨n,z,by omega,by rw[aa.ai _ _ (za m0)];exact g2⟩
     have hD:∀y,y≠c->y≠c13->ea y=σ' y:=λy Y y2=>by rw[aO.2 y Y,aa.ai _ _ y2,bB y Y]
     have ts:ks.length<1000000:=by rw[O.len];omega
     apply zd (I:=λenv σ6=>∃b,env 0=.ref c 0/\env 4=.ref X 0/\env 6=.ref P 0/\env 7=.ib Q 0 i cap/\env 8=ints H/\env 10=hh/\env 11=int ((qn:Int)-j)/\env 12=int R/\env 13=.ref c13 0/\env 80=bool b/\bj c nums (k+60+16*j+14) σ6/\σ6 c13=some (.cells [int e.hour,int e.place,int el.cX,ints e.marks,int h0,int sh])/\(∀y,y≠c->y≠c13->σ6 y=σ' y)/\(b=true->sh≠0)/\(b=false->sh≠1))
     . intro T
       rcases lp with rfl|rfl|rfl
       . refine af.runN lay [] 28 ?_
         simp[D,G,E,F,J,cS,cQ,o.1,o.2,d.1,d.2,hz,hA,ec,aK,<-ed]
         refine T _ _ ⟨false,by simp[D,G,E,F,J,cS,cQ,o.1,o.2,d.1,d.2],by simp[D,G,E,F,J,cS,cQ,o.1,o.2,d.1,d.2],by simp[D,G,E,F,J,cS,cQ,o.1,o.2,d.1,d.2],by simp[D,G,E,F,J,cS,cQ,o.1,o.2,d.1,d.2],by simp[D,G,E,F,J,cS,cQ,o.1,o.2,d.1,d.2],by simp[D,G,E,F,J,cS,cQ,o.1,o.2,d.1,d.2],by simp[D,G,E,F,J,cS,cQ,o.1,o.2,d.1,d.2],by simp[D,G,E,F,J,cS,cQ,o.1,o.2,d.1,d.2],by simp[D,G,E,F,J,cS,cQ,o.1,o.2,d.1,d.2],by simp[D,G,E,F,J,cS,cQ,o.1,o.2,d.1,d.2],(hB _).mono (by omega),aa.an _ _ _,λy Y y2=>by rw[aa.ai _ _ y2];exact hD y Y y2,by simp⟩
       . refine af.runN lay [] 28 ?_
         simp[D,G,E,F,J,cS,cQ,o.1,o.2,d.1,d.2,hz,hA,ec,aK,<-ed]
         refine T _ _ ⟨true,by simp[D,G,E,F,J,cS,cQ,o.1,o.2,d.1,d.2],by simp[D,G,E,F,J,cS,cQ,o.1,o.2,d.1,d.2],by simp[D,G,E,F,J,cS,cQ,o.1,o.2,d.1,d.2],by simp[D,G,E,F,J,cS,cQ,o.1,o.2,d.1,d.2],by simp[D,G,E,F,J,cS,cQ,o.1,o.2,d.1,d.2],by simp[D,G,E,F,J,cS,cQ,o.1,o.2,d.1,d.2],by simp[D,G,E,F,J,cS,cQ,o.1,o.2,d.1,d.2],by simp[D,G,E,F,J,cS,cQ,o.1,o.2,d.1,d.2],by simp[D,G,E,F,J,cS,cQ,o.1,o.2,d.1,d.2],by simp[D,G,E,F,J,cS,cQ,o.1,o.2,d.1,d.2],(hB _).mono (by omega),aa.an _ _ _,λy Y y2=>by rw[aa.ai _ _ y2];exact hD y Y y2,by simp⟩
       . refine af.runN lay [] 28 ?_
         simp[D,G,E,F,J,cS,cQ,o.1,o.2,d.1,d.2,hz,hA,ec,aK,<-ed];refine cf Tryz.func20 rfl (wW (by omega) hn ⟨by omega,by omega⟩ (hB _) λb σ6 hE=>?_)
         refine af.runN lay [] 3 ?_;simp[D,G,E,F,J,cS,cQ,o.1,o.2,d.1,d.2]
         refine T _ _ ⟨b,by simp[D,G,E,F,J,cS,cQ,o.1,o.2,d.1,d.2],by simp[D,G,E,F,J,cS,cQ,o.1,o.2,d.1,d.2],by simp[D,G,E,F,J,cS,cQ,o.1,o.2,d.1,d.2],by simp[D,G,E,F,J,cS,cQ,o.1,o.2,d.1,d.2],by simp[D,G,E,F,J,cS,cQ,o.1,o.2,d.1,d.2],by simp[D,G,E,F,J,cS,cQ,o.1,o.2,d.1,d.2],by simp[D,G,E,F,J,cS,cQ,o.1,o.2,d.1,d.2],by simp[D,G,E,F,J,cS,cQ,o.1,o.2,d.1,d.2],by simp[D,G,E,F,J,cS,cQ,o.1,o.2,d.1,d.2],by simp[D,G,E,F,J,cS,cQ,o.1,o.2,d.1,d.2],hE.1,by rw[hE.2 c13 m0,aa.an],λy Y y2=>by rw[hE.2 y Y,aa.ai _ _ y2];exact hD y Y y2,by simp⟩
     clear D G E F J cS cQ
     rintro env σ6 ⟨b,D,G,E,F,J,cS,cQ,eL,K,fO,b1,a9,ay,lB,m1⟩
     apply zd (I:=λenv σ6=>∃ht,env 0=.ref c 0/\env 4=.ref X 0/\env 6=.ref P 0/\env 7=.ib Q 0 i cap/\env 8=ints H/\env 10=hh/\env 11=int ((qn:Int)-j)/\env 12=int R/\env 13=.ref c13 0/\env 95=int (mJ ks R)/\bj c nums (k+60+16*j+15) σ6/\σ6 c13=some (.cells [int e.hour,int e.place,int el.cX,ints e.marks,int ht,int sh])/\(∀y,y≠c->y≠c13->σ6 y=σ' y)/\((sh≠1/\ht=h0)\/(sh≠0/\∃y,f0.aU<=y/\y<=f0.eZ/\ht=h0+y)))
     . intro T
       have hW:Wl [hh,int R] [ints ks,int R]:=.cons (by simpa using eb.W) (.cons (.refl _) .nil)
       cases b
       . apply rn
         simp[D,G,E,F,J,cS,cQ,eL,K,fO];refine bP Tryz.func24 rfl rfl hW (qw (by omega) ?_)
         refine T _ _ ⟨h0,?_,?_,?_,?_,?_,?_,?_,?_,?_,?_,b1.mono (by omega),a9,ay,.inl ⟨m1 rfl,rfl⟩⟩<;>simp[D,G,E,F,J,cS,cQ,eL,K,fO]
       . have v6 : σ6 P=some (.cells [a,rows f0.roads,int f0.aU,int f0.eZ,int f0.cP,int i]):=by rw[ay P n6 (za m6)];exact a7
         have x0:=Z.fr;have ej:=Z.to;apply rn;simp[D,G,E,F,J,cS,cQ,eL,K,fO,a9,v6,aK]
         repeat' (first
                   |apply And.intro
                   | (refine cf Tryz.func19 rfl (eQ (by omega) hn ⟨by omega,by omega⟩ ⟨by omega,by omega⟩ b1 λy S hy hF=>?_)
                      have pd:S c13=some (.cells [int e.hour,int e.place,int el.cX,ints e.marks,int h0,int sh]):=by rw[hF.2 c13 m0];exact a9
                      have f4:-9223372036854775808<=h0+y/\h0+y<=9223372036854775807:=by omega
                      apply pg;simp[D,G,E,F,J,cS,cQ,eL,K,pd,f4.1,f4.2,aK];apply rn;simp[D,G,E,F,J,cS,cQ,eL,K];refine bP Tryz.func24 rfl rfl hW (qw (by omega) ?_)
                      refine T _ _ ⟨h0+y,by simp[D],by simp[G],by simp[E],by simp[F],by simp[J],by simp[cS],by simp[cQ],by simp[eL],by simp[K],by simp,?_,aa.an _ _ _,λz Y y2=>by rw[aa.ai _ _ y2,hF.2 z Y];exact ay z Y y2,.inr ⟨lB rfl,y,by omega,by omega,rfl⟩⟩
                      obtain⟨n,z,g1,g2⟩:=hF.1;exact⟨n,z,by omega,by rw[aa.ai _ _ (za m0)];exact g2⟩))
     clear b1 a9 ay D G E F J cS cQ eL K fO lB m1
     rintro env σ6 ⟨ht,D,G,E,F,J,cS,cQ,eL,K,ab,b1,a9,ay,m2⟩
     have hG:0<=ht/\ht<=30:=by rcases m2 with⟨_,q⟩|⟨_,y,q1,q2,q3⟩<;>omega
     have aC:=Fr.n8 (Z.fits (by omega)) (Z.check (by omega))
     have x3:∀x∈M,x.marks.length<=3:=λx hx=>(lJ (fw x hx).marks).2
     have pk:=(lJ he.marks).2;have v3:=(lJ b9.marks).2;have m3:=he.place;have md:=b9.place;have v5:=b9.hour;have mf:=Z.cP;apply zd (I:=λenv S=>∃hr,env 0=.ref c 0/\env 4=.ref X 0/\env 6=.ref P 0/\env 7=.ib Q 0 i cap/\env 8=ints H/\env 10=hh/\env 11=int ((qn:Int)-j)/\env 12=int R/\env 13=.ref c13 0/\bj c nums (k+60+16*j+16) S/\S c13=some (.cells [int hr,int e.place,int el.cX,ints e.marks,int ht,int sh])/\(∀y,y≠c->y≠c13->S y=σ' y)/\(0<=hr/\hr<=1000)/\((R:Int)∈ks->N4 f1 el {e with hour:=hr}))
     . intro T
       by_cases hH:(R:Int)∈ks
       . have q2:mJ ks R>=0:=(kD ks R).2 hH
         obtain⟨rw,cm⟩:∃rw,rw=f0.roads[el.place.toNat]'(by omega):=⟨_,rfl⟩
         have gG:=aC.row (i:=el.place.toNat) (by omega)
         rw[<-cm]at gG;have cr:e.place.toNat<rw.length:=by omega
         obtain⟨r,gd⟩:∃r,r=rw[e.place.toNat]:=⟨_,rfl⟩;have x4:=gG.2 r (by rw[gd];exact zG cr)
         have b2:el.place.toNat<f0.roads.length:=by omega
         have ps:(f0.roads.map ints)[el.place.toNat]?=some (ints rw):=by rw[aaY,zU b2,cm];rfl
         have hr:(rw.map int)[e.place.toNat]?=some (int r):=by rw[aaY,zU cr,gd];rfl
         have mg:=cr;obtain⟨ch,hK⟩:∃ch,ch=V6 el.marks e.marks:=⟨_,rfl⟩
         have eN:0<=ch/\ch<=6:=by have q1:=ou el.marks e.marks;have q2:=ou e.marks el.marks;rw[hK];unfold V6;omega
         have x5:0<=f0.cP*ch/\f0.cP*ch<=24:=⟨Int.mul_nonneg (by omega) eN.1,Int.le_trans (Int.mul_le_mul mf.2 eN.2 eN.1 (by omega)) (by omega)⟩
         have mi:-9223372036854775808<=el.hour+r/\el.hour+r<=9223372036854775807:=by omega
         have mj:-9223372036854775808<=f0.cP*ch/\f0.cP*ch<=9223372036854775807:=by omega
         have mm:-9223372036854775808<=el.hour+r+f0.cP*ch/\el.hour+r+f0.cP*ch<=9223372036854775807:=by omega
         have hL:σ6 Q=some (.cells CL):=by rw[ay Q ax (za ml),<-bB Q ax];exact wl
         have gH:σ6 P=some (.cells [a,rows f0.roads,int f0.aU,int f0.eZ,int f0.cP,int i]):=by rw[ay P n6 (za m6)];exact a7
         refine af.runN lay [] 3 ?_;simp[D,G,E,F,J,cS,cQ,eL,K,ab,q2]
         obtain⟨V,hV⟩:∃V:Nat->AV,V=λj=>([.ib Q 0 i cap,int R,.ref Q (R*6),.ref Q (R*6),int el.hour,.ref P 1,rows f0.roads,.ib Q 0 i cap,int R,.ref Q (R*6),.ref Q (R*6+1),int el.place,.cp (ints rw) 0,ints rw,.ref c13 1,int e.place,.cp (int r) 0,int r,int (el.hour+r),.ref P 4,int f0.cP,.ib Q 0 i cap,int R,.ref Q (R*6),.ref Q (R*6+3),ints el.marks,.ref c13 3,ints e.marks,int ch,int (f0.cP*ch),int (el.hour+r+f0.cP*ch),.ref c 0,.sl 1 (([0,0,1,3]:adG).map int) .exact,int 0,int 0,.ref c13 0]:adL).getD j (int 0):=⟨_,rfl⟩
         have w:∀j,V j=_:=λj=>congrFun hV j
         refine af.P7 (Io V (env.upd 96 (bool true)) σ6 c c13 (k+60+16*j+16) nums (el.hour+r+f0.cP*ch) (λz=>[int z,int e.place,int el.cX,ints e.marks,int ht,int sh])) lay.mixed (by rfl) ⟨λ_ _=>rfl,by simp,λ_=>rfl,by simp,by simp,by simp,by simp,by simp⟩ ?_ ?_
         . intro done i u S N B mw A
           have mw:i<37:=mw
           rcases(show i=0\/i=1\/i=2\/i=3\/i=4\/i=5\/i=6\/i=7\/i=8\/i=9\/i=10\/i=11\/i=12\/i=13\/i=14\/i=15\/i=16\/i=17\/i=18\/i=19\/i=20\/i=21\/i=22\/i=23\/i=24\/i=25\/i=26\/i=27\/i=28\/i=29\/i=30\/i=31\/i=32\/i=33\/i=34\/i=35\/i=36 by omega)with rfl|rfl|rfl|rfl|rfl|rfl|rfl|rfl|rfl|rfl|rfl|rfl|rfl|rfl|rfl|rfl|rfl|rfl|rfl|rfl|rfl|rfl|rfl|rfl|rfl|rfl|rfl|rfl|rfl|rfl|rfl|rfl|rfl|rfl|rfl|rfl|rfl
           . have b7:u 7=.ib Q 0 i cap:=(A.base 7 (by omega)).trans F
             refine bh lay (mu:=[]) ?_;simp[b7];exact A.next (i:=0) (by omega) B (by omega) (by omega) ((w 0).symm)
           . have eR:u 12=int R:=(A.base 12 (by omega)).trans eL
             refine bh lay (mu:=[]) ?_;simp[eR];exact A.next (i:=1) (by omega) B (by omega) (by omega) ((w 1).symm)
           . have d0:u 97=.ib Q 0 i cap:=(A.dL 0 (N 0 (by rfl)) (by omega) (by omega) (by omega)).trans (w 0)
             have d1:u 98=int R:=(A.dL 1 (N 1 (by rfl)) (by omega) (by omega) (by omega)).trans (w 1)
             refine bh lay (mu:=[]) ?_;simp[d0,d1,bA];exact A.next (i:=2) (by omega) B (by omega) (by omega) ((w 2).symm)
           . have d2:u 99=.ref Q (R*6):=(A.dL 2 (N 2 (by rfl)) (by omega) (by omega) (by omega)).trans (w 2)
             refine bh lay (mu:=[]) ?_;simp[d2];exact A.next (i:=3) (by omega) B (by omega) (by omega) ((w 3).symm)
           . have d3:u 100=.ref Q (R*6):=(A.dL 3 (N 3 (by rfl)) (by omega) (by omega) (by omega)).trans (w 3)
             have kl:=A.keep (by omega) B (y:=Q) ax;rw[hL]at kl
             refine bh lay (mu:=[]) ?_;simp[kl,l5,d3];exact A.next (i:=4) (by omega) B (by omega) (by omega) ((w 4).symm)
           . have b6:u 6=.ref P 0:=(A.base 6 (by omega)).trans E
             refine bh lay (mu:=[]) ?_;simp[b6];exact A.next (i:=5) (by omega) B (by omega) (by omega) ((w 5).symm)
           . have d5:u 102=.ref P 1:=(A.dL 5 (N 5 (by rfl)) (by omega) (by omega) (by omega)).trans (w 5)
             have k6:=A.keep (by omega) B (y:=P) n6;rw[gH]at k6
             refine bh lay (mu:=[]) ?_;simp[k6,d5];exact A.next (i:=6) (by omega) B (by omega) (by omega) ((w 6).symm)
           . have b7:u 7=.ib Q 0 i cap:=(A.base 7 (by omega)).trans F
             refine bh lay (mu:=[]) ?_;simp[b7];exact A.next (i:=7) (by omega) B (by omega) (by omega) ((w 7).symm)
           . have eR:u 12=int R:=(A.base 12 (by omega)).trans eL
             refine bh lay (mu:=[]) ?_;simp[eR];exact A.next (i:=8) (by omega) B (by omega) (by omega) ((w 8).symm)
           . have d7:u 104=.ib Q 0 i cap:=(A.dL 7 (N 7 (by rfl)) (by omega) (by omega) (by omega)).trans (w 7)
             have d8:u 105=int R:=(A.dL 8 (N 8 (by rfl)) (by omega) (by omega) (by omega)).trans (w 8)
             refine bh lay (mu:=[]) ?_;simp[d7,d8,bA];exact A.next (i:=9) (by omega) B (by omega) (by omega) ((w 9).symm)
           . have d9:u 106=.ref Q (R*6):=(A.dL 9 (N 9 (by rfl)) (by omega) (by omega) (by omega)).trans (w 9)
             refine bh lay (mu:=[]) ?_;simp[d9];exact A.next (i:=10) (by omega) B (by omega) (by omega) ((w 10).symm)
           . have pA:u 107=.ref Q (R*6+1):=(A.dL 10 (N 10 (by rfl)) (by omega) (by omega) (by omega)).trans (w 10)
             have kl:=A.keep (by omega) B (y:=Q) ax;rw[hL]at kl
             refine bh lay (mu:=[]) ?_;simp[kl,l6,pA];exact A.next (i:=11) (by omega) B (by omega) (by omega) ((w 11).symm)
           . have d6:u 103=rows f0.roads:=(A.dL 6 (N 6 (by rfl)) (by omega) (by omega) (by omega)).trans (w 6)
             have pB:u 108=int el.place:=(A.dL 11 (N 11 (by rfl)) (by omega) (by omega) (by omega)).trans (w 11)
             refine bh lay (mu:=[]) ?_;simp[d6,pB,ps,b2];refine⟨md.1,?_⟩;rw[<-cm];exact A.next (i:=12) (by omega) B (by omega) (by omega) ((w 12).symm)
           . have pO:u 109=.cp (ints rw) 0:=(A.dL 12 (N 12 (by rfl)) (by omega) (by omega) (by omega)).trans (w 12)
             refine bh lay (mu:=[]) ?_;simp[pO];exact A.next (i:=13) (by omega) B (by omega) (by omega) ((w 13).symm)
           . have eW:u 13=.ref c13 0:=(A.base 13 (by omega)).trans K
             refine bh lay (mu:=[]) ?_;simp[eW];exact A.next (i:=14) (by omega) B (by omega) (by omega) ((w 14).symm)
           . have q0:u 111=.ref c13 1:=(A.dL 14 (N 14 (by rfl)) (by omega) (by omega) (by omega)).trans (w 14)
             have c5:=A.keep (by omega) B (y:=c13) m0;rw[a9]at c5
             refine bh lay (mu:=[]) ?_;simp[c5,q0];exact A.next (i:=15) (by omega) B (by omega) (by omega) ((w 15).symm)
           . have q5:u 110=ints rw:=(A.dL 13 (N 13 (by rfl)) (by omega) (by omega) (by omega)).trans (w 13)
             have q7:u 112=int e.place:=(A.dL 15 (N 15 (by rfl)) (by omega) (by omega) (by omega)).trans (w 15)
             refine bh lay (mu:=[]) ?_;simp[q5,q7,hr,mg];refine⟨m3.1,?_⟩;rw[<-gd];exact A.next (i:=16) (by omega) B (by omega) (by omega) ((w 16).symm)
           . have q9:u 113=.cp (int r) 0:=(A.dL 16 (N 16 (by rfl)) (by omega) (by omega) (by omega)).trans (w 16)
             refine bh lay (mu:=[]) ?_;simp[q9];exact A.next (i:=17) (by omega) B (by omega) (by omega) ((w 17).symm)
           . have d4:u 101=int el.hour:=(A.dL 4 (N 4 (by rfl)) (by omega) (by omega) (by omega)).trans (w 4)
             have qb:u 114=int r:=(A.dL 17 (N 17 (by rfl)) (by omega) (by omega) (by omega)).trans (w 17)
             refine bh lay (mu:=[]) ?_;simp[d4,qb,mi.1,mi.2];exact A.next (i:=18) (by omega) B (by omega) (by omega) ((w 18).symm)
           . have b6:u 6=.ref P 0:=(A.base 6 (by omega)).trans E
             refine bh lay (mu:=[]) ?_;simp[b6];exact A.next (i:=19) (by omega) B (by omega) (by omega) ((w 19).symm)
           . have qi:u 116=.ref P 4:=(A.dL 19 (N 19 (by rfl)) (by omega) (by omega) (by omega)).trans (w 19)
             have k6:=A.keep (by omega) B (y:=P) n6;rw[gH]at k6
             refine bh lay (mu:=[]) ?_;simp[k6,qi];exact A.next (i:=20) (by omega) B (by omega) (by omega) ((w 20).symm)
           . have b7:u 7=.ib Q 0 i cap:=(A.base 7 (by omega)).trans F
             refine bh lay (mu:=[]) ?_;simp[b7];exact A.next (i:=21) (by omega) B (by omega) (by omega) ((w 21).symm)
           . have eR:u 12=int R:=(A.base 12 (by omega)).trans eL
             refine bh lay (mu:=[]) ?_;simp[eR];exact A.next (i:=22) (by omega) B (by omega) (by omega) ((w 22).symm)
           . have qj:u 118=.ib Q 0 i cap:=(A.dL 21 (N 21 (by rfl)) (by omega) (by omega) (by omega)).trans (w 21)
             have qq:u 119=int R:=(A.dL 22 (N 22 (by rfl)) (by omega) (by omega) (by omega)).trans (w 22)
             refine bh lay (mu:=[]) ?_;simp[qj,qq,bA];exact A.next (i:=23) (by omega) B (by omega) (by omega) ((w 23).symm)
           . have qs:u 120=.ref Q (R*6):=(A.dL 23 (N 23 (by rfl)) (by omega) (by omega) (by omega)).trans (w 23)
             refine bh lay (mu:=[]) ?_;simp[qs];exact A.next (i:=24) (by omega) B (by omega) (by omega) ((w 24).symm)
           . have r9:u 121=.ref Q (R*6+3):=(A.dL 24 (N 24 (by rfl)) (by omega) (by omega) (by omega)).trans (w 24)
             have kl:=A.keep (by omega) B (y:=Q) ax;rw[hL]at kl
             refine bh lay (mu:=[]) ?_;simp[kl,lj,r9];exact A.next (i:=25) (by omega) B (by omega) (by omega) ((w 25).symm)
           . have eW:u 13=.ref c13 0:=(A.base 13 (by omega)).trans K
             refine bh lay (mu:=[]) ?_;simp[eW];exact A.next (i:=26) (by omega) B (by omega) (by omega) ((w 26).symm)
           . have ra:u 123=.ref c13 3:=(A.dL 26 (N 26 (by rfl)) (by omega) (by omega) (by omega)).trans (w 26)
             have c5:=A.keep (by omega) B (y:=c13) m0;rw[a9]at c5
             refine bh lay (mu:=[]) ?_;simp[c5,ra];exact A.next (i:=27) (by omega) B (by omega) (by omega) ((w 27).symm)
           . have rb:u 122=ints el.marks:=(A.dL 25 (N 25 (by rfl)) (by omega) (by omega) (by omega)).trans (w 25)
             have rh:u 124=ints e.marks:=(A.dL 27 (N 27 (by rfl)) (by omega) (by omega) (by omega)).trans (w 27)
             refine bh lay (mu:=[]) ?_;simp[rb,rh];refine cf Tryz.func85 rfl (G6 (by omega) (by omega) ?_)
             apply pg;simp;exact A.next (i:=28) (by omega) B (by omega) (by omega) (by rw[w,hK];rfl)
           . have ri:u 117=int f0.cP:=(A.dL 20 (N 20 (by rfl)) (by omega) (by omega) (by omega)).trans (w 20)
             have rj:u 125=int ch:=(A.dL 28 (N 28 (by rfl)) (by omega) (by omega) (by omega)).trans (w 28)
             refine bh lay (mu:=[]) ?_;simp[ri,rj,mj.1,mj.2];exact A.next (i:=29) (by omega) B (by omega) (by omega) ((w 29).symm)
           . have rm:u 115=int (el.hour+r):=(A.dL 18 (N 18 (by rfl)) (by omega) (by omega) (by omega)).trans (w 18)
             have rr:u 126=int (f0.cP*ch):=(A.dL 29 (N 29 (by rfl)) (by omega) (by omega) (by omega)).trans (w 29)
             refine bh lay (mu:=[]) ?_;simp[rm,rr,mm.1,mm.2];exact A.next (i:=30) (by omega) B (by omega) (by omega) ((w 30).symm)
           . have b0:u 0=.ref c 0:=(A.base 0 (by omega)).trans D
             refine bh lay (mu:=[]) ?_;simp[b0];exact A.next (i:=31) (by omega) B (by omega) (by omega) ((w 31).symm)
           . refine bh lay (mu:=[]) ?_
             simp;exact A.next (i:=32) (by omega) B (by omega) (by omega) ((w 32).symm)
           . have rF:u 128=.ref c 0:=(A.dL 31 (N 31 (by rfl)) (by omega) (by omega) (by omega)).trans (w 31)
             have rG:u 129=.sl 1 (([0,0,1,3]:adG).map int) .exact:=(A.dL 32 (N 32 (by rfl)) (by omega) (by omega) (by omega)).trans (w 32)
             refine bh lay (mu:=[]) ?_;simp[rF,rG];have rM:=A.pre B;subst rM;have rT:34∉done:=λq=>B (A.dep q)
             refine cf Tryz.func54 rfl (m7 (l:=[0,0,1,3]) (by omega) hn ⟨by decide,by decide⟩ b1 λp x6 hp mx=>?_)
             apply pg;simp;exact A.SM B rT (p:=p) (by simp at hp;omega) (mx.1.mono (by omega)) mx.2
           . have s3:u 127=int (el.hour+r+f0.cP*ch):=(A.dL 30 (N 30 (by rfl)) (by omega) (by omega) (by omega)).trans (w 30)
             have c7:=N 33 (by rfl)
             obtain⟨p,hp,FG,_⟩:=A.pick c7;have mA:-9223372036854775808<=el.hour+r+f0.cP*ch+p/\el.hour+r+f0.cP*ch+p<=9223372036854775807:=by omega
             refine bh lay (mu:=[]) ?_;simp[s3,FG,mA.1,mA.2];exact A.summed B c7 hp FG
           . have eW:u 13=.ref c13 0:=(A.base 13 (by omega)).trans K
             refine bh lay (mu:=[]) ?_;simp[eW];exact A.next (i:=35) (by omega) B (by omega) (by omega) ((w 35).symm)
           . have s4:u 132=.ref c13 0:=(A.dL 35 (N 35 (by rfl)) (by omega) (by omega) (by omega)).trans (w 35)
             have c7:=N 33 (by rfl)
             have s5:=N 34 (by rfl)
             obtain⟨p,hp,FG,FH⟩:=A.pick c7;have FH:=FH s5;obtain⟨s6,h1⟩:=A.post c7 B;have c5:=(h1 c13 m0).trans a9;refine bh lay (mu:=[]) ?_;simp[s4,FH,c5,aK]
             refine⟨A.base,λj hj g3 g4 g5=>A.dL j ((aaQ.1 hj).resolve_left (by omega)) g3 g4 g5,λq=>absurd (abD _ c7) q,λ_ q=>absurd (acy ..) q,λ_=>⟨p,hp,FG,λ_=>FH⟩,λ_ j hj=>abD _ (N j ((by decide:∀j:Fin 36,jx _ j.val 36=true) ⟨j,hj⟩)),λ_=>abD _ c7,λ_=>⟨p,hp,?_,aa.an _ _ _,λy Y y2=>by rw[aa.ai _ _ y2];exact h1 y Y⟩⟩
             obtain⟨n,z,g1,g2⟩:=s6;exact⟨n,z,g1,by rw[aa.ai _ _ (za m0)];exact g2⟩
         . intro done v9 S mB A
           obtain⟨p,hp,g1,g2,g3⟩:=A.fin (mB 36 (by decide))
           have hb:=λ(t:Nat) (ht:t<96)=>(A.base t (by omega)).trans (lu (env:=env) (v:=bool true) (show t≠96 by omega))
           refine T _ _ ⟨el.hour+r+f0.cP*ch+p,(hb 0 (by omega)).trans D,(hb 4 (by omega)).trans G,(hb 6 (by omega)).trans E,(hb 7 (by omega)).trans F,(hb 8 (by omega)).trans J,(hb 10 (by omega)).trans cS,(hb 11 (by omega)).trans cQ,(hb 12 (by omega)).trans eL,(hb 13 (by omega)).trans K,g1,g2,λy Y y2=>(g3 y Y y2).trans (ay y Y y2),by omega,λ_=>?_⟩
           have s7:rd f1.roads el.place.toNat e.place.toNat=r:=by rw[eB];unfold rd;rw[zA,zA,zU b2,abn,<-cm,zU cr,<-gd];rfl
           have s9:f1.cP=f0.cP:=by rw[eB]
           unfold N4;rw[s7,s9,<-Fc b9.marks he.marks,<-hK];show r+f0.cP*ch<=el.hour+r+f0.cP*ch+p-el.hour;omega
       . have q2:¬mJ ks R>=0:=λq=>hH ((kD ks R).1 q)
         refine af.runN lay [] 4 ?_;simp[D,G,E,F,J,cS,cQ,eL,K,ab,q2];refine T _ _ ⟨e.hour,by simp[D,G,E,F,J,cS,cQ,eL,K,ab],by simp[D,G,E,F,J,cS,cQ,eL,K,ab],by simp[D,G,E,F,J,cS,cQ,eL,K,ab],by simp[D,G,E,F,J,cS,cQ,eL,K,ab],by simp[D,G,E,F,J,cS,cQ,eL,K,ab],by simp[D,G,E,F,J,cS,cQ,eL,K,ab],by simp[D,G,E,F,J,cS,cQ,eL,K,ab],by simp[D,G,E,F,J,cS,cQ,eL,K,ab],by simp[D,G,E,F,J,cS,cQ,eL,K,ab],b1.mono (by omega),a9,ay,by have:=he.hour;omega,λq=>absurd q hH⟩
     clear b1 a9 ay D G E F J cS cQ eL K ab
     rintro env S ⟨hr,D,G,E,F,J,cS,cQ,eL,K,n2,a9,ee,sg,n3⟩
     have si:σ.del c c13=none:=by
      cases hx:σ.del c c13 with
      |none=>rfl
      |some x=>have:=b8.1 _ _ hx;rw[<-bB c13 m0,l4]at this;cases this
     have b5:(σ.del c).Le S:=λy x hy=>by
      have Y:y≠c:=λe=>by subst e;rw[b3]at hy;cases hy
      have y2:y≠c13:=λe=>by subst e;rw[si]at hy;cases hy
      rw[ee y Y y2];exact b8.1 y x hy
     have hO:∀b x,σ' b=some x->(∀l,x≠.cells l)->S b=σ' b:=λb x hb hx=>by
      refine ee b (λe=>?_) λe=>?_
      . rw[e]at hb;obtain⟨_,_,_,q⟩:=h8;rw[q]at hb;cases hb;exact hx _ rfl
      . rw[e,<-bB c13 m0,l4]at hb;cases hb
     have cv:Tok (σ.del c) S a 6 (es.map bs):=uo b8 b5 λb hb=>by obtain⟨g1,l,g2⟩:=b8.aY hb;exact⟨hO b _ g2 (by simp),g1⟩
     have dj:Tok (σ.del c) S hh 1 (ks.map int):=uo eb b5 λb hb=>by obtain⟨g1,l,g2⟩:=eb.aY hb;exact⟨hO b _ g2 (by simp),g1⟩
     have t4:S X=some (.cells fZ):=by rw[ee X bw (za m4)];exact q4
     have t6:S P=some (.cells (A6 a)):=by rw[ee P n6 (za m6)];exact q6
     have tl:S Q=some (.cells (flatten (M.map bs)++rest)):=by rw[ee Q ax (za ml)];exact ql
     clear b8 eb q4 q6 ql a7 ee hO
     rcases Int.lt_or_le 72 hr with n5|n5
     . apply rn
       simp[D,G,E,F,J,cS,cQ,eL,K,a9,n5,f3.1,f3.2];refine ih _ g1 ⟨_,S,a,hh,M,es,ks,rfl,by simp[D,G,E,F,J,cS,cQ,eL,K],by simp[D,G,E,F,J,cS,cQ,eL,K],by simp[D,G,E,F,J,cS,cQ,eL,K],by simp[D,G,E,F,J,cS,cQ,eL,K],by simp[D,G,E,F,J,cS,cQ,eL,K],by simp[D,G,E,F,J,cS,cQ,eL,K],by simp;omega,n2.mono (by omega),t4,t6,tl,cv,dj,gB,O,fw,h9,by omega⟩
     . have n7:¬hr>72:=by omega
       obtain⟨n1,n9⟩:∃n1:m5,n1=⟨hr,e.place,el.cX,e.marks,ht,sh⟩:=⟨_,rfl⟩;obtain⟨bm,gI⟩:∃bm,bm=flatten ((M.set R n1).map bs)++rest:=⟨_,rfl⟩;have nc:R*6+6<=CL.length:=by rw[eK,aaF,gC];omega
       have nh:aK CL (R*6) [int hr,int e.place,int el.cX,ints e.marks,int ht,int sh]=bm:=by
        have:=Bl (k:=6) (M.map bs) R (bs n1) (by rw[aaP];exact fx) hv rfl
        rw[gI,acv,<-this,eK];unfold aK;rw[List.take_append_of_le_length (by omega),List.drop_append_of_le_length (by rw[gC];simp;omega),n9]
        simp
       rw[<-eK]at tl;have b4:=cv.cells;have vc:=dj.cells;have nq:S P=some (.cells [a,rows f0.roads,int f0.aU,int f0.eZ,int f0.cP,int i]):=by rw[t6,ei]
       have x7:=za ml;apply rn;simp[D,G,E,F,J,cS,cQ,eL,K,a9,n7,tl,bA,nh,nc,aa.ai,h7.symm,ml,nq,b4.1,b4.2];subst n9;have sj:bp a≠some Q:=λe=>by obtain⟨_,_,q⟩:=cv.aY e;rw[tl]at q;cases q
       have nt:bp hh≠some Q:=λe=>by obtain⟨_,_,q⟩:=dj.aY e;rw[tl]at q;cases q
       have dm:Tok (σ.del c) (S.set Q (.cells bm)) a 6 (es.map bs):=cv.beside r1 sj;have ob:Tok (σ.del c) (S.set Q (.cells bm)) hh 1 (ks.map int):=dj.beside r1 nt;have vj:(es.map bs).length<=6:=by rw[aaP];omega
       have vk:(ks.map int).length<=6:=by rw[aaP,O.len];omega
       refine aN lay rfl rfl rfl nB rfl nB rfl zJ (by decide) (by simp;omega) (σ0:=(S.set Q (.cells bm)).off a) (es:=es.map bs) (xs:=[bs ⟨hr,e.place,el.cX,e.marks,ht,sh⟩]) (by simpa using dm.here.1) (.inr ⟨_,by simp;rfl⟩) λa' hP hR=>?_
       obtain⟨dr,so⟩:=CI ob dm (λb hb q=>gB b q hb) hR
       have gP:=hR.base dm.here.2;have k9:∀y l,(S.set Q (.cells bm)) y=some (.cells l)->hP y=some (.cells l):=λy l hy=>hR.1 _ _ (by rw[aa.dQ (λe=>by obtain⟨_,_,q⟩:=dm.aY e;rw[hy]at q;cases q)];exact hy)
       have dx:=gP.cells;apply rn;simp[D,G,E,F,J,cS,cQ,eL,K,dx.1,dx.2];refine aN lay rfl rfl rfl dD rfl dD rfl rD (by decide) (by simp;omega) (σ0:=hP.off hh) (es:=ks.map int) (xs:=[int R]) (by simpa using dr.here.1) (.inr ⟨_,by simp;rfl⟩) λsr av eX=>?_
       obtain⟨hS,oc⟩:=CI gP dr (λb hb q=>so b q hb) eX
       have fc:=eX.base dr.here.2;have fg:=fc.cells;have gf:∀y l,hP y=some (.cells l)->av y=some (.cells l):=λy l hy=>eX.1 _ _ (by rw[aa.dQ (λe=>by obtain⟨_,_,q⟩:=dr.aY e;rw[hy]at q;cases q)];exact hy)
       have z6:av P=some (.cells [a,rows f0.roads,int f0.aU,int f0.eZ,int f0.cP,int i]):=gf _ _ (k9 _ _ (by rw[aa.ai _ _ (za h7)];exact nq))
       have z4:av X=some (.cells fZ):=gf _ _ (k9 _ _ (by rw[aa.ai _ _ (za pa)];exact t4))
       have zl:av Q=some (.cells bm):=gf _ _ (k9 _ _ (aa.an _ _ _));apply rn;simp[D,G,E,F,J,cS,cQ,eL,K,z6,aK,dx.1,dx.2,fg.1,fg.2,f3.1,f3.2];have oj:ON f0.roads.length ⟨hr,e.place,el.cX,e.marks,ht,sh⟩:=⟨⟨sg.1,by omega⟩,he.place,b9.cX,he.marks,hG,gD⟩
       have ow:M.getD R sD=el:=by rw[zA,zU fx,eA];rfl
       have ox:H.getD R 0=h0:=by rw[zA,zU ec,ed];rfl
       have gj:=O.push (k:=R) (n:=⟨hr,e.place,el.cX,e.marks,ht,sh⟩) bA (by rw[eB];exact oj.check) (by rw[ow]) (by rw[ox,eB];refine OP lA gD ?_;exact m2) (λq=>by rw[ow];exact n3 q)
       have gR:∀{x:AV}{kk:Nat}{l:adL},Tok (σ.del c) av x kk l->Tok (σ.del c) (av.set P (.cells (A6 a'))) x kk l:=λ{x kk l} hx=>hx.beside oN (λe=>by obtain⟨_,_,q⟩:=hx.aY e;rw[z6]at q;cases q)
       refine ih _ g1 ⟨_,av.set P (.cells (A6 a')),a',sr,M.set R ⟨hr,e.place,el.cX,e.marks,ht,sh⟩,es++[⟨hr,e.place,el.cX,e.marks,ht,sh⟩],ks++[(R:Int)],by rw[ei],by simp[D,G,E,F,J,cS,cQ,eL,K],by simp[D,G,E,F,J,cS,cQ,eL,K],by simp[D,G,E,F,J,cS,cQ,eL,K],by simp[D,G,E,F,J,cS,cQ,eL,K],by simp[D,G,E,F,J,cS,cQ,eL,K],by simp[D,G,E,F,J,cS,cQ,eL,K],by simp;omega,?_,?_,aa.an _ _ _,?_,by have:=gR hS;simpa using this,by have:=gR fc;simpa using this,λb hb=>oc b hb,gj,λx hx=>?_,λx hx=>?_,by simp;omega⟩
       . obtain⟨n,z,g1,g2⟩:=n2
         exact⟨n,z,by omega,by rw[aa.ai _ _ (za n6)];exact gf _ _ (k9 _ _ (by rw[aa.ai _ _ (za ax)];exact g2))⟩
       . rw[aa.ai _ _ (za fi)];exact z4
       . rw[aa.ai _ _ h7,zl,gI]
       . rcases abT hx with hx|rfl
         . exact fw x hx
         . exact oj
       . rcases aaC.1 hx with hx|hx
         . exact h9 x hx
         . simp at hx;subst hx;exact pk
   . have sy:j=qn:=by omega
     subst sy;have tc:¬(j:Int)<j:=by omega
     apply rn;simp[D,G,E,F,J,cS,cQ,o.1,o.2,d.1,d.2,tc,q4,a7,aK];obtain⟨nb,zb,hT,gU⟩:=h8;obtain⟨f,hf⟩:∃f:Fr,f=⟨es,f0.roads,f0.aU,f0.eZ,f0.cP,(i:Int)⟩:=⟨_,rfl⟩;have aC:=Fr.n8 (Z.fits (by omega)) (Z.check (by omega))
     have td:G8 cnt f ks:=by
      have gl:=Z.dW;subst eB;subst hf;refine⟨⟨⟨by grind,aC.fits.roads,aC.fits.row,λe he=>by grind⟩,aC.fr,aC.to,aC.le,aC.cP,by grind,by grind,λe he=>O.sJ e he,aC.KJ⟩,by grind,by grind,λr hr=>?_,h9,by grind,i,C,H,M,⟨O.len,O.SA,O.sJ,O.cX,O.TK,O.fit,O.Xz,O.H6,O.SB⟩,rfl⟩
      obtain⟨t,ht,rfl⟩:=aaV.1 hr;exact aaG (Nat.le_of_eq (aC.row (i:=t) ht).1) gl.2
     refine .pM (a':=.ck [cz f,ints ks]) (NU rfl λi x y x1 x2=>?_) (.less (σ':=σ.set c (.cells [ints nums,int nb,.lit (.int .u64 zb)])) (λy x hy=>?_) (.done (h f ks _ td ⟨⟨nb,zb,by omega,aa.an _ _ _⟩,λy hy=>aa.ai _ _ hy⟩)))
     . match i with
       | 0=>
         simp at x1 x2;subst x1;subst x2;refine qy (by grind) λi x y x1 x2=>?_
         subst hf
         match i with
         |0=>simp at x1 x2;subst x1;subst x2;exact b8.W
         |1=>simp at x1 x2;subst x1;subst x2;exact .refl _
         |2=>simp at x1 x2;subst x1;subst x2;exact .refl _
         |3=>simp at x1 x2;subst x1;subst x2;exact .refl _
         |4=>simp at x1 x2;subst x1;subst x2;exact .refl _
         |5=>simp at x1 x2;subst x1;subst x2;exact .refl _
         |i+6=>simp at x1
       |1=>simp at x1 x2;subst x1;subst x2;exact eb.W
       |i+2=>simp at x1
     . by_cases Y:y=c
       . subst Y
         rw[aa.an]at hy;rw[aa.ai _ _ n4,gU];exact hy
       . rw[aa.ai _ _ Y]at hy
         have y4:y≠X:=λe=>by grind
         rw[aa.ai _ _ y4];exact b8.1 y x (by simpa[aa.del,Y]using hy)
end
end
section
open Go.cG Go.Conc
theorem sI{α:Type}{g:α->Int}:∀{l:List α},(∀x∈l,g x=0)->fT g l=0
 |[],_=>rfl
 |a::l,h=>by rw[fT,aaB (h a (by simp))];exact sI λx q=>h x (by simp[q])
structure OQ(cnt:Int)(w:bY)(own lost:adG):Prop where
 valid:w.Valid
 C7:nD w=0
 len:(w.fair.aD.length:Int)+w.aF.length<=cnt
 lo:own.length=w.fair.aD.length
 ll:lost.length=w.aF.length
 ZG:∀e∈w.fair.aD,e.marks.length<=3
 ZH:∀c∈w.aF,c.lost.marks.length<=3
 rows:w.fair.roads.length<=3/\∀r∈w.fair.roads,r.length<=3
 ZI:∃v∈aI (jl w) [],∀i j:Nat,i<w.fair.aD.length+w.aF.length->j<w.fair.aD.length+w.aF.length->gM i j v=decide ((own++lost).getD i 0=(own++lost).getD j 0)
theorem QI{cnt:Int}{f:Fr}{p:adG}(t:G8 cnt f p)(M:cnt<=6){w:bY}{E C:adG}(z:∀i∈E++C,0<=i/\i<f.aD.length)(hn:(E.length:Int)+C.length<=cnt)
 (V:w.fair.aD=E.map (aS f)) (N:w.aF.map (·.lost)=C.map (aS f)) (y:w.fair.roads=f.roads) (m:w.fair.aU=f.aU) (n:w.fair.eZ=f.eZ) (hd:w.fair.cP=f.cP) (W:f.aR<=w.fair.aR/\w.fair.aR<=6)
 (O:1<=w.bc/\w.bc<=4) (X:∀x∈w.ways,qF w.bc x=0) (Y:w.ways.length<=6) (Z:w.aF.length<=3) (F:∀c∈w.aF,(0<=c.town/\c.town<w.bc)/\(0<=c.hour/\c.hour<=72)/\c.lost.hour<=c.hour):
 OQ cnt w (E.map λi=>p.getD i.toNat 0) (C.map λi=>p.getD i.toNat 0):=by
 have d:=t.n8;have l1:w.fair.aD.length=E.length:=by simp_all
 have l2:w.aF.length=C.length:=by rw[<-List.length_map (f:=(·.lost)),N,aaP]
 have A:∀e∈w.fair.aD,e∈f.aD:=λe q=>by rw[V]at q;obtain⟨i,G,rfl⟩:=aaL.1 q;exact ga (z i (by simp[G]))
 have I:∀c∈w.aF,c.lost∈f.aD:=λc q=>by have:c.lost∈w.aF.map (·.lost):=aaL.2 ⟨c,q,rfl⟩;rw[N]at this;obtain⟨i,G,e⟩:=aaL.1 this;rw[<-e];exact ga (z i (by simp[G]))
 have gen:∀es:adR,(∀e∈es,e∈f.aD)->es.length<=6->({w.fair with aD:=es}:Fr).Good:=λes q ql=>by
  have J:=d.aR;refine⟨⟨by grind,by show w.fair.roads.length<_;rw[y];exact d.fits.roads,by show ∀r∈w.fair.roads,_;rw[y];exact d.fits.row,λe D=>d.fits.marks e (q e D)⟩,by rw[m];exact d.fr,by rw[n];exact d.to,by rw[m,n];exact d.le,by rw[hd];exact d.cP,?_,ql,λe D=>?_,by show fX w.fair.roads=0;rw[y];exact d.KJ⟩
  . grind
  . show cL w.fair.roads.length e=0
    rw[y];exact d.sJ e (q e D)
 have P:w.fair.Good:=gen w.fair.aD A (by omega)
 have Q:∀c∈w.aF,(lone w.fair c.lost).Good:=λc q=>gen [c.lost] (λe D=>by simp_all) (by simp)
 have R:w.qG:=⟨P.fits,P.C7,λc q=>⟨(Q c q).fits,(Q c q).C7⟩,by omega,by omega⟩
 have h6:w.fair.aD.length+w.aF.length<=6:=by omega
 have S:=mC R h6
 have B:pv f (jl w) (E++C):=⟨y,m,n,hd,W.1,z,by simp_all⟩
 obtain⟨mo,Cs,H,last,g,J⟩:=t.seen;obtain⟨v,s,h,hv⟩:=g.way d (by omega)
 obtain⟨u,T,o⟩:=B.way d S hv;have K:aI (jl w) []≠[]:=abZ T
 have U:nD w=0:=by
  unfold nD;have a1:bt w.bc 1 4=true:=by simp[bt,O.1,O.2]
  have a2:fT (zQ w) w.aF=0:=sI λc q=>by
   have:=F c q;have e1:bt c.town 0 (w.bc-1)=true:=by simp only[bt,zj,KD];omega
   have e2:bt c.hour 0 72=true:=by simp only[bt,zj,KD];omega
   unfold zQ
   simp_all
  have a3:=(AT S).2 K;rw[a1,sI X,a2,aay (by simp),aay (by omega),aay (by simp),aay (by omega),aay (by simp),aay (by omega),aay (by omega)]
 have a7:p.length=f.aD.length:=g.len;refine⟨bY.valid R U,U,by omega,by simp_all,by simp_all,λe q=>t.marks e (A e q),λc q=>t.marks _ (I c q),by rw[y];exact⟨t.dW,t.row⟩,u,T,λi j L hj=>?_⟩
 have hl:(E++C).length=w.fair.aD.length+w.aF.length:=by simp_all
 rw[o i j (by omega) (by omega),<-List.map_append]
 have k:∀i:Nat,i<(E++C).length->((E++C).map λi=>p.getD i.toNat 0).getD i 0=p.getD ((E++C).getD i 0).toNat 0:=λi L=>by rw[zA,aaY,zU L,zA (l:=E++C),zU L];rfl
 rw[k i (by omega),k j (by omega)]
 have ri:=z _ (gZ (l:=E++C) (i:=i) (by omega))
 have rj:=z _ (gZ (l:=E++C) (i:=j) (by omega))
 generalize (E++C).getD i 0=a at *;generalize (E++C).getD j 0=b at *;have ea:a=(a.toNat:Int):=by omega
 have eb:b=(b.toNat:Int):=by omega
 rw[acJ,KD];constructor
 . intro q
   rw[ea,eb]at q;have:=yM h (by omega) (by omega) q
   omega
 . intro q
   have:=yL h (i:=a.toNat) (j:=b.toNat) (by omega) (by omega) q
   grind
end
section
open Go Go.cG Go.Conc
variable{m:Mo}{σ:aa}{KF:adl}
def ov(σ0 σ:aa)(l:acO):Prop:=σ0.Le σ/\(∀t∈l,Tok σ0 σ t.1 t.2.1 t.2.2)/\l.Pairwise λt a=>∀b,bp t.1=some b->bp a.1≠some b
theorem ov.head{σ0 σ:aa}{a:AV}{kk:Nat}{es:adL}{l:acO}(h:ov σ0 σ ((a,kk,es)::l)):Tok σ0 σ a kk es:=h.2.1 _ (acy)
theorem ov.perm{σ0 σ:aa}{l d:acO}(h:ov σ0 σ l)(e:l.Perm d):ov σ0 σ d:=⟨h.1,λt q=>h.2.1 t (e.mem_iff.2 q),(e.pairwise_iff λ{a b} q c f g=>q c g f).1 h.2.2⟩
theorem ov.PN{σ0 σ σ2:aa}{l:acO}{c:Nat}(h:ov σ0 σ l)(b:σ0 c=none)(d:∃l,σ c=some (.cells l))(a:∀y,y≠c->σ2 y=σ y):ov σ0 σ2 l:=⟨λy x f=>by rw[a y λe=>by simp_all];exact h.1 y x f,λt q=>rl (h.2.1 t q) b d a,h.2.2⟩
theorem ov.app{σ0 σ σ':aa}{a a':AV}{kk kk':Nat}{es c:adL}{l:acO}(h:ov σ0 σ ((a,kk,es)::l))(d:Tok (σ.off a) σ' a' kk' c):ov σ0 σ' ((a',kk',c)::l)/\∀y x,σ y=some (.cells x)->σ' y=some (.cells x):=by
 have f:=h.head;obtain⟨j,k⟩:=abb.1 h.2.2;have hb:=d.base f.here.2;have key:∀t∈l,Tok σ0 σ' t.1 t.2.1 t.2.2/\∀b,bp t.1=some b->bp a'≠some b:=λt q=>CI (h.2.1 t (abD _ q)) f (λb g i=>j t q b i g) d
 refine⟨⟨hb.1,λt q=>?_,abb.2 ⟨λt q b g i=>(key t q).2 b i g,k⟩⟩,λy x m=>d.1 _ _ ?_⟩
 . grind
 . rw[aa.dQ λe=>by obtain⟨_,_,q⟩:=f.aY e;simp_all];exact m
section
variable{c k:Nat}{nums:adG}
namespace WA
abbrev pl9:adv:=[⟨11,.take [0,2,3,8] false (.both 1 (.one 4 (.one 5 (.one 6 (.one 7 (.one 9 (.done)))))) (.one 4 (.both 1 (.one 5 (.one 6 (.one 7 (.one 9 (.done))))) (.one 5 (.both 1 (.one 6 (.one 7 (.one 9 (.done)))) (.one 6 (.take [1] true (.one 7 (.one 9 (.done))))))))))⟩,⟨18,.take [0,2,3,4,8,9,10,11,12,13,19] false (.both 1 (.both 5 (.take [6] false (.both 7 (.one 14 (.one 15 (.one 16 (.one 17 (.one 18 (.one 20 (.done))))))) (.one 14 (.one 7 (.one 15 (.one 16 (.one 17 (.one 18 (.one 20 (.done)))))))))) (.one 14 (.one 5 (.take [6] false (.one 7 (.one 15 (.one 16 (.one 17 (.one 18 (.one 20 (.done))))))))))) (.both 5 (.take [6] false (.both 1 (.both 7 (.one 14 (.one 15 (.one 16 (.one 17 (.one 18 (.one 20 (.done))))))) (.one 14 (.one 7 (.one 15 (.one 16 (.one 17 (.one 18 (.one 20 (.done))))))))) (.both 7 (.both 1 (.one 14 (.one 15 (.one 16 (.one 17 (.one 18 (.one 20 (.done))))))) (.one 14 (.both 1 (.one 15 (.one 16 (.one 17 (.one 18 (.one 20 (.done)))))) (.one 15 (.both 1 (.one 16 (.one 17 (.one 18 (.one 20 (.done))))) (.one 16 (.both 1 (.one 17 (.one 18 (.one 20 (.done)))) (.one 17 (.take [1] true (.one 18 (.one 20 (.done)))))))))))) (.one 14 (.both 1 (.one 7 (.one 15 (.one 16 (.one 17 (.one 18 (.one 20 (.done))))))) (.one 7 (.both 1 (.one 15 (.one 16 (.one 17 (.one 18 (.one 20 (.done)))))) (.one 15 (.both 1 (.one 16 (.one 17 (.one 18 (.one 20 (.done))))) (.one 16 (.both 1 (.one 17 (.one 18 (.one 20 (.done)))) (.one 17 (.take [1] true (.one 18 (.one 20 (.done)))))))))))))))) (.one 14 (.both 1 (.one 5 (.take [6] false (.one 7 (.one 15 (.one 16 (.one 17 (.one 18 (.one 20 (.done))))))))) (.one 5 (.take [6] false (.both 1 (.one 7 (.one 15 (.one 16 (.one 17 (.one 18 (.one 20 (.done))))))) (.one 7 (.both 1 (.one 15 (.one 16 (.one 17 (.one 18 (.one 20 (.done)))))) (.one 15 (.both 1 (.one 16 (.one 17 (.one 18 (.one 20 (.done))))) (.one 16 (.both 1 (.one 17 (.one 18 (.one 20 (.done)))) (.one 17 (.take [1] true (.one 18 (.one 20 (.done))))))))))))))))))⟩,⟨20,.take [0,1,3,6,7,8,9,10,13,14] false (.both 2 (.both 4 (.both 5 (.one 11 (.one 12 (.take [16] false (.one 15 (.done))))) (.one 11 (.one 5 (.one 12 (.take [16] false (.one 15 (.done))))))) (.one 11 (.one 4 (.one 5 (.one 12 (.take [16] false (.one 15 (.done)))))))) (.both 4 (.both 2 (.both 5 (.one 11 (.one 12 (.take [16] false (.one 15 (.done))))) (.one 11 (.one 5 (.one 12 (.take [16] false (.one 15 (.done))))))) (.one 11 (.one 2 (.one 5 (.one 12 (.take [16] false (.one 15 (.done)))))))) (.one 11 (.both 2 (.one 4 (.one 5 (.one 12 (.take [16] false (.one 15 (.done)))))) (.one 4 (.one 2 (.one 5 (.one 12 (.take [16] false (.one 15 (.done)))))))))))⟩]
theorem Ha{cnt:Int}(hk:k+600<1000000)(hn:nums.length<1152921504606846976)(c5:1<=cnt/\cnt<=6)(hb:bj c nums k σ)(h:∀(w:bY) (own lost:adG) σ',OQ cnt w own lost->pP c nums (k+600) σ σ'->KF (.val (.ck [dB w,ints own,ints lost])) σ'):aA prog m 9 [.ref c 0,int cnt] σ KF:=by
 obtain⟨n0,s0,_,fc⟩:=id hb;refine fs pl9 Tryz.func9 rfl (by kernel_rfl) ?_
 simp[Tryz.f9];refine bK.intro λH h4=>?_
 have n4:c≠H:=λe=>by simp_all
 have al:∀x,bj c nums k (σ.set H x):=λx=>⟨n0,s0,by assumption,by rw[aa.ai _ _ n4];exact fc⟩
 simp;refine cf Tryz.func40 rfl (KC (by omega) hn c5 (al _) λf U ee hS b2=>?_)
 refine af.runN lay [] 6 ?_;simp;refine bK.intro λc7 h7=>?_
 simp[aK]
 change af _ _ _ _ _ _ _ _ _
 refine af.bq 7 (b:=c7) (cz f) (aa.an _ _ _) (by simp) rfl ?_
 rw[ew h7];clear h7;apply rn;simp;refine bK.intro λG h9=>?_
 have u4:ee H=some (.cells [.nil,.nil,int 0,int 0,int 0,int 0,int 0,.nil,.nil]):=by rw[b2.2 H (za n4),aa.an]
 have n9:G≠c:=λe=>by subst e;obtain⟨_,_,_,q⟩:=b2.1;simp_all
 have a8:G≠H:=λe=>by simp_all
 simp[aK]
 have S:∀X,bj c nums (k+500) (ee.set G X):=λX=>by obtain⟨n,z,g1,g2⟩:=b2.1;exact⟨n,z,g1,by rw[aa.ai _ _ (za n9)];exact g2⟩
 refine cf Tryz.func20 rfl (wW (by omega) hn (by omega) (S _) λon O b3=>?_)
 refine af.runN lay [] 3 ?_;simp;obtain⟨M,hM⟩:∃M:Int,M=if on=true then 6 else f.aR:=⟨_,rfl⟩
 apply Kz
 . intro key
   have v9:O G=some (.cells [.nil,rows f.roads,int f.aU,int f.eZ,int f.cP,int f.aR,int 0,.nil,.nil]):=by rw[b3.2 G n9,aa.an]
   have v4:O H=some (.cells [.nil,.nil,int 0,int 0,int 0,int 0,int 0,.nil,.nil]):=by rw[b3.2 H (za n4),aa.ai _ _ (za a8)];exact u4
   have vk:∀y,y≠c->y≠H->y≠G->O y=σ y:=λy y1 y2 y3=>by rw[b3.2 y y1,aa.ai _ _ y3,b2.2 y y1,aa.ai _ _ y2]
   cases on with
   | false=>
     simp;refine af.runN lay [] 1 ?_;simp;refine af.gX (λenv σ'=>env 0=.ref c 0/\env 7=.cp (cz f) 0/\env 8=ints U/\env 4=.ref H 0/\env 9=.ref G 0/\bj c nums (k+501) σ'/\σ' H=some (.cells [.nil,.nil,int 0,int 0,int 0,int 0,int 0,.nil,.nil])/\σ' G=some (.cells [.nil,rows f.roads,int f.aU,int f.eZ,int f.cP,int M,int 0,.nil,.nil])/\∀y,y≠c->y≠H->y≠G->σ' y=σ y) ?_ ?_
     . exact⟨by simp,by simp,by simp,by simp,by simp,b3.1,v4,by rw[hM];exact v9,vk⟩
     . exact key
   | true=>
     simp;refine af.runN lay [] 5 ?_;simp[v9,aK];obtain⟨n,z,g1,g2⟩:=b3.1;refine af.gX (λenv σ'=>env 0=.ref c 0/\env 7=.cp (cz f) 0/\env 8=ints U/\env 4=.ref H 0/\env 9=.ref G 0/\bj c nums (k+501) σ'/\σ' H=some (.cells [.nil,.nil,int 0,int 0,int 0,int 0,int 0,.nil,.nil])/\σ' G=some (.cells [.nil,rows f.roads,int f.aU,int f.eZ,int f.cP,int M,int 0,.nil,.nil])/\∀y,y≠c->y≠H->y≠G->σ' y=σ y) ?_ ?_
     . exact⟨by simp,by simp,by simp,by simp,by simp,⟨n,z,g1,by rw[aa.ai _ _ (za n9)];exact g2⟩,by rw[aa.ai _ _ (za a8)];exact v4,by rw[hM];exact aa.an _ _ _,λy y1 y2 y3=>by rw[aa.ai _ _ y3];exact vk y y1 y2 y3⟩
     . exact key
 have fg:f.aR<=M/\M<=6:=by have:=hS.n8.aR;omega
 have s9:σ G=none:=by rw[<-h9,b2.2 G n9,aa.ai _ _ a8]
 rintro env eg ⟨v,A,B,D,F,b9,u4,u9,fi⟩
 apply rn;simp[v,A,B,D,F,u9];refine cf Tryz.func19 rfl (eQ (by omega) hn (by omega) (by omega) b9 λT bm hT a9=>?_)
 have fl:1<=T/\T<=4:=by omega
 have v9:bm G=some (.cells [.nil,rows f.roads,int f.aU,int f.eZ,int f.cP,int M,int 0,.nil,.nil]):=by rw[a9.2 G n9];exact u9
 apply rn;simp[v,A,B,D,F,v9,aK]
 have fp:∀X,bj c nums (k+502) (bm.set G X):=λX=>by obtain⟨n,z,g1,g2⟩:=a9.1;exact⟨n,z,by omega,by rw[aa.ai _ _ (za n9)];exact g2⟩
 refine cf Tryz.func18 rfl (fA (by omega) hn (by omega) (fp _) λx ab hx bw=>?_)
 have gp:0<=x/\x<=5:=by omega
 obtain⟨X,hX⟩:∃X:Nat,(X:Int)=x:=⟨x.toNat,by omega⟩
 apply rn;simp[v,A,B,D,F,v9]
 have ej:(σ.del c).Le ab:=λy z hy=>by
  have y1:y≠c:=λe=>by subst e;simp[aa.del]at hy
  have y0:σ y=some z:=by simpa[aa.del,y1]using hy
  have y4:y≠H:=λe=>by simp_all
  have y9:y≠G:=λe=>by simp_all
  rw[bw.2 y y1,aa.ai _ _ y9,a9.2 y y1,fi y y1 y4 y9];exact y0
 have ep:ov (σ.del c) ab [(.nil,5,([]:List Way).map jR)]:=⟨ej,λt q=>by rw[lb.1 q];exact⟨ej,.inl ⟨rfl,rfl⟩⟩,List.pairwise_singleton _ _⟩
 have et:bj c nums (k+503+7*0) ab:=bw.1.mono (by omega)
 refine Kz (P:=?P2) (λkey=>?f2) ?p2
 case f2=>
  refine af.loop X (λj s=>∃env σ' aw ws,s=⟨env,σ',[],.no⟩/\(env 0=.ref c 0/\env 7=.cp (cz f) 0/\env 8=ints U/\env 4=.ref H 0/\env 9=.ref G 0/\env 10=int (X-j))/\bj c nums (k+503+7*j) σ'/\σ' H=some (.cells [.nil,.nil,int 0,int 0,int 0,int 0,int 0,.nil,.nil])/\σ' G=some (.cells [.nil,rows f.roads,int f.aU,int f.eZ,int f.cP,int M,int T,aw,.nil])/\ov (σ.del c) σ' [(aw,5,(ws:List Way).map jR)]/\ws.length<=j/\∀x∈ws,qF T x=0) ?_ ?_
  . exact⟨_,_,.nil,[],rfl,by simp[v,A,B,D,F,v9,hX],et,by rw[bw.2 H (za n4),aa.ai _ _ (za a8),a9.2 H (za n4)];exact u4,by rw[bw.2 G n9,aa.an],ep,by simp⟩
  rintro c0 j _ hj ⟨env,σ',aw,ws,rfl,⟨v,A,B,D,F,cS⟩,bA,q4,V,J,ft,b4⟩ ih
  have a7:=J.head.cells;apply rn;simp[v,A,B,D,F,cS,V,a7.1,a7.2];refine uu.intro (λg1=>?_) (λg1=>?_)<;>(try simp[-Nat.not_lt,-Nat.not_le]at g1)<;>(try simp[v,A,B,D,F,cS,V,a7.1,a7.2,g1])
  rotate_left
  . have cb:k+503+7*j<=k+540:=by omega
    have cg:ws.length<=5:=by omega
    refine af.gX (λenv σ'=>∃aw ws,env 0=.ref c 0/\env 7=.cp (cz f) 0/\env 8=ints U/\env 4=.ref H 0/\env 9=.ref G 0/\env 11=.nil/\env 12=.nil/\env 13=int 0/\bj c nums (k+540) σ'/\σ' H=some (.cells [.nil,.nil,int 0,int 0,int 0,int 0,int 0,.nil,.nil])/\σ' G=some (.cells [.nil,rows f.roads,int f.aU,int f.eZ,int f.cP,int M,int T,aw,.nil])/\ov (σ.del c) σ' [(aw,5,(ws:List Way).map jR)]/\ws.length<=5/\∀x∈ws,qF T x=0) ?_ ?_
    . refine⟨aw,ws,?_,?_,?_,?_,?_,?_,?_,?_,bA.mono cb,q4,V,J,cg,b4⟩<;>simp[v,A,B,D,F,cS,V,a7.1,a7.2]
    . exact key
  apply aH.intro<;>intro g2<;>simp at g2<;>simp[v,A,B,D,F,cS,V,a7.1,a7.2,g2]
  rotate_left
  . have cb:k+503+7*j<=k+540:=by omega
    have cg:ws.length<=5:=by omega
    refine af.gX (λenv σ'=>∃aw ws,env 0=.ref c 0/\env 7=.cp (cz f) 0/\env 8=ints U/\env 4=.ref H 0/\env 9=.ref G 0/\env 11=.nil/\env 12=.nil/\env 13=int 0/\bj c nums (k+540) σ'/\σ' H=some (.cells [.nil,.nil,int 0,int 0,int 0,int 0,int 0,.nil,.nil])/\σ' G=some (.cells [.nil,rows f.roads,int f.aU,int f.eZ,int f.cP,int M,int T,aw,.nil])/\ov (σ.del c) σ' [(aw,5,(ws:List Way).map jR)]/\ws.length<=5/\∀x∈ws,qF T x=0) ?_ ?_
    . refine⟨aw,ws,?_,?_,?_,?_,?_,?_,?_,?_,bA.mono cb,q4,V,J,cg,b4⟩<;>simp[v,A,B,D,F,cS,V,a7.1,a7.2]
    . exact key
  apply zd (I:=λenv r=>∃a' x,env 0=.ref c 0/\env 7=.cp (cz f) 0/\env 8=ints U/\env 4=.ref H 0/\env 9=.ref G 0/\env 10=int (X-j)/\qF T x=0/\bj c nums (k+503+7*j+7) r/\r H=some (.cells [.nil,.nil,int 0,int 0,int 0,int 0,int 0,.nil,.nil])/\r G=some (.cells [.nil,rows f.roads,int f.aU,int f.eZ,int f.cP,int M,int T,a',.nil])/\ov (σ.del c) r [(a',5,(ws.map jR)++[jR x])])
  . intro Y
    repeat' (first
              |apply And.intro
              | (refine cf Tryz.func21 rfl (WY.OL (by omega) hn (by omega) bA λx O cm hd=>?_)
                 have cr:∃l,σ' c=some (.cells l):=by obtain⟨_,_,_,q⟩:=bA;exact⟨_,q⟩
                 have L:=J.PN (by simp[aa.del]) cr hd.2
                 have ev:=L.head.cells;have r9:O G=some (.cells [.nil,rows f.roads,int f.aU,int f.eZ,int f.cP,int M,int T,aw,.nil]):=by rw[hd.2 G n9];exact V
                 have r4:O H=some (.cells [.nil,.nil,int 0,int 0,int 0,int 0,int 0,.nil,.nil]):=by rw[hd.2 H (za n4)];exact q4
                 apply pg;simp[v,A,B,D,F,cS,r9,ev.1,ev.2])
              | (refine aN lay rfl rfl rfl Sl rfl Sl rfl Vn (by decide) (by simp;omega) (σ0:=O.off aw) (es:=ws.map jR) (xs:=[jR x]) (by simpa using L.head.here.1) (.inr ⟨_,by simp;rfl⟩) λa' eg av=>?_
                 obtain⟨ay,k3⟩:=L.app av;have K:=ay.head.cells;have t9:=k3 _ _ r9;have t4:=k3 _ _ r4;apply pg;simp[v,A,B,D,F,cS,t9,K.1,K.2,aK];obtain⟨nb,zb,al,S⟩:=hd.1;have tc:=k3 _ _ S;refine Y _ _ ⟨a',x,by simp[v],by simp[A],by simp[B],by simp[D],by simp[F],by simp[cS],cm,⟨nb,zb,al,by rw[aa.ai _ _ (za n9)];exact tc⟩,by rw[aa.ai _ _ (za a8)];exact t4,aa.an _ _ _,?_⟩
                 exact(ay.PN (by simp[aa.del,n9,s9]) ⟨_,t9⟩ λy hy=>aa.ai _ _ hy)))
  clear v A B D F cS env
  rintro env O ⟨a',x,v,A,B,D,F,cS,cm,S,r4,r9,L⟩
  apply rn;simp[v,A,B,D,F,cS];have r1:-9223372036854775808<=(X:Int)-j-1/\(X:Int)-j-1<=9223372036854775807:=by omega
  refine⟨r1,ih _ g1 ⟨_,_,a',ws++[x],rfl,⟨by simp[v,A,B,D,F,cS],by simp[v,A,B,D,F,cS],by simp[v,A,B,D,F,cS],by simp[v,A,B,D,F,cS],by simp[v,A,B,D,F,cS],?_⟩,?_,r4,r9,?_,?_,?_⟩⟩
  . simp;omega
  . omega
  . simpa using L
  . simp;omega
  . intro y hy
    rcases aaC.1 hy with q|q
    . exact b4 y q
    . rw[lb.1 q];exact cm
 case p2=>
 clear v A B D F env
 rintro env σ6 ⟨aw,ws,v,A,B,D,F,cQ,eL,d,ey,ez,cv,R,ft,b4⟩
 obtain⟨Q,dj⟩:∃Q:Int->Int,Q=λi=>U.getD i.toNat 0:=⟨_,rfl⟩
 have h6:=hS.n8.pJ;have gw:=hS.len;have gx:U.length=f.aD.length:=by obtain⟨_,_,_,_,q,_⟩:=hS.seen;exact q.len
 have fu:∀e∈f.aD,0<=e.hour/\e.hour<=72:=λe he=>(oa (hS.n8.sJ e he)).1
 apply rn;simp[v,A,B,D,F,cQ,eL,d,cv];have b5:=R.1
 have b6:ov (σ.del c) σ6 [(.nil,6,(([]:adG).map (aS f)).map bs),(.nil,8,([]:List Kg).map iy),(.nil,1,(([]:adG).map Q).map int),(.nil,1,(([]:adG).map Q).map int),(aw,5,ws.map jR)]:=by
  have n0:∀kk,Tok (σ.del c) σ6 .nil kk []:=λkk=>⟨b5,.inl ⟨rfl,rfl⟩⟩
  refine⟨b5,λt q=>?_,?_⟩
  . simp at q
    rcases q with rfl|rfl|rfl|rfl
    . exact n0 6
    . exact n0 8
    . exact n0 1
    . exact R.head
  . simp[bp]
 refine af.loop f.aD.length (λi s=>∃env σ' aE Z aO aL E C cs,s=⟨env,σ',[],.no⟩/\(env 0=.ref c 0/\env 7=.cp (cz f) 0/\env 8=ints U/\env 4=.ref H 0/\env 9=.ref G 0/\env 11=aO/\env 12=aL/\env 13=int i)/\bj c nums (k+540+3*i) σ'/\σ' H=some (.cells [.nil,.nil,int 0,int 0,int 0,int 0,int 0,.nil,.nil])/\σ' G=some (.cells [aE,rows f.roads,int f.aU,int f.eZ,int f.cP,int M,int T,aw,Z])/\ov (σ.del c) σ' [(aE,6,((E:adG).map (aS f)).map bs),(Z,8,(cs:List Kg).map iy),(aO,1,(E.map Q).map int),(aL,1,((C:adG).map Q).map int),(aw,5,ws.map jR)]/\E.length+C.length=i/\(∀x∈E++C,0<=x/\x<f.aD.length)/\cs.map (·.lost)=C.map (aS f)/\cs.length<=3/\∀x∈cs,(0<=x.town/\x.town<T)/\(0<=x.hour/\x.hour<=72)/\x.lost.hour<=x.hour) ?_ ?_
 . refine⟨_,_,.nil,.nil,.nil,.nil,[],[],[],rfl,?_,ey,ez,cv,b6,rfl,by simp,rfl,by simp⟩
   simp_all
 clear b6 R b5 ez cv ey v A B D F cQ eL d env
 rintro c0 i _ hi ⟨env,σ',aE,Z,aO,aL,E,C,cs,rfl,⟨v,A,B,D,F,cQ,eL,d⟩,dm,q4,V,J,gA,bB,dr,eA,dx⟩ ih
 have g:=J.head.cells;have o:Z.cells=[Z]/\Z.flat=true:=(J.2.1 (Z,8,cs.map iy) (by simp)).cells
 have u:aO.cells=[aO]/\aO.flat=true:=(J.2.1 (aO,1,(E.map Q).map int) (by simp)).cells
 have p:aL.cells=[aL]/\aL.flat=true:=(J.2.1 (aL,1,(C.map Q).map int) (by simp)).cells
 have fv:∀l,(Z,8,cs.map iy)=l->True:=λ_ _=>trivial
 refine af.runN lay [] 20 ?_;simp[v,A,B,D,F,cQ,eL,d,V,g.1,g.2,o.1,o.2,u.1,u.2,p.1,p.2];apply aH.intro<;>intro g1<;>simp at g1<;>simp[v,A,B,D,F,cQ,eL,d,V,g.1,g.2,o.1,o.2,u.1,u.2,p.1,p.2,g1]
 . refine af.runN lay [] 2 ?_
   simp[v,A,B,D,F,cQ,eL,d,V,g.1,g.2,o.1,o.2,u.1,u.2,p.1,p.2];refine bK.intro λfw eB=>?_
   simp[v,A,B,D,F,cQ,eL,d,V,g.1,g.2,o.1,o.2,u.1,u.2,p.1,p.2,aK]
   change af _ _ _ _ _ _ _ _ _
   refine af.bq 14 (b:=fw) (bs f.aD[i]) (aa.an _ _ _) (by simp) rfl ?_
   rw[ew eB];have gB:=fu _ (zG g1);have eK:aS f i=f.aD[i]:=by simp[aS,g1]
   generalize f.aD[i]=e at *;clear eB;apply rn;simp[v,A,B,D,F,cQ,eL,d,V,g.1,g.2,o.1,o.2,u.1,u.2,p.1,p.2];refine cf Tryz.func20 rfl (wW (by omega) hn (by omega) dm λon O b0=>?_)
   have cr:∃l,σ' c=some (.cells l):=by obtain⟨_,_,_,q⟩:=dm;exact⟨_,q⟩
   have L:=J.PN (by simp[aa.del]) cr b0.2
   have r9:O G=some (.cells [aE,rows f.roads,int f.aU,int f.eZ,int f.cP,int M,int T,aw,Z]):=by rw[b0.2 G n9];exact V
   have r4:O H=some (.cells [.nil,.nil,int 0,int 0,int 0,int 0,int 0,.nil,.nil]):=by rw[b0.2 H (za n4)];exact q4
   have eN:=(L.2.1 (Z,8,cs.map iy) (by simp)).Rx
   refine Kz (P:=?P3) (λkey=>?f3) ?p3
   case f3 =>
    have fx:∀b,b=decide ((cs.length:Int)<3)->b=true->cs.length<3:=λb q1 q2=>by rw[q1]at q2;have:=abM q2;clear key;omega
    cases on with
    | false=>
      refine af.runN lay [] 7 ?_;simp[v,A,B,D,F,cQ,eL,d,V,g.1,g.2,o.1,o.2,u.1,u.2,p.1,p.2];refine af.gX (λenv r=>O=r/\env 0=.ref c 0/\env 7=.cp (cz f) 0/\env 8=ints U/\env 4=.ref H 0/\env 9=.ref G 0/\env 11=aO/\env 12=aL/\env 13=int i/\env 14=.cp (bs e) 0/\∃b,env 71=bool b/\(b=true->cs.length<3)) ?_ ?_
      . refine⟨rfl,?_,?_,?_,?_,?_,?_,?_,?_,?_,false,?_⟩<;>simp[v,A,B,D,F,cQ,eL,d,V,g.1,g.2,o.1,o.2,u.1,u.2,p.1,p.2]
      . exact key
    | true=>
      rcases eN with ⟨q1,q2⟩|⟨sp,q1⟩
      . change Z=_ at q1
        rw[q1]at r9;refine af.runN lay [] 7 ?_;simp[v,A,B,D,F,cQ,eL,d,V,g.1,g.2,o.1,o.2,u.1,u.2,p.1,p.2,r9];refine af.gX (λenv r=>O=r/\env 0=.ref c 0/\env 7=.cp (cz f) 0/\env 8=ints U/\env 4=.ref H 0/\env 9=.ref G 0/\env 11=aO/\env 12=aL/\env 13=int i/\env 14=.cp (bs e) 0/\∃b,env 71=bool b/\(b=true->cs.length<3)) ?_ ?_
        . have hz:cs.length<3:=by
           cases cs with
           |nil=>exact(by decide)
           |cons a l=>cases q2
          refine⟨rfl,?_,?_,?_,?_,?_,?_,?_,?_,?_,true,?_,λ_=>hz⟩<;>simp[v,A,B,D,F,cQ,eL,d,V,g.1,g.2,o.1,o.2,u.1,u.2,p.1,p.2]
        . exact key
      . change Z=_ at q1
        rw[q1]at r9;refine af.runN lay [] 7 ?_;simp[v,A,B,D,F,cQ,eL,d,V,g.1,g.2,o.1,o.2,u.1,u.2,p.1,p.2,r9];refine af.gX (λenv r=>O=r/\env 0=.ref c 0/\env 7=.cp (cz f) 0/\env 8=ints U/\env 4=.ref H 0/\env 9=.ref G 0/\env 11=aO/\env 12=aL/\env 13=int i/\env 14=.cp (bs e) 0/\∃b,env 71=bool b/\(b=true->cs.length<3)) ?_ ?_
        . refine⟨rfl,?_,?_,?_,?_,?_,?_,?_,?_,?_,decide ((cs.length:Int)<3),?_,fx _ rfl⟩<;>simp[v,A,B,D,F,cQ,eL,d,V,g.1,g.2,o.1,o.2,u.1,u.2,p.1,p.2]
        . exact key
   case p3=>
   clear v A B D F cQ eL d env eN
   rintro env _ ⟨rfl,v,A,B,D,F,cQ,eL,d,qg,b,RY,b9⟩
   have rT:-9223372036854775808<=T-1/\T-1<=9223372036854775807:=by omega
   have rh:-9223372036854775808<=e.hour+6/\e.hour+6<=9223372036854775807:=by omega
   have gC:E.length<=i/\C.length<=i:=by omega
   cases b with
   | true=>
     have b9:=b9 rfl
     apply zd (I:=λenv r=>∃a' nc,env 0=.ref c 0/\env 7=.cp (cz f) 0/\env 8=ints U/\env 4=.ref H 0/\env 9=.ref G 0/\env 11=aO/\env 12=aL/\env 13=int i/\bj c nums (k+540+3*i+3) r/\r H=some (.cells [.nil,.nil,int 0,int 0,int 0,int 0,int 0,.nil,.nil])/\r G=some (.cells [aE,rows f.roads,int f.aU,int f.eZ,int f.cP,int M,int T,aw,a'])/\ov (σ.del c) r [(a',8,cs.map iy++[iy nc]),(aE,6,(E.map (aS f)).map bs),(aO,1,(E.map Q).map int),(aL,1,(C.map Q).map int),(aw,5,ws.map jR)]/\nc.lost=e/\(0<=nc.town/\nc.town<T)/\(0<=nc.hour/\nc.hour<=72)/\nc.lost.hour<=nc.hour)
     . intro Y
       apply rn;simp[v,A,B,D,F,cQ,eL,d,qg,RY,r9,g.1,g.2,o.1,o.2,rT.1,rT.2,rh.1,rh.2]
       repeat' (first
                 |apply And.intro
                 | (refine cf Tryz.func18 rfl (fA (by omega) hn (by omega) b0.1 λy1 eg gD b7=>?_)
                    have ay:=L.PN (by simp[aa.del]) (by obtain⟨_,_,_,q⟩:=b0.1;exact⟨_,q⟩) b7.2
                    have v9:=(b7.2 G n9).trans r9;have v4:=(b7.2 H (za n4)).trans r4;apply pg;simp[v,A,B,D,F,cQ,eL,d,qg,r9,v9,g.1,g.2,o.1,o.2,rT.1,rT.2,rh.1,rh.2])
                 | (refine cf Tryz.func19 rfl (eQ (by omega) hn (by omega) ⟨by split<;>omega,by split<;>omega⟩ b7.1 λy2 bm fO a9=>?_)
                    have eR:=ay.PN (by simp[aa.del]) (by obtain⟨_,_,_,q⟩:=b7.1;exact⟨_,q⟩) a9.2
                    have x9:=(a9.2 G n9).trans v9;have x4:=(a9.2 H (za n4)).trans v4;apply pg;simp[v,A,B,D,F,cQ,eL,d,qg,x9,g.1,g.2,o.1,o.2,aK])
                 | (have hp:=eR.perm (List.Perm.swap (Z,8,cs.map iy) _ _)
                    refine aN lay rfl rfl rfl P8 rfl P8 rfl Vo (by decide) (by simp;omega) (σ0:=bm.off Z) (es:=cs.map iy) (xs:=[iy ⟨e,y1,y2⟩]) (by simpa using hp.head.here.1) (.inr ⟨.exact,by simp[aK]⟩) λa' ab av=>?_
                    obtain⟨N,k5⟩:=hp.app av;have K:=N.head.cells;have t9:=k5 _ _ x9;have t4:=k5 _ _ x4;apply pg;simp[v,A,B,D,F,cQ,eL,d,qg,t9,K.1,K.2,aK];obtain⟨nb,zb,al,S⟩:=a9.1;have tc:=k5 _ _ S
                    refine Y _ _ ⟨a',⟨e,y1,y2⟩,by simp[v],by simp[A],by simp[B],by simp[D],by simp[F],by simp[cQ],by simp[eL],by simp[d],⟨nb,zb,by omega,by rw[aa.ai _ _ (za n9)];exact tc⟩,by rw[aa.ai _ _ (za a8)];exact t4,aa.an _ _ _,N.PN (by simp[aa.del,n9,s9]) ⟨_,t9⟩ λy hy=>aa.ai _ _ hy,rfl,by simp only;omega,?_,?_⟩
                    . simp only;revert fO;split<;>omega
                    . simp only;omega))
     clear v A B D F cQ eL d qg RY env
     rintro env ab ⟨a',nc,v,A,B,D,F,cQ,eL,d,dy,ea,eb,N,gd,gG,gH,gI⟩
     have b1:i<U.length:=by omega
     have K:=N.head.cells;apply rn;simp[v,A,B,D,F,cQ,eL,d,K.1,K.2,p.1,p.2,b1];have hp:=N.perm (acD (a:=(aL,1,(C.map Q).map int)) (l₁:=[(a',8,cs.map iy++[iy nc]),(aE,6,(E.map (aS f)).map bs),(aO,1,(E.map Q).map int)]) (l₂:=[(aw,5,ws.map jR)]));have b8:Q (i:Int)=U[i]:=by rw[dj];simp[b1]
     refine aN lay rfl rfl rfl dD rfl dD rfl rD (by decide) (by simp;omega) (σ0:=ab.off aL) (es:=(C.map Q).map int) (xs:=[int U[i]]) (by simpa using hp.head.here.1) (.inr ⟨_,rfl⟩) λeW σ6 av=>?_
     obtain⟨R,k6⟩:=hp.app av;have c6:=R.head.cells;have t9:=k6 _ _ eb;have t4:=k6 _ _ ea;apply rn;simp[v,A,B,D,F,cQ,eL,d,K.1,K.2,p.1,p.2,c6.1,c6.2];obtain⟨nb,zb,al,S⟩:=dy;have tc:=k6 _ _ S;have ec:=R.perm ((acD (a:=(eW,1,(C.map Q).map int++[int U[i]])) (l₁:=[(a',8,cs.map iy++[iy nc]),(aE,6,(E.map (aS f)).map bs),(aO,1,(E.map Q).map int)]) (l₂:=[(aw,5,ws.map jR)])).symm.trans (List.Perm.swap _ _ _))
     refine⟨by omega,ih _ g1 ⟨_,_,aE,a',aO,eW,E,C++[(i:Int)],cs++[nc],rfl,?_,⟨nb,zb,by omega,tc⟩,t4,t9,?_,?_,?_,?_,?_,?_⟩⟩
     . exact by simp[v,A,B,D,F,cQ,eL,d,K.1,K.2,p.1,p.2]
     . simpa[b8]using ec
     . simp;omega
     . intro x hx
       rw[<-List.append_assoc]at hx
       rcases aaC.1 hx with q|q
       . exact bB x q
       . rw[lb.1 q];omega
     . rw[aaN,aaN,dr];simp[gd,eK]
     . simp;omega
     . intro x hx
       rcases aaC.1 hx with q|q
       . exact dx x q
       . rw[lb.1 q];omega
   | false=>
     have b1:i<U.length:=by omega
     have b8:Q (i:Int)=U[i]:=by rw[dj];simp[b1]
     apply zd (I:=λenv r=>∃ad ax,env 0=.ref c 0/\env 7=.cp (cz f) 0/\env 8=ints U/\env 4=.ref H 0/\env 9=.ref G 0/\env 11=ax/\env 12=aL/\env 13=int i/\bj c nums (k+540+3*i+3) r/\r H=some (.cells [.nil,.nil,int 0,int 0,int 0,int 0,int 0,.nil,.nil])/\r G=some (.cells [ad,rows f.roads,int f.aU,int f.eZ,int f.cP,int M,int T,aw,Z])/\ov (σ.del c) r [(ax,1,(E.map Q).map int++[int U[i]]),(ad,6,(E.map (aS f)).map bs++[bs e]),(Z,8,cs.map iy),(aL,1,(C.map Q).map int),(aw,5,ws.map jR)])
     . intro Y
       apply rn;simp[v,A,B,D,F,cQ,eL,d,qg,RY,r9,g.1,g.2,u.1,u.2,b1]
       repeat' (first
                 |apply And.intro
                 | (refine aN lay rfl rfl rfl nB rfl nB rfl zJ (by decide) (by simp;omega) (σ0:=O.off aE) (es:=(E.map (aS f)).map bs) (xs:=[bs e]) (by simpa using L.head.here.1) (.inr ⟨.exact,by simp⟩) λad ab av=>?_
                    obtain⟨N,k5⟩:=L.app av;have K:=N.head.cells;have t9:=k5 _ _ r9;have t4:=k5 _ _ r4;apply pg;simp[v,A,B,D,F,cQ,eL,d,qg,t9,K.1,K.2,u.1,u.2,b1])
                 | (have hp:=N.perm (acD (a:=(aO,1,(E.map Q).map int)) (l₁:=[(ad,6,(E.map (aS f)).map bs++[bs e]),(Z,8,cs.map iy)]) (l₂:=[(aL,1,(C.map Q).map int),(aw,5,ws.map jR)]))
                    refine aN lay rfl rfl rfl dD rfl dD rfl rD (by decide) (by simp;omega) (σ0:=ab.off aO) (es:=(E.map Q).map int) (xs:=[int U[i]]) (by simpa using hp.head.here.1) (.inr ⟨.exact,by simp⟩) λax σ6 gf=>?_
                    obtain⟨R,k6⟩:=hp.app gf;have ca:=R.head.cells;have x9:=k6 _ _ t9;have x4:=k6 _ _ t4;apply pg;simp[v,A,B,D,F,cQ,eL,d,qg,x9,K.1,K.2,ca.1,ca.2,aK];obtain⟨nb,zb,al,S⟩:=b0.1;have tc:=k6 _ _ (k5 _ _ S);exact Y _ _ ⟨ad,ax,by simp[v],by simp[A],by simp[B],by simp[D],by simp[F],by simp,by simp[eL],by simp[d],⟨nb,zb,by omega,by rw[aa.ai _ _ (za n9)];exact tc⟩,by rw[aa.ai _ _ (za a8)];exact x4,aa.an _ _ _,R.PN (by simp[aa.del,n9,s9]) ⟨_,x9⟩ λy hy=>aa.ai _ _ hy⟩))
     clear v A B D F cQ eL d qg RY env
     rintro env ab ⟨ad,ax,v,A,B,D,F,cQ,eL,d,dy,ea,eb,N⟩
     apply rn;simp[v,A,B,D,F,cQ,eL,d];have ec:=N.perm ((acD (a:=(ax,1,(E.map Q).map int++[int U[i]])) (l₁:=[(ad,6,(E.map (aS f)).map bs++[bs e]),(Z,8,cs.map iy)]) (l₂:=[(aL,1,(C.map Q).map int),(aw,5,ws.map jR)])).symm);refine⟨by omega,ih _ g1 ⟨_,_,ad,Z,ax,aL,E++[(i:Int)],C,cs,rfl,?_,dy.mono (by omega),ea,eb,?_,?_,?_,dr,eA,dx⟩⟩
     . exact by simp[v,A,B,D,F,cQ,eL,d]
     . simpa[b8,eK]using ec
     . simp;omega
     . intro x hx
       rcases aaC.1 hx with q|q
       . rcases aaC.1 q with q|q
         . exact bB x (List.mem_append_left _ q)
         . rw[lb.1 q];omega
       . exact bB x (List.mem_append_right _ q)
 . have ei:i=f.aD.length:=by omega
   have eX:aw.cells=[aw]/\aw.flat=true:=(J.2.1 (aw,5,ws.map jR) (by simp)).cells
   simp[v,A,B,D,F,cQ,eL,d,V,g.1,g.2,o.1,o.2,u.1,u.2,p.1,p.2,eX.1,eX.2,q4,aa.ai,a8,za a8,aK];apply rn;simp[v,A,B,D,F,cQ,eL,d,V,g.1,g.2,o.1,o.2,u.1,u.2,p.1,p.2];obtain⟨w,hw⟩:∃w:bY,w=⟨⟨E.map (aS f),f.roads,f.aU,f.eZ,f.cP,M⟩,T,ws,cs⟩:=⟨_,rfl⟩
   have ed:OQ cnt w (E.map Q) (C.map Q):=by subst hw;subst dj;exact QI hS c5.2 bB (by omega) rfl dr rfl rfl rfl rfl fg fl b4 (show ws.length<=6 by omega) eA dx
   obtain⟨nb,zb,al,S⟩:=dm
   have gj:(AV.agg [aE,rows f.roads,int f.aU,int f.eZ,int f.cP,int M,int T,aw,Z]).W (dB w):=by
    subst hw;refine qy rfl λi x y h1 h2=>?_
    match i with
    |0=>cases h1;cases h2;exact J.head.W
    |1=>cases h1;cases h2;exact .refl _
    |2=>cases h1;cases h2;exact .refl _
    |3=>cases h1;cases h2;exact .refl _
    |4=>cases h1;cases h2;exact .refl _
    |5=>cases h1;cases h2;exact .refl _
    |6=>cases h1;cases h2;exact .refl _
    |7=>cases h1;cases h2;exact(J.2.1 (aw,5,ws.map jR) (by simp)).W
    |8=>cases h1;cases h2;exact(J.2.1 (Z,8,cs.map iy) (by simp)).W
    |i+9=>cases h1
   have gl:(AV.ck [.agg [aE,rows f.roads,int f.aU,int f.eZ,int f.cP,int M,int T,aw,Z],aO,aL]).W (.ck [dB w,ints (E.map Q),ints (C.map Q)]):=by
    refine NU rfl λi x y h1 h2=>?_
    match i with
    |0=>cases h1;cases h2;exact gj
    |1=>cases h1;cases h2;exact(J.2.1 (aO,1,(E.map Q).map int) (by simp)).W
    |2=>cases h1;cases h2;exact (J.2.1 (aL,1,(C.map Q).map int) (by simp)).W
    |i+3=>cases h1
   refine .pM gl (.less (σ':=σ.set c (.cells [ints nums,int nb,.lit (.int .u64 zb)])) (λy x hy=>?_) (.done (h w _ _ _ ed ⟨⟨nb,zb,by omega,aa.an _ _ _⟩,λy hy=>aa.ai _ _ hy⟩)))
   by_cases y1:y=c
   . subst y1
     rw[aa.an]at hy;rw[aa.ai _ _ n4,S];exact hy
   . rw[aa.ai _ _ y1]at hy
     have y4:y≠H:=λe=>by subst e;grind
     rw[aa.ai _ _ y4];exact J.1 y x (by simpa[aa.del,y1]using hy)
end WA
end
end
open Go.cG Go.Conc
variable{m:Mo}{σ:aa}{KF:adl}
theorem Fe{w:bY}(f:nD w=0){a b c:adG}(d:∀x∈a,0<=x/\x<=72)(hb:∀x∈b,0<=x/\x<(w.fair.aD.length:Int))(e:∀x∈c,0<=x/\x<(w.aF.length:Int)):fh w a b c=0:=by
 have g:a.all (bt · 0 72)=true:=aaD.2 λx q=>by have:=d x q;simp only[bt,zj,KD];omega
 have h:b.all (bt · 0 (w.fair.aD.length-1))=true:=aaD.2 λx q=>by have:=hb x q;simp only[bt,zj,KD];omega
 have i:c.all (bt · 0 (w.aF.length-1))=true:=aaD.2 λx q=>by have:=e x q;simp only[bt,zj,KD];omega
 unfold fh
 grind
theorem Hb{w:bY}(a:w.Valid){c:Nat}(f:c<w.aF.length)(b:cd w c<=72):0<=mJ (aB (kC w 72)) c/\ia w c<(oq w).aD.length/\w.fair.aD.length<=(oq w).aD.length:=by
 have d:(c:Int)∈cR w 72:=(qL a f).2 ⟨b,b⟩;have e:oq w=jW w 72:=by unfold oq;rw[a.kE,a.kC]
 have hlen:(jW w 72).aD.length=w.fair.aD.length+(cR w 72).length:=by rw[(oo w 72).len,aaF,lL a (abF _),rz,aaP]
 have g:mJ (cR w 72) c=(cR w 72).idxOf (c:Int):=by unfold mJ;rw[sH _ _ _ d];omega
 have:=(oe d).1;rw[e,hlen];unfold ia;rw[a.kC,g];omega
def wi(w:bY)(c:Int)(k:Nat):Bool:=(List.range k).any λ(i:Nat)=>decide (c∈vp w 72 i)
theorem Hc(w:bY)(c:Int)(k:Nat):wi w c (k+1)=(wi w c k||decide (c∈vp w 72 k)):=by unfold wi;grind
theorem OR{w:bY}(a:w.Valid){c:Nat}(b:c<w.aF.length):wi w c w.fair.aD.length=true↔cd w c<=72/\eS w c≠2:=by
 rw[<-CE a b];unfold wi
 grind
theorem OS(w:bY)(h i:Int):(vp w h i).length<=w.aF.length:=by
 unfold vp
 grind
theorem zY(p:m.solo=true){nums:adG}(X:nums.length<1152921504606846976)(h:∀σ',KF (.val (bool true)) σ'):xS prog lay m 7 [ints nums] σ KF:=by
 refine xS.start lay [] [] 1 Tryz.func7 rfl rfl (by rfl) (by kernel_rfl) ?_;simp[Tryz.f7];refine cf Tryz.func10 rfl (Kb λc Y Z hb u=>?_);apply rn;simp;refine cf Tryz.func9 rfl (WA.Ha (by omega) X ⟨by omega,by omega⟩ hb λw own lost a7 R hd=>?_);refine af.runN lay [] 8 ?_;simp;refine bK.intro λd B=>?_
 simp[aK];change af _ _ _ _ _ _ _ _ _;refine af.bq 3 (b:=d) (dB w) (aa.an _ _ _) (by simp) rfl ?_;rw[ew B];have l:=R.valid;have V:=R.C7;have C:=l.open;have c3:=l.EM.1;have h6:=l.pJ;clear R hd hb u Z B;refine af.runN lay [] 7 ?_;simp;refine af.gX (λenv _=>env 3=.cp (dB w) 0/\env 6=int 0) ?_ ?_
 . simp_all
 rintro env x ⟨a,f⟩;refine af.loop w.aF.length (λc s=>∃env σ',s=⟨env,σ',[],.no⟩/\env 3=.cp (dB w) 0/\env 6=int c) ⟨env,x,rfl,a,f⟩ ?_;clear a f env x;rintro c0 c _ a8 ⟨env,x,rfl,a,f⟩ S;apply rn;simp[a,f];apply aH.intro<;>intro t<;>simp at t<;>simp[a,f,t]
 . have y:fh w [] [] [(c:Int)]=0:=Fe V (by simp) (by simp) (by simp;omega)
   have D:∀e v:Int,(e=11/\72<cd w c\/e=0/\cd w c<=72/\v=eS w c)->wi w c w.fair.aD.length=(decide (e=0) && decide (v≠2)):=λe v q=>by
    have:=OR l t
    grind
   have n:c<3:=by omega
   have E:(0:Int)<=c/\(c:Int)<3:=by omega
   have F:=Hb l t;have g:∀h i:Nat,h<73->i<w.fair.aD.length->foundAt w c h i->cd w c<=72/\eS w c=1:=λh i G H I=>zV l t G H I.1
   have J:¬72<cd w c->cd w c<=72:=by omega
   have T:72<cd w c -> ¬cd w c<=72:=by omega
   refine Kz (P:=?P3) (λkey=>?f3) ?p3
   case f3=>
    by_cases o:72<cd w c
    . refine cf Tryz.func30 rfl (v8 p l.wD C n F y ?_)
      rw[aaB o];apply rn;simp[a,f];refine cf Tryz.func31 rfl (vq p l.wD C E y (λU i G H I=>absurd (g U i G H I).1 (T o)) λq=>?_);apply rn;simp[a,f];refine cf Tryz.func22 rfl (ni p l.wD n y ?_);rw[aaB o];apply rn;simp[a,f];refine af.gX (λenv _=>env 3=.cp (dB w) 0/\env 6=int c/\env 14=bool false/\env 15=int 0/\∃e v,env 8=int e/\env 7=int v/\(e=11/\72<cd w c\/e=0/\cd w c<=72/\v=eS w c)) ?_ ?_
      . refine⟨?_,?_,?_,?_,11,0,?_,?_,.inl ⟨rfl,o⟩⟩<;>simp[a,f]
      . exact key
    . refine cf Tryz.func30 rfl (v8 p l.wD C n F y ?_)
      rw[aay o];obtain⟨v,z⟩:∃v,v=eS w c:=⟨_,rfl⟩;rw[<-z]at g ⊢;apply rn;simp[a,f];refine cf Tryz.func31 rfl (vq p l.wD C E y (λU i G H I=>?_) λq=>?_)
      . have K:=(g U i G H I).2
        apply rn;simp[a,f];refine cf Tryz.func22 rfl (ni p l.wD n y ?_);rw[aay o];apply rn;simp[a,f,K];refine af.gX (λenv _=>env 3=.cp (dB w) 0/\env 6=int c/\env 14=bool false/\env 15=int 0/\∃e v,env 8=int e/\env 7=int v/\(e=11/\72<cd w c\/e=0/\cd w c<=72/\v=eS w c)) ?_ ?_
        . refine⟨?_,?_,?_,?_,0,v,?_,?_,.inr ⟨rfl,J o,z⟩⟩<;>simp[a,f,K]
        . exact key
      . apply rn
        simp[a,f];refine cf Tryz.func22 rfl (ni p l.wD n y ?_);rw[aay o];apply rn;simp[a,f];refine af.gX (λenv _=>env 3=.cp (dB w) 0/\env 6=int c/\env 14=bool false/\env 15=int 0/\∃e v,env 8=int e/\env 7=int v/\(e=11/\72<cd w c\/e=0/\cd w c<=72/\v=eS w c)) ?_ ?_
        . refine⟨?_,?_,?_,?_,0,v,?_,?_,.inr ⟨rfl,J o,z⟩⟩<;>simp[a,f]
        . exact key
   case p3=>
   clear a f env;rintro env A ⟨a,f,qg,pR,e,v,k,j,L⟩;refine af.loop w.fair.aD.length (λi s=>∃env σ',s=⟨env,σ',[],.no⟩/\env 3=.cp (dB w) 0/\env 6=int c/\env 7=int v/\env 8=int e/\env 14=bool (wi w c i)/\env 15=int i) ⟨env,A,rfl,a,f,j,k,by rw[qg];rfl,pR⟩ ?_;clear a f j k qg pR env A;rintro c1 i _ hi ⟨env,A,rfl,a,f,j,k,qg,pR⟩ M;apply rn;simp[a,f,j,k,qg,pR];apply aH.intro<;>intro Q<;>simp at Q<;>simp[a,f,j,k,qg,pR,Q]
   . have ow:fh w [72] [(i:Int)] []=0:=Fe V (by simp) (by simp;omega) (by simp)
     refine cf Tryz.func28 rfl (Qu p l.wD C (by omega) ow ?_);have a9:=OS w 72 i;have N:=kD (vp w 72 i) c;have O:=Hc w c i;cases r:wi w c i with
     |true=>rw[r]at qg;apply rn;simp[a,f,j,k,qg,pR];refine⟨by omega,M _ Q ⟨_,_,rfl,by simp[a,f,j,k,qg,pR,O,r]⟩⟩
     | false=>
       rw[r]at qg;apply rn;simp[a,f,j,k,qg,pR];refine cf Tryz.func24 rfl (qw (by omega) ?_);apply rn;simp[a,f,j,k,qg,pR];refine⟨by omega,M _ Q ⟨_,_,rfl,by simp[a,f,j,k,qg,pR,O,r,N]⟩⟩
   . have ei:i=w.fair.aD.length:=by omega
     subst ei;rw[D e v L]at qg;rcases L with⟨rfl,o⟩|⟨rfl,o,ab⟩
     . have qg:env 14=bool false:=by grind
       simp[a,f,j,k,qg,pR];refine⟨by omega,S _ t ⟨_,_,rfl,by simp[a,f,j,k,qg,pR]⟩⟩
     . by_cases W:v=2
       . have qg:env 14=bool false:=by grind
         rw[W]at j;simp[a,f,j,k,qg,pR];refine⟨by omega,S _ t ⟨_,_,rfl,by simp[a,f,j,k,qg,pR]⟩⟩
       . have qg:env 14=bool true:=by grind
         have hb:(v !=2)=true:=by simp[W]
         simp[a,f,j,k,qg,pR,hb];refine⟨by omega,S _ t ⟨_,_,rfl,by simp[a,f,j,k,qg,pR]⟩⟩
 . refine cf Tryz.func16 rfl (OJ p ?_)
   apply rn;simp[a,f];exact .done (h _)

import Derived.Test.YtkcceaplmgdnfaaGreatDoorC36
set_option linter.all false
set_option maxHeartbeats 2000000
set_option maxRecDepth 4000
namespace Go.Proofs.YtkcceaplmgdnfaaGreatDoor
open Go.Proofs.Tryz (prog)
open Go.bQ Go.Conc
variable{m:Mo}{σ:aa}{KF:abT}
structure NU(dS:Int)(e:mN):Prop where
 hour:0<=e.hour/\e.hour<=72
 place:0<=e.place/\e.place<dS
 cW:0<=e.cW/\e.cW<=1
 marks:e.marks.Sublist [0,1,2]
 bq:0<=e.bq/\e.bq<=30
 jG:0<=e.jG/\e.jG<=2
theorem NU.check{dS:Int}{e:mN}(h:NU dS e):cM dS e=0:=by
 obtain⟨b,c,d,a,f,g⟩:=h;have a:=(lr a).1;unfold cM bD
 grind
structure Gf(cnt:Int)(f:Fr)(ks:acp):Prop where
 qO:f.Good
 len:(f.aD.length:Int)<=cnt
 dS:f.roads.length<=3
 row:∀r∈f.roads,r.length<=3
 marks:∀e∈f.aD,e.marks.length<=3
 aX:f.aX<=3
 seen:∃(aX:Nat) (C H:acp) (last:acC),Seen f aX C H ks f.aD last/\(aX:Int)=f.aX
theorem AH{k:Nat}:∀(es:acw) (i:Nat) (x:AV),i<es.length->(∀e∈es,e.cells.length=k)->x.cells.length=k->(flatten es).take (i*k)++x.cells++(flatten es).drop (i*k+k)=flatten (es.set i x)
 | e::es,0,x,_,a,b=>by
   have c:=a e (by simp);rw[List.set_cons_zero,flatten_cons,flatten_cons]
   grind
 | e::es,i+1,x,g,a,b=>by
   have c:=a e (by simp);have d:=AH es i x (by simp_all) (λy f=>a y (by simp[f])) b;rw[List.set_cons_succ,flatten_cons,flatten_cons,<-d,aaU,Nat.one_mul,abo,List.drop_append];rw[aag (by omega),List.drop_eq_nil_of_le (by omega),c,show i*k+k-k=i*k by omega,show i*k+k+k-k=i*k+k by omega];simp
theorem NV{f:Fr}{n:mN}{h:Int}(g:f.aR<=f.eS)(i:0<=n.jG/\n.jG<=2)(hb:(n.jG≠1/\n.bq=h)\/(n.jG≠0/\∃y,f.aR<=y/\y<=f.eS/\n.bq=h+y)):h∈bV f n:=by
 have a:n.jG≠1->n.bq∈bV f n:=λc=>by
  unfold bV
  grind
 have b:∀x,x∈iX f n->x∈bV f n:=λx j=>by
  unfold bV
  grind
 rcases hb with⟨c,rfl⟩|⟨d,y,k,l,e⟩
 . exact a c
 . refine b _ ?_
   unfold iX;rw[if_pos d];exact List.mem_map.2 ⟨(f.eS-y).toNat,List.mem_range.2 (by omega),by omega⟩
theorem tE{σ0 σ c σ':aa}{a:AV}{kk:Nat}{es:acw}(h:Tok σ0 σ a kk es)(d:c.Le σ')(hb:∀b,bp a=some b->σ' b=σ b/\c b=none):Tok c σ' a kk es:=by
 refine⟨d,?_⟩;rcases h.2 with q|q|⟨b,e,g,f,i⟩
 . exact .inl q
 . simp_all
 . obtain⟨j,k⟩:=hb b (by rw[f];rfl)
   grind
theorem Hu{σ0 σ σ2:aa}{a:AV}{kk:Nat}{es:acw}{c:Nat}(h:cq σ0 σ a kk es)(i:σ0 c=none)(f:eM a≠some c)(d:∀y,y≠c->σ2 y=σ y):cq σ0 σ2 a kk es:=h.keep (λy x g=>by rw[d y (λe=>by simp_all)];exact h.1 y x g) λb hb=>⟨d b (λe=>f (e ▸ hb)),(h.lE hb).1⟩
theorem PE{σ0 σ σ':aa}{a c j:AV}{kk k m:Nat}{es n o:acw}(h:Tok σ0 σ a kk es)(f:cq σ0 σ c k n)(g:cq (σ.Ba c) σ' j m o):Tok σ0 σ' a kk es:=
 tE h (aa.le_trans f.here.2 g.1) λb hb=>by
  obtain⟨p,e,i⟩:=h.aV hb;have d:eM c≠some b:=λq=>by obtain⟨_,l,r⟩:=f.lE q;simp_all
  exact⟨by rw[i];exact g.1 b _ (by rw[aa.qo d];exact i),p⟩
theorem PF{σ0 σ σ':aa}{a c j:AV}{kk k m:Nat}{es n o:acw}(h:cq σ0 σ a kk es)(f:Tok σ0 σ c k n)(g:Tok (σ.off c) σ' j m o):cq σ0 σ' a kk es:=
 h.keep (aa.le_trans f.here.2 g.1) λb hb=>by
  obtain⟨p,l,i⟩:=h.lE hb;have d:bp c≠some b:=λq=>by obtain⟨_,e,r⟩:=f.aV q;simp_all
  exact⟨by rw[i];exact g.1 b _ (by rw[aa.dO d];exact i),p⟩
theorem kT{env:Env}{t u:Nat}{v:AV}(h:u≠t):(env.upd t v) u=env u:=by simp_all
theorem SF{env:Env}{t:Nat}{v:AV}:(env.upd t v) t=v:=by simp_all
structure Hv(V:Nat->AV)(zr:Env)(σ6:aa)(c c13 K:Nat)(nums:acp)(T:Int)(X:Int->acw)(done:acr)(env:Env)(σ:aa):Prop where
 base:∀s,s<97->env s=zr s
 dJ:∀i,i∈done->i≠33->i≠34->i<36->env (97+i)=V i
 pre:33∉done->σ=σ6
 post:33∈done->36∉done->bj c nums K σ/\∀y,y≠c->σ y=σ6 y
 pick:33∈done->∃p:Int,(0<=p/\p<=3)/\env 130=int p/\(34∈done->env 131=int (T+p))
 all:36∈done->∀j,j<36->j∈done
 dep:34∈done->33∈done
 fin:36∈done->∃p:Int,(0<=p/\p<=3)/\bj c nums K σ/\σ c13=some (.cells (X (T+p)))/\∀y,y≠c->y≠c13->σ y=σ6 y
section
variable{V:Nat->AV}{zr env:Env}{σ6:aa}{c c13 K:Nat}{nums:acp}{T:Int}{X:Int->acw}{done:acr}
theorem Hv.PG(h:Hv V zr σ6 c c13 K nums T X done env σ){i:Nat}(hi:i<36)(b:i∉done):36∉done:=λa=>b (h.all a i hi)
theorem Hv.keep(h:Hv V zr σ6 c c13 K nums T X done env σ){i:Nat}(hi:i<36)(a:i∉done){y:Nat}(b:y≠c):σ y=σ6 y:=by
 by_cases q:33∈done
 . exact(h.post q (h.PG hi a)).2 y b
 . rw[h.pre q]
theorem Hv.next(h:Hv V zr σ6 c c13 K nums T X done env σ){i:Nat}(hi:i<36)(m:i∉done)(w:i≠33)(x:i≠34){a:AV}(y:a=V i):Hv V zr σ6 c c13 K nums T X (i::done) (env.upd (97+i) a) σ:=by
 have b:33∈i::done↔33∈done:=by grind
 have f:34∈i::done↔34∈done:=by grind
 have k:=h.PG hi m;have d:36∉i::done:=by grind
 refine⟨λs n=>?_,λj o r t u=>?_,λq=>h.pre λl=>q (b.2 l),λq _=>h.post (b.1 q) k,λq=>?_,λq=>absurd q d,λq=>b.2 (h.dep (f.1 q)),λq=>absurd q d⟩
 . rw[kT (by omega)];exact h.base s n
 . by_cases e:j=i
   . simp_all
   . rw[kT (by omega)]
     exact h.dJ j ((List.mem_cons.1 o).resolve_left e) r t u
 . obtain⟨p,v,l,z⟩:=h.pick (b.1 q)
   exact⟨p,v,by rw[kT (by omega)];exact l,λg=>by rw[kT (by omega)];simp_all⟩
theorem Hv.RI(h:Hv V zr σ6 c c13 K nums T X done env σ)(l:33∉done)(b:34∉done){p:Int}(m:0<=p/\p<=3){σ':aa}(hb:bj c nums K σ')(d:∀y,y≠c->σ' y=σ6 y):Hv V zr σ6 c c13 K nums T X (33::done) (env.upd 130 (int p)) σ':=by
 have e:=h.PG (i:=33) (by omega) l;have a:36∉33::done:=by simp[e]
 have f:34∉33::done:=by simp[b]
 refine⟨λs d=>?_,λj n k o r=>?_,λq=>absurd (by simp) q,λ_ _=>⟨hb,d⟩,λq=>⟨p,m,by simp_all,λg=>absurd g f⟩,λq=>absurd q a,λ_=>by simp,λq=>absurd q a⟩
 . rw[kT (by omega)];exact h.base s d
 . rw[kT (by omega)]
   exact h.dJ j ((List.mem_cons.1 n).resolve_left k) k o r
theorem Hv.summed(h:Hv V zr σ6 c c13 K nums T X done env σ)(f:34∉done)(a:33∈done){p:Int}(k:0<=p/\p<=3)(r:env 130=int p):Hv V zr σ6 c c13 K nums T X (34::done) (env.upd 131 (int (T+p))) σ:=by
 have b:=h.PG (i:=34) (by omega) f;have d:36∉34::done:=by simp[b]
 refine⟨λs l=>?_,λj m n e o=>?_,λq=>absurd (by simp[a]) q,λ_ _=>h.post a b,λq=>⟨p,k,by simp_all,λg=>by simp_all⟩,λq=>absurd q d,λ_=>by simp[a],λq=>absurd q d⟩
 . rw[kT (by omega)];exact h.base s l
 . rw[kT (by omega)]
   exact h.dJ j ((List.mem_cons.1 m).resolve_left e) n e o
end
theorem Cb{σ0 σ σ':aa}{a c f:AV}{kk j k:Nat}{es l m:acw}(h:Tok σ0 σ a kk es)(n:Tok σ0 σ c j l)(hd:∀b,bp a=some b->bp c≠some b)(d:Tok (σ.off c) σ' f k m):Tok σ0 σ' a kk es/\∀b,bp a=some b->bp f≠some b:=by
 have key:∀b,bp a=some b->(σ.off c) b=σ b:=λb hb=>aa.dO (hd b hb)
 refine⟨tE h (aa.le_trans n.here.2 d.1) λb hb=>?_,λb hb q=>?_⟩
 . obtain⟨g,e,i⟩:=h.aV hb
   exact⟨by rw[i];exact d.1 b _ (by simp_all),g⟩
 . obtain⟨g,e,i⟩:=h.aV hb
   obtain⟨o,_,_⟩:=d.aV q
   simp_all
section
variable{c k:Nat}{nums:acp}
theorem JH{cnt : Int}(hk:k+500<1000000)(hn:nums.length<1152921504606846976)(tr:1<=cnt/\cnt<=6)(hb:bj c nums k σ)(h:∀(f:Fr) (ks:acp) σ',Gf cnt f ks->pn c nums (k+500) σ σ'->KF (.val (.cB [dB f,ints ks])) σ'):aA prog m 40 [.ref c 0,int cnt] σ KF:=by
 obtain⟨n0,s0,_,oL⟩:=id hb;refine fs Wb 2 Tryz.func40 rfl rfl (by rfl) (by kernel_rfl) ?_
 simp[Tryz.f40];refine bR.intro λX h4=>?_
 have n4:c≠X:=λe=>by simp_all
 have hX:∀x,bj c nums k (σ.set X x):=λx=>⟨n0,s0,by assumption,by rw[aa.ai _ _ n4];exact oL⟩
 simp;refine cf Tryz.func83 rfl (FT (cnt:=0) (by omega) hn ⟨by omega,by omega⟩ (hX _) λf0 a0 hY Z ei oM=>?_)
 obtain rfl:=oM.1 (List.length_eq_zero_iff.1 (by have:=Z.len;omega))
 have bx:X≠c:=za n4;have oN:hY X=some (.cells fV):=by rw[ei.2 X bx,aa.ak]
 refine rn ?_;simp;refine bR.intro λP h6=>?_
 have n6:P≠c:=λe=>by subst e;obtain⟨_,_,_,q⟩:=ei.1;simp_all
 have fp:P≠X:=λe=>by simp_all
 have oS:σ P=none:=by rw[ei.2 P n6,aa.ai _ _ fp]at h6;exact h6
 simp
 have h2:∀x,bj c nums (k+20) (hY.set P x):=λx=>by obtain⟨n,z,g1,g2⟩:=ei.1;exact⟨n,z,g1,by rw[aa.ai _ _ (za n6)];exact g2⟩
 refine cf Tryz.func19 rfl (eH (by omega) hn ⟨by omega,by omega⟩ ⟨by omega,by omega⟩ (h2 _) λaX ea wm ft=>?_)
 have t6:ea P=some (.cells [.lit (.slice none 0 0),rows f0.roads,int f0.aR,int f0.eS,int f0.cQ,int f0.aX]):=by rw[ft.2 P n6,aa.ak]
 have t4:ea X=some (.cells fV):=by rw[ft.2 X bx,aa.ai _ _ (za fp)];exact oN
 refine rn ?_;simp[t6,aJ];obtain⟨mo,rfl⟩:∃mo:Nat,aX=(mo:Int):=⟨aX.toNat,by omega⟩
 have wK:1<=mo/\mo<=3:=by omega
 have h3:=Z.dS;obtain⟨A6,ej⟩:∃A6:AV->acw,A6=λa=>[a,rows f0.roads,int f0.aR,int f0.eS,int f0.cQ,int mo]:=⟨_,rfl⟩
 have p0:∀a,(A6 a).length=6:=λa=>by grind
 have b4:σ.del c c=none:=by simp[aa.del]
 have hZ:bj c nums (k+21) (ea.set P (.cells (A6 (.lit (.slice none 0 0))))):=by obtain⟨n,z,g1,g2⟩:=ft.1;exact⟨n,z,by omega,by rw[aa.ai _ _ (za n6)];exact g2⟩
 have al:(σ.del c).Le (ea.set P (.cells (A6 (.lit (.slice none 0 0))))):=λy x hy=>by
  have Y:y≠c:=λe=>by simp_all
  have y0:σ y=some x:=by simpa[aa.del,Y]using hy
  have y6:y≠P:=λe=>by simp_all
  have y4:y≠X:=λe=>by simp_all
  rw[aa.ai _ _ y6,ft.2 y Y,aa.ai _ _ y6,ei.2 y Y,aa.ai _ _ y4];exact y0
 have p5:σ.del c P=none:=by simp[aa.del,oS]
 have wL:σ.del c X=none:=by simp[aa.del,h4]
 have ic:(ea.set P (.cells (A6 (.lit (.slice none 0 0))))) X=some (.cells fV):=by rw[aa.ai _ _ (za fp)];exact t4
 refine ab.loop mo (λi s=>∃env σ' la ha L H,s=⟨env,σ',[],.no⟩/\env 0=.ref c 0/\env 1=int cnt/\env 4=.ref X 0/\env 6=.ref P 0/\env 7=la/\env 8=ha/\env 9=int i/\bj c nums (k+21+12*i) σ'/\σ' X=some (.cells fV)/\σ' P=some (.cells (A6 (.lit (.slice none 0 0))))/\cq (σ.del c) σ' la 6 (L.map br)/\Tok (σ.del c) σ' ha 1 (H.map int)/\eM la≠some c/\eM la≠some X/\eM la≠some P/\L.length=i/\H.length=i/\(∀e∈L,ye f0.roads.length e)/\(∀x∈H,13<=x/\x<=16))
  ⟨_,ea.set P (.cells (A6 (.lit (.slice none 0 0)))),.lit (.slice none 0 0),.lit (.slice none 0 0),[],[],by rw[ej],by simp,by simp,by simp,by simp,by simp,by simp,by simp,hZ,ic,aa.ak _ _ _,⟨al,.inl ⟨rfl,.inl rfl⟩⟩,⟨al,.inl ⟨rfl,rfl⟩⟩,by simp[eM],by simp[eM],by simp[eM],rfl,rfl,by simp⟩ ?_
 clear hZ al ic
 rintro c0 i _ hi ⟨env,σ',la,ha,L,H,rfl,D,e1,G,E,F,J,e9,fu,q4,q6,ep,et,ev,fv,fw,ie,p6,h5,ix⟩ ih
 have b5:=ep.cells;have d:=et.cells;have a7:σ' P=some (.cells [.lit (.slice none 0 0),rows f0.roads,int f0.aR,int f0.eS,int f0.cQ,int mo]):=by rw[q6,ej]
 rcases ZU i mo with g1|g1
 . have k0:(i:Int)<mo:=by omega
   have f1:-9223372036854775808<=(i:Int)+1/\(i:Int)+1<=9223372036854775807:=by omega
   refine rn ?_;simp[D,e1,G,E,F,J,e9,a7,b5.1,b5.2,d.1,d.2,g1];refine cf Tryz.func84 rfl (oE (by omega) hn ⟨by omega,by omega⟩ fu λe a8 he U=>?_)
   have k2:∃l,σ' c=some (.cells l):=by obtain⟨_,_,_,q⟩:=fu;exact⟨_,q⟩
   have ey:=Hu ep b4 ev U.2;have k3:=qD et b4 k2 U.2;have eA:a8 X=some (.cells fV):=by rw[U.2 X bx];exact q4
   have eB:a8 P=some (.cells (A6 (.lit (.slice none 0 0)))):=by rw[U.2 P n6];exact q6
   refine rn ?_;simp[D,e1,G,E,F,J,e9,a7,b5.1,b5.2,d.1,d.2];refine jj lay rfl rfl rfl na rfl na rfl ze (by decide) (by simp;omega) (σ0:=a8.Ba la) (es:=L.map br) (xs:=[br e]) (by simpa using ey.here.1) (.inl (.inr ⟨_,by simp;rfl⟩)) (by simp) λfx aO av=>?_
   have k4:∀y l,eM la≠some y->a8 y=some l->aO y=some l:=λy l hy hl=>av.1 _ _ (by rw[aa.qo hy];exact hl)
   have k5:=PE k3 ey av;have h7:=av.base ey.here.2
   have k7:bj c nums (k+21+12*i+11) aO:=by obtain⟨n,z,g1,g2⟩:=U.1;exact⟨n,z,g1,k4 _ _ ev g2⟩
   have gx:eM fx≠some c:=λq=>by obtain⟨g,_⟩:=av.lE q;obtain⟨_,_,_,g2⟩:=U.1;rw[aa.qo ev,g2]at g;cases g
   have k8:eM fx≠some X:=λq=>by obtain⟨g,_⟩:=av.lE q;rw[aa.qo fv,eA]at g;cases g
   have kt:eM fx≠some P:=λq=>by obtain⟨g,_⟩:=av.lE q;rw[aa.qo fw,eB]at g;cases g
   have aL:=av.cells;refine rn ?_;simp[D,J,aL.1,aL.2];refine cf Tryz.func19 rfl (eH (by omega) hn ⟨by omega,by omega⟩ ⟨by omega,by omega⟩ k7 λx eb p7 b1=>?_)
   have kv:∃l,aO c=some (.cells l):=by obtain⟨_,_,_,q⟩:=k7;exact⟨_,q⟩
   have c9:=qD k5 b4 kv b1.2;have kx:=Hu h7 b4 gx b1.2;refine rn ?_;simp[D,J,aL.1,aL.2,d.1,d.2];refine aK lay rfl rfl rfl dh rfl dh rfl qM (by decide) (by simp;omega) (σ0:=eb.off ha) (es:=H.map int) (xs:=[int x]) (by simpa using c9.here.1) (.inr ⟨_,by simp;rfl⟩) λp8 σ6 ca=>?_
   have ky:=PF kx c9 ca;have h8:=ca.base c9.here.2;have gA:=ca.cells;have k6:∀y l,eb y=some (.cells l)->σ6 y=some (.cells l):=λy l hy=>ca.1 _ _ (by rw[aa.dO (λe=>by obtain⟨_,_,q⟩:=c9.aV e;rw[hy]at q;cases q)];exact hy)
   have pa:σ6 X=some (.cells fV):=k6 _ _ (by rw[b1.2 X bx];exact k4 _ _ fv eA)
   have pb:σ6 P=some (.cells (A6 (.lit (.slice none 0 0)))):=k6 _ _ (by rw[b1.2 P n6];exact k4 _ _ fw eB)
   have b2:bj c nums (k+21+12*(i+1)) σ6:=by obtain⟨n,z,g1,g2⟩:=b1.1;exact⟨n,z,by omega,k6 _ _ g2⟩
   refine rn ?_;simp[D,e9,f1.1,f1.2,aL.1,aL.2,gA.1,gA.2];refine ih _ g1 ⟨_,σ6,fx,p8,L++[e],H++[x],rfl,by simp[D],by simp[e1],by simp[G],by simp[E],by simp,by simp,by simp,b2,pa,pb,by simpa using ky,by simpa using h8,gx,k8,kt,by simp[ie],by simp[p6],λy hy=>?_,λy hy=>?_⟩
   . rcases List.mem_append.1 hy with hy|hy
     . exact h5 y hy
     . simp at hy;subst hy;exact he
   . rcases List.mem_append.1 hy with hy|hy
     . exact ix y hy
     . simp at hy;omega
 . have pd:i=mo:=by omega
   subst pd;clear ih
   obtain⟨Q,cap,rest,rfl,r1,r2,r3,r4,r5⟩:∃Q cap rest,la=.gW Q 0 i cap/\σ.del c Q=none/\i<=cap/\(∀e∈L.map br,e.cells.length=6)/\σ' Q=some (.cells (flatten (L.map br)++rest))/\rest.length=(cap-i)*6:=by
    have eK:(L.map br).length=i:=by simp_all
    rcases ep.2 with⟨e,_⟩|⟨b,cap,rest,g1,g2,g3,g4,g5,g6⟩
    . grind
    . rw[eK]at g1 g3 g6
      grind
   have ay:Q≠c:=λe=>ev (by rw[e];rfl)
   have pk:Q≠X:=λe=>fv (by rw[e];rfl)
   have h9:Q≠P:=λe=>fw (by rw[e];rfl)
   have ts:σ Q=none:=by simpa[aa.del,ay]using r1
   refine ab.Ew 8 (a':=ints H) (by rw[J];simpa using et.W) ?_
   have b8:=et.1;clear ep et b5 d ev fv fw J;refine rn ?_;simp[D,e1,G,E,F,e9,a7];refine cf Tryz.func19 rfl (eH (by omega) hn ⟨by omega,by omega⟩ ⟨by omega,by omega⟩ fu λq a8 hq U=>?_)
   have eA:a8 X=some (.cells fV):=by rw[U.2 X bx];exact q4
   have eB:a8 P=some (.cells (A6 (.lit (.slice none 0 0)))):=by rw[U.2 P n6];exact q6
   have l1:a8 Q=some (.cells (flatten (L.map br)++rest)):=by rw[U.2 Q ay];exact r4
   have al:(σ.del c).Le a8:=λy x hy=>by
    have Y:y≠c:=λe=>by simp_all
    rw[U.2 y Y];exact b8 y x hy
   obtain⟨qn,rfl⟩:∃qn:Nat,q=(qn:Int):=⟨q.toNat,by omega⟩
   have wN:1<=qn/\qn<=6:=by omega
   have gB:bj c nums (k+60) a8:=U.1.mono (by omega)
   obtain⟨C,hC⟩:∃C,C=L.map (·.cW):=⟨_,rfl⟩;obtain⟨f1,eN⟩:∃f1:Fr,f1=⟨[],f0.roads,f0.aR,f0.eS,f0.cQ,(i:Int)⟩:=⟨_,rfl⟩
   have cb:Seen f1 i C H [] [] L:=⟨rfl,by simp,by simp,λj hj=>by simp at hj,λj hj=>by simp at hj,λa b _ hb=>by simp at hb,λj hj=>by simp at hj,λj hj=>by simp_all,ie⟩
   have gC:∀e∈L,NU f0.roads.length e:=λe he=>by have:=h5 e he;exact⟨⟨this.hour.1,by have:=this.hour;omega⟩,this.place,this.cW,this.marks,⟨by have:=this.bq;omega,by have:=this.bq;omega⟩,this.jG⟩
   refine rn ?_;simp[D,e1,G,E,F,e9,a7];have l2:=D;have l3:=G;have l4:=E;have l5:=F;clear D e1 G E F e9 a7 h5 r3
   refine ab.loop qn (λj s=>∃env σ' a hh M es ks,s=⟨env,σ',[],.no⟩/\env 0=.ref c 0/\env 4=.ref X 0/\env 6=.ref P 0/\env 7=.gW Q 0 i cap/\env 8=ints H/\env 10=hh/\env 11=int ((qn:Int)-j)/\bj c nums (k+60+16*j) σ'/\σ' X=some (.cells fV)/\σ' P=some (.cells (A6 a))/\σ' Q=some (.cells (flatten (M.map br)++rest))/\Tok (σ.del c) σ' a 6 (es.map br)/\Tok (σ.del c) σ' hh 1 (ks.map int)/\(∀b,bp a=some b->bp hh≠some b)/\Seen f1 i C H ks es M/\(∀e∈M,NU f0.roads.length e)/\(∀e∈es,e.marks.length<=3)/\es.length<=j)
    ⟨_,a8,.lit (.slice none 0 0),.lit (.slice none 0 0),L,[],[],rfl,by simp[l2],by simp[l3],by simp[l4],by simp[l5],by simp,by simp,by simp,gB,eA,eB,l1,⟨al,.inl ⟨rfl,rfl⟩⟩,⟨al,.inl ⟨rfl,rfl⟩⟩,λb hb=>by simp[bp]at hb,cb,gC,by simp⟩ ?_
   clear l2 l3 l4 l5 gB eA eB l1 al b8 cb gC q4 q6 fu U r4
   rintro c1 j _ hj ⟨env,σ',a,hh,M,es,ks,rfl,D,G,E,F,J,bK,bG,ho,q4,q6,ql,b9,ec,gD,O,fO,hv,wS⟩ ih
   have o:=b9.cells;have d:=ec.cells;have a7:σ' P=some (.cells [a,rows f0.roads,int f0.aR,int f0.eS,int f0.cQ,int i]):=by rw[q6,ej]
   rcases ZU j qn with g1|g1
   . have k0 : (0 : Int)<(qn:Int)-j:=by omega
     have Ev:(j:Int)<qn:=by omega
     have f2:-9223372036854775808<=(i:Int)-1/\(i:Int)-1<=9223372036854775807:=by omega
     have f3:-9223372036854775808<=(qn:Int)-j-1/\(qn:Int)-j-1<=9223372036854775807:=by omega
     refine rn ?_;simp[D,G,E,F,J,bK,bG,o.1,o.2,d.1,d.2,k0,Ev,g1,a7,f2.1,f2.2];refine cf Tryz.func18 rfl (fa (by omega) hn ⟨by omega,by omega⟩ ho λkk a8 x0 U=>?_)
     obtain⟨R,rfl⟩:∃R:Nat,kk=(R:Int):=⟨kk.toNat,by omega⟩
     have bA:R<i:=by omega
     have w6:a8 P=some (.cells [a,rows f0.roads,int f0.aR,int f0.eS,int f0.cQ,int i]):=by rw[U.2 P n6];exact a7
     refine rn ?_;simp[D,G,E,F,J,bK,bG,o.1,o.2,d.1,d.2,w6];refine cf Tryz.func84 rfl (oE (by omega) hn ⟨by omega,by omega⟩ U.1 λe aO he hz=>?_)
     have bB:∀y,y≠c->aO y=σ' y:=λy hy=>(hz.2 y hy).trans (U.2 y hy)
     have w6:aO P=some (.cells [a,rows f0.roads,int f0.aR,int f0.eS,int f0.cQ,int i]):=by rw[bB P n6];exact a7
     have wl:aO Q=some (.cells (flatten (M.map br)++rest)):=by rw[bB Q ay];exact ql
     have w4:aO X=some (.cells fV):=by rw[bB X bx];exact q4
     refine rn ?_;simp[D,G,E,F,J,bK,bG,o.1,o.2,d.1,d.2,w6];refine bR.intro λc13 l6=>?_
     have m0:c13≠c:=λe=>by subst e;obtain⟨_,_,_,q⟩:=hz.1;simp_all
     have m4:c13≠X:=λe=>by subst e;simp_all
     have m6:c13≠P:=λe=>by subst e;simp_all
     have ml:c13≠Q:=λe=>by subst e;simp_all
     have gd:R<M.length:=by rw[O.Rv];exact bA
     obtain⟨el,eK⟩:∃el,el=M[R]:=⟨_,rfl⟩;have bm:=fO el (by rw[eK];exact zD gd)
     obtain⟨CL,eR⟩:∃CL,CL=flatten (M.map br)++rest:=⟨_,rfl⟩;rw[<-eR]at wl;have hA:∀x∈M.map br,x.cells.length=6:=λx hx=>by obtain⟨y,_,rfl⟩:=List.mem_map.1 hx;rfl
     have gG:(flatten (M.map br)).length=M.length*6:=by rw[bt (kk:=6) hA,ZE]
     have cg:∀t,t<6->CL[R*6+t]?=(br el).cells[t]?:=λt ht=>by
      rw[eR,ZS (by omega)]
      exact mr (kk:=6) hA (by rw[ZT,zU gd,eK];rfl) t ht
     have l7:=cg 0 (by omega)
     have lj:=cg 1 (by omega)
     have lp:=cg 2 (by omega)
     have lx:=cg 3 (by omega)
     simp at l7 lj lp lx;simp[D,G,E,F,J,bK,bG,o.1,o.2,d.1,d.2,wl,aa.ai,za ml,bA,lp,aJ]
     have ps:∀x,bj c nums (k+60+16*j+12) (aO.set c13 x):=λx=>by obtain⟨n,z,g1,g2⟩:=hz.1;exact⟨n,z,by omega,by rw[aa.ai _ _ (za m0)];exact g2⟩
     refine cf Tryz.func18 rfl (fa (by omega) hn ⟨by omega,by omega⟩ (ps _) λsh eb p7 b1=>?_)
     have hB:eb c13=some (.cells [int e.hour,int e.place,int el.cW,ints e.marks,int e.bq,int e.jG]):=by rw[b1.2 c13 m0,aa.ak]
     have ed:R<H.length:=by omega
     obtain⟨h0,ee⟩:∃h0,h0=H[R]:=⟨_,rfl⟩;have v3:13<=h0/\h0<=16:=ix _ (by rw[ee];exact zD ed)
     have hD:(H.map int)[R]?=some (int h0):=by rw[ZT,zU ed,ee];rfl
     have lA:sh=0\/sh=1\/sh=2:=by omega
     have gH:0<=sh/\sh<=2:=by omega
     have lB:f0.aR<=f0.eS:=Z.to.1;have x3:0<=f0.aR/\f0.eS<=2:=⟨Z.fr.1,Z.to.2⟩
     have hE:∀x,bj c nums (k+60+16*j+13) (eb.set c13 x):=λx=>by obtain⟨n,z,g1,g2⟩:=b1.1;exact⟨n,z,by omega,by rw[aa.ai _ _ (za m0)];exact g2⟩
     have hF:∀y,y≠c->y≠c13->eb y=σ' y:=λy Y y2=>by rw[b1.2 y Y,aa.ai _ _ y2,bB y Y]
     have v5:ks.length<1000000:=by rw[O.len];omega
     apply yG (I:=λenv σ6=>∃b,env 0=.ref c 0/\env 4=.ref X 0/\env 6=.ref P 0/\env 7=.gW Q 0 i cap/\env 8=ints H/\env 10=hh/\env 11=int ((qn:Int)-j)/\env 12=int R/\env 13=.ref c13 0/\env 80=bool b/\bj c nums (k+60+16*j+14) σ6/\σ6 c13=some (.cells [int e.hour,int e.place,int el.cW,ints e.marks,int h0,int sh])/\(∀y,y≠c->y≠c13->σ6 y=σ' y)/\(b=true->sh≠0)/\(b=false->sh≠1))
     . intro T
       rcases lA with rfl|rfl|rfl
       . refine ab.runN lay [] 28 ?_
         simp[D,G,E,F,J,bK,bG,o.1,o.2,d.1,d.2,hB,hD,ed,aJ,<-ee]
         refine T _ _ ⟨false,by simp[D,G,E,F,J,bK,bG,o.1,o.2,d.1,d.2],by simp[D,G,E,F,J,bK,bG,o.1,o.2,d.1,d.2],by simp[D,G,E,F,J,bK,bG,o.1,o.2,d.1,d.2],by simp[D,G,E,F,J,bK,bG,o.1,o.2,d.1,d.2],by simp[D,G,E,F,J,bK,bG,o.1,o.2,d.1,d.2],by simp[D,G,E,F,J,bK,bG,o.1,o.2,d.1,d.2],by simp[D,G,E,F,J,bK,bG,o.1,o.2,d.1,d.2],by simp[D,G,E,F,J,bK,bG,o.1,o.2,d.1,d.2],by simp[D,G,E,F,J,bK,bG,o.1,o.2,d.1,d.2],by simp[D,G,E,F,J,bK,bG,o.1,o.2,d.1,d.2],(hE _).mono (by omega),aa.ak _ _ _,λy Y y2=>by rw[aa.ai _ _ y2];exact hF y Y y2,by simp⟩
       . refine ab.runN lay [] 28 ?_
         simp[D,G,E,F,J,bK,bG,o.1,o.2,d.1,d.2,hB,hD,ed,aJ,<-ee]
         refine T _ _ ⟨true,by simp[D,G,E,F,J,bK,bG,o.1,o.2,d.1,d.2],by simp[D,G,E,F,J,bK,bG,o.1,o.2,d.1,d.2],by simp[D,G,E,F,J,bK,bG,o.1,o.2,d.1,d.2],by simp[D,G,E,F,J,bK,bG,o.1,o.2,d.1,d.2],by simp[D,G,E,F,J,bK,bG,o.1,o.2,d.1,d.2],by simp[D,G,E,F,J,bK,bG,o.1,o.2,d.1,d.2],by simp[D,G,E,F,J,bK,bG,o.1,o.2,d.1,d.2],by simp[D,G,E,F,J,bK,bG,o.1,o.2,d.1,d.2],by simp[D,G,E,F,J,bK,bG,o.1,o.2,d.1,d.2],by simp[D,G,E,F,J,bK,bG,o.1,o.2,d.1,d.2],(hE _).mono (by omega),aa.ak _ _ _,λy Y y2=>by rw[aa.ai _ _ y2];exact hF y Y y2,by simp⟩
       . refine ab.runN lay [] 28 ?_
         simp[D,G,E,F,J,bK,bG,o.1,o.2,d.1,d.2,hB,hD,ed,aJ,<-ee];refine cf Tryz.func20 rfl (vZ (by omega) hn ⟨by omega,by omega⟩ (hE _) λb σ6 hG=>?_)
         refine ab.runN lay [] 3 ?_;simp[D,G,E,F,J,bK,bG,o.1,o.2,d.1,d.2]
         refine T _ _ ⟨b,by simp[D,G,E,F,J,bK,bG,o.1,o.2,d.1,d.2],by simp[D,G,E,F,J,bK,bG,o.1,o.2,d.1,d.2],by simp[D,G,E,F,J,bK,bG,o.1,o.2,d.1,d.2],by simp[D,G,E,F,J,bK,bG,o.1,o.2,d.1,d.2],by simp[D,G,E,F,J,bK,bG,o.1,o.2,d.1,d.2],by simp[D,G,E,F,J,bK,bG,o.1,o.2,d.1,d.2],by simp[D,G,E,F,J,bK,bG,o.1,o.2,d.1,d.2],by simp[D,G,E,F,J,bK,bG,o.1,o.2,d.1,d.2],by simp[D,G,E,F,J,bK,bG,o.1,o.2,d.1,d.2],by simp[D,G,E,F,J,bK,bG,o.1,o.2,d.1,d.2],hG.1,by rw[hG.2 c13 m0,aa.ak],λy Y y2=>by rw[hG.2 y Y,aa.ai _ _ y2];exact hF y Y y2,by simp⟩
     clear D G E F J bK bG
     rintro env σ6 ⟨b,D,G,E,F,J,bK,bG,cD,K,gf,b2,a9,aC,m1,m2⟩
     apply yG (I:=λenv σ6=>∃ht,env 0=.ref c 0/\env 4=.ref X 0/\env 6=.ref P 0/\env 7=.gW Q 0 i cap/\env 8=ints H/\env 10=hh/\env 11=int ((qn:Int)-j)/\env 12=int R/\env 13=.ref c13 0/\env 95=int (qN ks R)/\bj c nums (k+60+16*j+15) σ6/\σ6 c13=some (.cells [int e.hour,int e.place,int el.cW,ints e.marks,int ht,int sh])/\(∀y,y≠c->y≠c13->σ6 y=σ' y)/\((sh≠1/\ht=h0)\/(sh≠0/\∃y,f0.aR<=y/\y<=f0.eS/\ht=h0+y)))
     . intro T
       have hW:Wl [hh,int R] [ints ks,int R]:=.cons (by simpa using ec.W) (.cons (.refl _) .nil)
       cases b
       . refine rn ?_
         simp[D,G,E,F,J,bK,bG,cD,K,gf];refine cu Tryz.func24 rfl rfl hW (ta (by omega) ?_)
         refine T _ _ ⟨h0,?_,?_,?_,?_,?_,?_,?_,?_,?_,?_,b2.mono (by omega),a9,aC,.inl ⟨m2 rfl,rfl⟩⟩<;>simp[D,G,E,F,J,bK,bG,cD,K,gf]
       . have v6 : σ6 P=some (.cells [a,rows f0.roads,int f0.aR,int f0.eS,int f0.cQ,int i]):=by rw[aC P n6 (za m6)];exact a7
         have x4:=Z.fr;have ep:=Z.to;refine rn ?_;simp[D,G,E,F,J,bK,bG,cD,K,gf,a9,v6,aJ]
         repeat' (first
                   |apply And.intro
                   | (refine cf Tryz.func19 rfl (eH (by omega) hn ⟨by omega,by omega⟩ ⟨by omega,by omega⟩ b2 λy S hy hH=>?_)
                      have pA:S c13=some (.cells [int e.hour,int e.place,int el.cW,ints e.marks,int h0,int sh]):=by rw[hH.2 c13 m0];exact a9
                      have f4:-9223372036854775808<=h0+y/\h0+y<=9223372036854775807:=by omega
                      refine pg ?_;simp[D,G,E,F,J,bK,bG,cD,K,pA,f4.1,f4.2,aJ];refine rn ?_;simp[D,G,E,F,J,bK,bG,cD,K];refine cu Tryz.func24 rfl rfl hW (ta (by omega) ?_)
                      refine T _ _ ⟨h0+y,by simp[D],by simp[G],by simp[E],by simp[F],by simp[J],by simp[bK],by simp[bG],by simp[cD],by simp[K],by simp,?_,aa.ak _ _ _,λz Y y2=>by rw[aa.ai _ _ y2,hH.2 z Y];exact aC z Y y2,.inr ⟨m1 rfl,y,by omega,by omega,rfl⟩⟩
                      obtain⟨n,z,g1,g2⟩:=hH.1;exact⟨n,z,by omega,by rw[aa.ai _ _ (za m0)];exact g2⟩))
     clear b2 a9 aC D G E F J bK bG cD K gf m1 m2
     rintro env σ6 ⟨ht,D,G,E,F,J,bK,bG,cD,K,ad,b2,a9,aC,m3⟩
     have hK:0<=ht/\ht<=30:=by rcases m3 with⟨_,q⟩|⟨_,y,q1,q2,q3⟩<;>omega
     have aE:=Fr.qO (Z.fits (by omega)) (Z.check (by omega))
     have x5:∀x∈M,x.marks.length<=3:=λx hx=>(lr (fO x hx).marks).2
     have pB:=(lr he.marks).2;have v9:=(lr bm.marks).2;have md:=he.place;have mf:=bm.place;have vc:=bm.hour;have mg:=Z.cQ;apply yG (I:=λenv S=>∃hr,env 0=.ref c 0/\env 4=.ref X 0/\env 6=.ref P 0/\env 7=.gW Q 0 i cap/\env 8=ints H/\env 10=hh/\env 11=int ((qn:Int)-j)/\env 12=int R/\env 13=.ref c13 0/\bj c nums (k+60+16*j+16) S/\S c13=some (.cells [int hr,int e.place,int el.cW,ints e.marks,int ht,int sh])/\(∀y,y≠c->y≠c13->S y=σ' y)/\(0<=hr/\hr<=1000)/\((R:Int)∈ks->Nh f1 el {e with hour:=hr}))
     . intro T
       by_cases hL:(R:Int)∈ks
       . have q2:qN ks R>=0:=(lT ks R).2 hL
         obtain⟨rw,cm⟩:∃rw,rw=f0.roads[el.place.toNat]'(by omega):=⟨_,rfl⟩
         have gI:=aE.row (i:=el.place.toNat) (by omega)
         rw[<-cm]at gI;have cv:e.place.toNat<rw.length:=by omega
         obtain⟨r,gj⟩:∃r,r=rw[e.place.toNat]:=⟨_,rfl⟩;have x6:=gI.2 r (by rw[gj];exact zD cv)
         have b3:el.place.toNat<f0.roads.length:=by omega
         have pO:(f0.roads.map ints)[el.place.toNat]?=some (ints rw):=by rw[ZT,zU b3,cm];rfl
         have hr:(rw.map int)[e.place.toNat]?=some (int r):=by rw[ZT,zU cv,gj];rfl
         have mi:=cv;obtain⟨ch,hO⟩:∃ch,ch=U5 el.marks e.marks:=⟨_,rfl⟩
         have eW:0<=ch/\ch<=6:=by have q1:=nQ el.marks e.marks;have q2:=nQ e.marks el.marks;rw[hO];unfold U5;omega
         have x7:0<=f0.cQ*ch/\f0.cQ*ch<=24:=⟨Int.mul_nonneg (by omega) eW.1,Int.le_trans (Int.mul_le_mul mg.2 eW.2 eW.1 (by omega)) (by omega)⟩
         have mj:-9223372036854775808<=el.hour+r/\el.hour+r<=9223372036854775807:=by omega
         have mm:-9223372036854775808<=f0.cQ*ch/\f0.cQ*ch<=9223372036854775807:=by omega
         have mw:-9223372036854775808<=el.hour+r+f0.cQ*ch/\el.hour+r+f0.cQ*ch<=9223372036854775807:=by omega
         have hP:σ6 Q=some (.cells CL):=by rw[aC Q ay (za ml),<-bB Q ay];exact wl
         have gP:σ6 P=some (.cells [a,rows f0.roads,int f0.aR,int f0.eS,int f0.cQ,int i]):=by rw[aC P n6 (za m6)];exact a7
         refine ab.runN lay [] 3 ?_;simp[D,G,E,F,J,bK,bG,cD,K,ad,q2]
         obtain⟨V,hV⟩:∃V:Nat->AV,V=λj=>([.gW Q 0 i cap,int R,.ref Q (R*6),.ref Q (R*6),int el.hour,.ref P 1,rows f0.roads,.gW Q 0 i cap,int R,.ref Q (R*6),.ref Q (R*6+1),int el.place,.cp (ints rw) 0,ints rw,.ref c13 1,int e.place,.cp (int r) 0,int r,int (el.hour+r),.ref P 4,int f0.cQ,.gW Q 0 i cap,int R,.ref Q (R*6),.ref Q (R*6+3),ints el.marks,.ref c13 3,ints e.marks,int ch,int (f0.cQ*ch),int (el.hour+r+f0.cQ*ch),.ref c 0,.sl 1 (([0,0,1,3]:acp).map int) .exact,int 0,int 0,.ref c13 0]:acw).getD j (int 0):=⟨_,rfl⟩
         have w:∀j,V j=_:=λj=>congrFun hV j
         refine ab.Pb (Hv V (env.upd 96 (bool true)) σ6 c c13 (k+60+16*j+16) nums (el.hour+r+f0.cQ*ch) (λz=>[int z,int e.place,int el.cW,ints e.marks,int ht,int sh])) lay.mixed (by rfl) ⟨λ_ _=>rfl,by simp,λ_=>rfl,by simp,by simp,by simp,by simp,by simp⟩ ?_ ?_
         . intro done i u S N B mx A
           have mx:i<37:=mx
           rcases(show i=0\/i=1\/i=2\/i=3\/i=4\/i=5\/i=6\/i=7\/i=8\/i=9\/i=10\/i=11\/i=12\/i=13\/i=14\/i=15\/i=16\/i=17\/i=18\/i=19\/i=20\/i=21\/i=22\/i=23\/i=24\/i=25\/i=26\/i=27\/i=28\/i=29\/i=30\/i=31\/i=32\/i=33\/i=34\/i=35\/i=36 by omega)with rfl|rfl|rfl|rfl|rfl|rfl|rfl|rfl|rfl|rfl|rfl|rfl|rfl|rfl|rfl|rfl|rfl|rfl|rfl|rfl|rfl|rfl|rfl|rfl|rfl|rfl|rfl|rfl|rfl|rfl|rfl|rfl|rfl|rfl|rfl|rfl|rfl
           . have b7:u 7=.gW Q 0 i cap:=(A.base 7 (by omega)).trans F
             refine bg lay (mu:=[]) ?_;simp[b7];exact A.next (i:=0) (by omega) B (by omega) (by omega) ((w 0).symm)
           . have eX:u 12=int R:=(A.base 12 (by omega)).trans cD
             refine bg lay (mu:=[]) ?_;simp[eX];exact A.next (i:=1) (by omega) B (by omega) (by omega) ((w 1).symm)
           . have d0:u 97=.gW Q 0 i cap:=(A.dJ 0 (N 0 (by rfl)) (by omega) (by omega) (by omega)).trans (w 0)
             have d1:u 98=int R:=(A.dJ 1 (N 1 (by rfl)) (by omega) (by omega) (by omega)).trans (w 1)
             refine bg lay (mu:=[]) ?_;simp[d0,d1,bA];exact A.next (i:=2) (by omega) B (by omega) (by omega) ((w 2).symm)
           . have d2:u 99=.ref Q (R*6):=(A.dJ 2 (N 2 (by rfl)) (by omega) (by omega) (by omega)).trans (w 2)
             refine bg lay (mu:=[]) ?_;simp[d2];exact A.next (i:=3) (by omega) B (by omega) (by omega) ((w 3).symm)
           . have d3:u 100=.ref Q (R*6):=(A.dJ 3 (N 3 (by rfl)) (by omega) (by omega) (by omega)).trans (w 3)
             have kl:=A.keep (by omega) B (y:=Q) ay;rw[hP]at kl
             refine bg lay (mu:=[]) ?_;simp[kl,l7,d3];exact A.next (i:=4) (by omega) B (by omega) (by omega) ((w 4).symm)
           . have b6:u 6=.ref P 0:=(A.base 6 (by omega)).trans E
             refine bg lay (mu:=[]) ?_;simp[b6];exact A.next (i:=5) (by omega) B (by omega) (by omega) ((w 5).symm)
           . have d5:u 102=.ref P 1:=(A.dJ 5 (N 5 (by rfl)) (by omega) (by omega) (by omega)).trans (w 5)
             have k6:=A.keep (by omega) B (y:=P) n6;rw[gP]at k6
             refine bg lay (mu:=[]) ?_;simp[k6,d5];exact A.next (i:=6) (by omega) B (by omega) (by omega) ((w 6).symm)
           . have b7:u 7=.gW Q 0 i cap:=(A.base 7 (by omega)).trans F
             refine bg lay (mu:=[]) ?_;simp[b7];exact A.next (i:=7) (by omega) B (by omega) (by omega) ((w 7).symm)
           . have eX:u 12=int R:=(A.base 12 (by omega)).trans cD
             refine bg lay (mu:=[]) ?_;simp[eX];exact A.next (i:=8) (by omega) B (by omega) (by omega) ((w 8).symm)
           . have d7:u 104=.gW Q 0 i cap:=(A.dJ 7 (N 7 (by rfl)) (by omega) (by omega) (by omega)).trans (w 7)
             have d8:u 105=int R:=(A.dJ 8 (N 8 (by rfl)) (by omega) (by omega) (by omega)).trans (w 8)
             refine bg lay (mu:=[]) ?_;simp[d7,d8,bA];exact A.next (i:=9) (by omega) B (by omega) (by omega) ((w 9).symm)
           . have d9:u 106=.ref Q (R*6):=(A.dJ 9 (N 9 (by rfl)) (by omega) (by omega) (by omega)).trans (w 9)
             refine bg lay (mu:=[]) ?_;simp[d9];exact A.next (i:=10) (by omega) B (by omega) (by omega) ((w 10).symm)
           . have q0:u 107=.ref Q (R*6+1):=(A.dJ 10 (N 10 (by rfl)) (by omega) (by omega) (by omega)).trans (w 10)
             have kl:=A.keep (by omega) B (y:=Q) ay;rw[hP]at kl
             refine bg lay (mu:=[]) ?_;simp[kl,lj,q0];exact A.next (i:=11) (by omega) B (by omega) (by omega) ((w 11).symm)
           . have d6:u 103=rows f0.roads:=(A.dJ 6 (N 6 (by rfl)) (by omega) (by omega) (by omega)).trans (w 6)
             have q5:u 108=int el.place:=(A.dJ 11 (N 11 (by rfl)) (by omega) (by omega) (by omega)).trans (w 11)
             refine bg lay (mu:=[]) ?_;simp[d6,q5,pO,b3];refine⟨mf.1,?_⟩;rw[<-cm];exact A.next (i:=12) (by omega) B (by omega) (by omega) ((w 12).symm)
           . have q7:u 109=.cp (ints rw) 0:=(A.dJ 12 (N 12 (by rfl)) (by omega) (by omega) (by omega)).trans (w 12)
             refine bg lay (mu:=[]) ?_;simp[q7];exact A.next (i:=13) (by omega) B (by omega) (by omega) ((w 13).symm)
           . have fc:u 13=.ref c13 0:=(A.base 13 (by omega)).trans K
             refine bg lay (mu:=[]) ?_;simp[fc];exact A.next (i:=14) (by omega) B (by omega) (by omega) ((w 14).symm)
           . have q9:u 111=.ref c13 1:=(A.dJ 14 (N 14 (by rfl)) (by omega) (by omega) (by omega)).trans (w 14)
             have c5:=A.keep (by omega) B (y:=c13) m0;rw[a9]at c5
             refine bg lay (mu:=[]) ?_;simp[c5,q9];exact A.next (i:=15) (by omega) B (by omega) (by omega) ((w 15).symm)
           . have qb:u 110=ints rw:=(A.dJ 13 (N 13 (by rfl)) (by omega) (by omega) (by omega)).trans (w 13)
             have qi:u 112=int e.place:=(A.dJ 15 (N 15 (by rfl)) (by omega) (by omega) (by omega)).trans (w 15)
             refine bg lay (mu:=[]) ?_;simp[qb,qi,hr,mi];refine⟨md.1,?_⟩;rw[<-gj];exact A.next (i:=16) (by omega) B (by omega) (by omega) ((w 16).symm)
           . have qj:u 113=.cp (int r) 0:=(A.dJ 16 (N 16 (by rfl)) (by omega) (by omega) (by omega)).trans (w 16)
             refine bg lay (mu:=[]) ?_;simp[qj];exact A.next (i:=17) (by omega) B (by omega) (by omega) ((w 17).symm)
           . have d4:u 101=int el.hour:=(A.dJ 4 (N 4 (by rfl)) (by omega) (by omega) (by omega)).trans (w 4)
             have qq:u 114=int r:=(A.dJ 17 (N 17 (by rfl)) (by omega) (by omega) (by omega)).trans (w 17)
             refine bg lay (mu:=[]) ?_;simp[d4,qq,mj.1,mj.2];exact A.next (i:=18) (by omega) B (by omega) (by omega) ((w 18).symm)
           . have b6:u 6=.ref P 0:=(A.base 6 (by omega)).trans E
             refine bg lay (mu:=[]) ?_;simp[b6];exact A.next (i:=19) (by omega) B (by omega) (by omega) ((w 19).symm)
           . have qs:u 116=.ref P 4:=(A.dJ 19 (N 19 (by rfl)) (by omega) (by omega) (by omega)).trans (w 19)
             have k6:=A.keep (by omega) B (y:=P) n6;rw[gP]at k6
             refine bg lay (mu:=[]) ?_;simp[k6,qs];exact A.next (i:=20) (by omega) B (by omega) (by omega) ((w 20).symm)
           . have b7:u 7=.gW Q 0 i cap:=(A.base 7 (by omega)).trans F
             refine bg lay (mu:=[]) ?_;simp[b7];exact A.next (i:=21) (by omega) B (by omega) (by omega) ((w 21).symm)
           . have eX:u 12=int R:=(A.base 12 (by omega)).trans cD
             refine bg lay (mu:=[]) ?_;simp[eX];exact A.next (i:=22) (by omega) B (by omega) (by omega) ((w 22).symm)
           . have r9:u 118=.gW Q 0 i cap:=(A.dJ 21 (N 21 (by rfl)) (by omega) (by omega) (by omega)).trans (w 21)
             have ra:u 119=int R:=(A.dJ 22 (N 22 (by rfl)) (by omega) (by omega) (by omega)).trans (w 22)
             refine bg lay (mu:=[]) ?_;simp[r9,ra,bA];exact A.next (i:=23) (by omega) B (by omega) (by omega) ((w 23).symm)
           . have rb:u 120=.ref Q (R*6):=(A.dJ 23 (N 23 (by rfl)) (by omega) (by omega) (by omega)).trans (w 23)
             refine bg lay (mu:=[]) ?_;simp[rb];exact A.next (i:=24) (by omega) B (by omega) (by omega) ((w 24).symm)
           . have rh:u 121=.ref Q (R*6+3):=(A.dJ 24 (N 24 (by rfl)) (by omega) (by omega) (by omega)).trans (w 24)
             have kl:=A.keep (by omega) B (y:=Q) ay;rw[hP]at kl
             refine bg lay (mu:=[]) ?_;simp[kl,lx,rh];exact A.next (i:=25) (by omega) B (by omega) (by omega) ((w 25).symm)
           . have fc:u 13=.ref c13 0:=(A.base 13 (by omega)).trans K
             refine bg lay (mu:=[]) ?_;simp[fc];exact A.next (i:=26) (by omega) B (by omega) (by omega) ((w 26).symm)
           . have ri:u 123=.ref c13 3:=(A.dJ 26 (N 26 (by rfl)) (by omega) (by omega) (by omega)).trans (w 26)
             have c5:=A.keep (by omega) B (y:=c13) m0;rw[a9]at c5
             refine bg lay (mu:=[]) ?_;simp[c5,ri];exact A.next (i:=27) (by omega) B (by omega) (by omega) ((w 27).symm)
           . have rj:u 122=ints el.marks:=(A.dJ 25 (N 25 (by rfl)) (by omega) (by omega) (by omega)).trans (w 25)
             have rm:u 124=ints e.marks:=(A.dJ 27 (N 27 (by rfl)) (by omega) (by omega) (by omega)).trans (w 27)
             refine bg lay (mu:=[]) ?_;simp[rj,rm];refine cf Tryz.func85 rfl (Ge (by omega) (by omega) ?_)
             refine pg ?_;simp;exact A.next (i:=28) (by omega) B (by omega) (by omega) (by rw[w,hO];rfl)
           . have rr:u 117=int f0.cQ:=(A.dJ 20 (N 20 (by rfl)) (by omega) (by omega) (by omega)).trans (w 20)
             have rF:u 125=int ch:=(A.dJ 28 (N 28 (by rfl)) (by omega) (by omega) (by omega)).trans (w 28)
             refine bg lay (mu:=[]) ?_;simp[rr,rF,mm.1,mm.2];exact A.next (i:=29) (by omega) B (by omega) (by omega) ((w 29).symm)
           . have rG:u 115=int (el.hour+r):=(A.dJ 18 (N 18 (by rfl)) (by omega) (by omega) (by omega)).trans (w 18)
             have rM:u 126=int (f0.cQ*ch):=(A.dJ 29 (N 29 (by rfl)) (by omega) (by omega) (by omega)).trans (w 29)
             refine bg lay (mu:=[]) ?_;simp[rG,rM,mw.1,mw.2];exact A.next (i:=30) (by omega) B (by omega) (by omega) ((w 30).symm)
           . have b0:u 0=.ref c 0:=(A.base 0 (by omega)).trans D
             refine bg lay (mu:=[]) ?_;simp[b0];exact A.next (i:=31) (by omega) B (by omega) (by omega) ((w 31).symm)
           . refine bg lay (mu:=[]) ?_
             simp;exact A.next (i:=32) (by omega) B (by omega) (by omega) ((w 32).symm)
           . have rT:u 128=.ref c 0:=(A.dJ 31 (N 31 (by rfl)) (by omega) (by omega) (by omega)).trans (w 31)
             have s3:u 129=.sl 1 (([0,0,1,3]:acp).map int) .exact:=(A.dJ 32 (N 32 (by rfl)) (by omega) (by omega) (by omega)).trans (w 32)
             refine bg lay (mu:=[]) ?_;simp[rT,s3];have s4:=A.pre B;subst s4;have s5:34∉done:=λq=>B (A.dep q)
             refine cf Tryz.func54 rfl (mQ (l:=[0,0,1,3]) (by omega) hn ⟨by decide,by decide⟩ b2 λp x8 hp mA=>?_)
             refine pg ?_;simp;exact A.RI B s5 (p:=p) (by simp at hp;omega) (mA.1.mono (by omega)) mA.2
           . have s6:u 127=int (el.hour+r+f0.cQ*ch):=(A.dJ 30 (N 30 (by rfl)) (by omega) (by omega) (by omega)).trans (w 30)
             have c7:=N 33 (by rfl)
             obtain⟨p,hp,ET,_⟩:=A.pick c7;have mB:-9223372036854775808<=el.hour+r+f0.cQ*ch+p/\el.hour+r+f0.cQ*ch+p<=9223372036854775807:=by omega
             refine bg lay (mu:=[]) ?_;simp[s6,ET,mB.1,mB.2];exact A.summed B c7 hp ET
           . have fc:u 13=.ref c13 0:=(A.base 13 (by omega)).trans K
             refine bg lay (mu:=[]) ?_;simp[fc];exact A.next (i:=35) (by omega) B (by omega) (by omega) ((w 35).symm)
           . have s7:u 132=.ref c13 0:=(A.dJ 35 (N 35 (by rfl)) (by omega) (by omega) (by omega)).trans (w 35)
             have c7:=N 33 (by rfl)
             have s9:=N 34 (by rfl)
             obtain⟨p,hp,ET,EU⟩:=A.pick c7;have EU:=EU s9;obtain⟨sb,h3⟩:=A.post c7 B;have c5:=(h3 c13 m0).trans a9;refine bg lay (mu:=[]) ?_;simp[s7,EU,c5,aJ]
             refine⟨A.base,λj hj g3 g4 g5=>A.dJ j ((List.mem_cons.1 hj).resolve_left (by omega)) g3 g4 g5,λq=>absurd (aan _ c7) q,λ_ q=>absurd (abj ..) q,λ_=>⟨p,hp,ET,λ_=>EU⟩,λ_ j hj=>aan _ (N j ((by decide:∀j:Fin 36,jg _ j.val 36=true) ⟨j,hj⟩)),λ_=>aan _ c7,λ_=>⟨p,hp,?_,aa.ak _ _ _,λy Y y2=>by rw[aa.ai _ _ y2];exact h3 y Y⟩⟩
             obtain⟨n,z,g1,g2⟩:=sb;exact⟨n,z,g1,by rw[aa.ai _ _ (za m0)];exact g2⟩
         . intro done vj S n2 A
           obtain⟨p,hp,g1,g2,g3⟩:=A.fin (n2 36 (by decide))
           have hb:=λ(t:Nat) (ht:t<96)=>(A.base t (by omega)).trans (kT (env:=env) (v:=bool true) (show t≠96 by omega))
           refine T _ _ ⟨el.hour+r+f0.cQ*ch+p,(hb 0 (by omega)).trans D,(hb 4 (by omega)).trans G,(hb 6 (by omega)).trans E,(hb 7 (by omega)).trans F,(hb 8 (by omega)).trans J,(hb 10 (by omega)).trans bK,(hb 11 (by omega)).trans bG,(hb 12 (by omega)).trans cD,(hb 13 (by omega)).trans K,g1,g2,λy Y y2=>(g3 y Y y2).trans (aC y Y y2),by omega,λ_=>?_⟩
           have sg:rd f1.roads el.place.toNat e.place.toNat=r:=by rw[eN];unfold rd;rw[zA,zA,zU b3,aaf,<-cm,zU cv,<-gj];rfl
           have si:f1.cQ=f0.cQ:=by rw[eN]
           unfold Nh;rw[sg,si,<-Et bm.marks he.marks,<-hO];show r+f0.cQ*ch<=el.hour+r+f0.cQ*ch+p-el.hour;omega
       . have q2:¬qN ks R>=0:=λq=>hL ((lT ks R).1 q)
         refine ab.runN lay [] 4 ?_;simp[D,G,E,F,J,bK,bG,cD,K,ad,q2];refine T _ _ ⟨e.hour,by simp[D,G,E,F,J,bK,bG,cD,K,ad],by simp[D,G,E,F,J,bK,bG,cD,K,ad],by simp[D,G,E,F,J,bK,bG,cD,K,ad],by simp[D,G,E,F,J,bK,bG,cD,K,ad],by simp[D,G,E,F,J,bK,bG,cD,K,ad],by simp[D,G,E,F,J,bK,bG,cD,K,ad],by simp[D,G,E,F,J,bK,bG,cD,K,ad],by simp[D,G,E,F,J,bK,bG,cD,K,ad],by simp[D,G,E,F,J,bK,bG,cD,K,ad],b2.mono (by omega),a9,aC,by have:=he.hour;omega,λq=>absurd q hL⟩
     clear b2 a9 aC D G E F J bK bG cD K ad
     rintro env S ⟨hr,D,G,E,F,J,bK,bG,cD,K,n3,a9,eg,sj,n5⟩
     have so:σ.del c c13=none:=by
      cases hx:σ.del c c13 with
      |none=>rfl
      |some x=>have:=b9.1 _ _ hx;rw[<-bB c13 m0,l6]at this;cases this
     have b8:(σ.del c).Le S:=λy x hy=>by
      have Y:y≠c:=λe=>by subst e;rw[b4]at hy;cases hy
      have y2:y≠c13:=λe=>by subst e;rw[so]at hy;cases hy
      rw[eg y Y y2];exact b9.1 y x hy
     have hR:∀b x,σ' b=some x->(∀l,x≠.cells l)->S b=σ' b:=λb x hb hx=>by
      refine eg b (λe=>?_) λe=>?_
      . rw[e]at hb;obtain⟨_,_,_,q⟩:=ho;rw[q]at hb;cases hb;exact hx _ rfl
      . rw[e,<-bB c13 m0,l6]at hb;cases hb
     have dj:Tok (σ.del c) S a 6 (es.map br):=tE b9 b8 λb hb=>by obtain⟨g1,l,g2⟩:=b9.aV hb;exact⟨hR b _ g2 (by simp),g1⟩
     have dm:Tok (σ.del c) S hh 1 (ks.map int):=tE ec b8 λb hb=>by obtain⟨g1,l,g2⟩:=ec.aV hb;exact⟨hR b _ g2 (by simp),g1⟩
     have t4:S X=some (.cells fV):=by rw[eg X bx (za m4)];exact q4
     have t6:S P=some (.cells (A6 a)):=by rw[eg P n6 (za m6)];exact q6
     have tl:S Q=some (.cells (flatten (M.map br)++rest)):=by rw[eg Q ay (za ml)];exact ql
     clear b9 ec q4 q6 ql a7 eg hR
     rcases Int.lt_or_le 72 hr with n7|n7
     . refine rn ?_
       simp[D,G,E,F,J,bK,bG,cD,K,a9,n7,f3.1,f3.2];refine ih _ g1 ⟨_,S,a,hh,M,es,ks,rfl,by simp[D,G,E,F,J,bK,bG,cD,K],by simp[D,G,E,F,J,bK,bG,cD,K],by simp[D,G,E,F,J,bK,bG,cD,K],by simp[D,G,E,F,J,bK,bG,cD,K],by simp[D,G,E,F,J,bK,bG,cD,K],by simp[D,G,E,F,J,bK,bG,cD,K],by simp;omega,n3.mono (by omega),t4,t6,tl,dj,dm,gD,O,fO,hv,by omega⟩
     . have n9:¬hr>72:=by omega
       obtain⟨n1,nc⟩:∃n1:mN,n1=⟨hr,e.place,el.cW,e.marks,ht,sh⟩:=⟨_,rfl⟩;obtain⟨bw,gR⟩:∃bw,bw=flatten ((M.set R n1).map br)++rest:=⟨_,rfl⟩;have nh:R*6+6<=CL.length:=by rw[eR,Rp,gG];omega
       have nq:aJ CL (R*6) [int hr,int e.place,int el.cW,ints e.marks,int ht,int sh]=bw:=by
        have:=AH (k:=6) (M.map br) R (br n1) (by rw[ZE];exact gd) hA rfl
        rw[gR,abe,<-this,eR];unfold aJ;rw[List.take_append_of_le_length (by omega),List.drop_append_of_le_length (by rw[gG];simp;omega),nc]
        simp
       rw[<-eR]at tl;have b5:=dj.cells;have vk:=dm.cells;have nt:S P=some (.cells [a,rows f0.roads,int f0.aR,int f0.eS,int f0.cQ,int i]):=by rw[t6,ej]
       have x9:=za ml;refine rn ?_;simp[D,G,E,F,J,bK,bG,cD,K,a9,n9,tl,bA,nq,nh,aa.ai,h9.symm,ml,nt,b5.1,b5.2];subst nc;have sr:bp a≠some Q:=λe=>by obtain⟨_,_,q⟩:=dj.aV e;rw[tl]at q;cases q
       have ob:bp hh≠some Q:=λe=>by obtain⟨_,_,q⟩:=dm.aV e;rw[tl]at q;cases q
       have dr:Tok (σ.del c) (S.set Q (.cells bw)) a 6 (es.map br):=dj.beside r1 sr;have oj:Tok (σ.del c) (S.set Q (.cells bw)) hh 1 (ks.map int):=dm.beside r1 ob;have vx:(es.map br).length<=6:=by rw[ZE];omega
       have vy:(ks.map int).length<=6:=by rw[ZE,O.len];omega
       refine aK lay rfl rfl rfl na rfl na rfl ze (by decide) (by simp;omega) (σ0:=(S.set Q (.cells bw)).off a) (es:=es.map br) (xs:=[br ⟨hr,e.place,el.cW,e.marks,ht,sh⟩]) (by simpa using dr.here.1) (.inr ⟨_,by simp;rfl⟩) λa' hS hT=>?_
       obtain⟨dx,sy⟩:=Cb oj dr (λb hb q=>gD b q hb) hT
       have gU:=hT.base dr.here.2;have k9:∀y l,(S.set Q (.cells bw)) y=some (.cells l)->hS y=some (.cells l):=λy l hy=>hT.1 _ _ (by rw[aa.dO (λe=>by obtain⟨_,_,q⟩:=dr.aV e;rw[hy]at q;cases q)];exact hy)
       have dy:=gU.cells;refine rn ?_;simp[D,G,E,F,J,bK,bG,cD,K,dy.1,dy.2];refine aK lay rfl rfl rfl dh rfl dh rfl qM (by decide) (by simp;omega) (σ0:=hS.off hh) (es:=ks.map int) (xs:=[int R]) (by simpa using dx.here.1) (.inr ⟨_,by simp;rfl⟩) λtc ax fg=>?_
       obtain⟨hU,ox⟩:=Cb gU dx (λb hb q=>sy b q hb) fg
       have fi:=fg.base dx.here.2;have fl:=fi.cells;have gl:∀y l,hS y=some (.cells l)->ax y=some (.cells l):=λy l hy=>fg.1 _ _ (by rw[aa.dO (λe=>by obtain⟨_,_,q⟩:=dx.aV e;rw[hy]at q;cases q)];exact hy)
       have z6:ax P=some (.cells [a,rows f0.roads,int f0.aR,int f0.eS,int f0.cQ,int i]):=gl _ _ (k9 _ _ (by rw[aa.ai _ _ (za h9)];exact nt))
       have z4:ax X=some (.cells fV):=gl _ _ (k9 _ _ (by rw[aa.ai _ _ (za pk)];exact t4))
       have zl:ax Q=some (.cells bw):=gl _ _ (k9 _ _ (aa.ak _ _ _));refine rn ?_;simp[D,G,E,F,J,bK,bG,cD,K,z6,aJ,dy.1,dy.2,fl.1,fl.2,f3.1,f3.2];have oF:NU f0.roads.length ⟨hr,e.place,el.cW,e.marks,ht,sh⟩:=⟨⟨sj.1,by omega⟩,he.place,bm.cW,he.marks,hK,gH⟩
       have oG:M.getD R rU=el:=by rw[zA,zU gd,eK];rfl
       have oK:H.getD R 0=h0:=by rw[zA,zU ed,ee];rfl
       have gp:=O.push (k:=R) (n:=⟨hr,e.place,el.cW,e.marks,ht,sh⟩) bA (by rw[eN];exact oF.check) (by rw[oG]) (by rw[oK,eN];refine NV lB gH ?_;exact m3) (λq=>by rw[oG];exact n5 q)
       have h1:∀{x:AV}{kk:Nat}{l:acw},Tok (σ.del c) ax x kk l->Tok (σ.del c) (ax.set P (.cells (A6 a'))) x kk l:=λ{x kk l} hx=>hx.beside p5 (λe=>by obtain⟨_,_,q⟩:=hx.aV e;rw[z6]at q;cases q)
       refine ih _ g1 ⟨_,ax.set P (.cells (A6 a')),a',tc,M.set R ⟨hr,e.place,el.cW,e.marks,ht,sh⟩,es++[⟨hr,e.place,el.cW,e.marks,ht,sh⟩],ks++[(R:Int)],by rw[ej],by simp[D,G,E,F,J,bK,bG,cD,K],by simp[D,G,E,F,J,bK,bG,cD,K],by simp[D,G,E,F,J,bK,bG,cD,K],by simp[D,G,E,F,J,bK,bG,cD,K],by simp[D,G,E,F,J,bK,bG,cD,K],by simp[D,G,E,F,J,bK,bG,cD,K],by simp;omega,?_,?_,aa.ak _ _ _,?_,by have:=h1 hU;simpa using this,by have:=h1 fi;simpa using this,λb hb=>ox b hb,gp,λx hx=>?_,λx hx=>?_,by simp;omega⟩
       . obtain⟨n,z,g1,g2⟩:=n3
         exact⟨n,z,by omega,by rw[aa.ai _ _ (za n6)];exact gl _ _ (k9 _ _ (by rw[aa.ai _ _ (za ay)];exact g2))⟩
       . rw[aa.ai _ _ (za fp)];exact z4
       . rw[aa.ai _ _ h9,zl,gR]
       . rcases aaF hx with hx|rfl
         . exact fO x hx
         . exact oF
       . rcases List.mem_append.1 hx with hx|hx
         . exact hv x hx
         . simp at hx;subst hx;exact pB
   . have td:j=qn:=by omega
     subst td;have tf:¬(j:Int)<j:=by omega
     refine rn ?_;simp[D,G,E,F,J,bK,bG,o.1,o.2,d.1,d.2,tf,q4,a7,aJ];obtain⟨nb,zb,hX,h2⟩:=ho;obtain⟨f,hf⟩:∃f:Fr,f=⟨es,f0.roads,f0.aR,f0.eS,f0.cQ,(i:Int)⟩:=⟨_,rfl⟩;have aE:=Fr.qO (Z.fits (by omega)) (Z.check (by omega))
     have tm:Gf cnt f ks:=by
      have gw:=Z.dS;subst eN;subst hf;refine⟨⟨⟨by grind,aE.fits.roads,aE.fits.row,λe he=>by grind⟩,aE.fr,aE.to,aE.le,aE.cQ,by grind,by grind,λe he=>O.te e he,aE.JN⟩,by grind,by grind,λr hr=>?_,hv,by grind,i,C,H,M,⟨O.len,O.Qq,O.te,O.cW,O.N7,O.fit,O.Wi,O.Hh,O.Rv⟩,rfl⟩
      obtain⟨t,ht,rfl⟩:=List.mem_iff_getElem.1 hr;exact KD (Nat.le_of_eq (aE.row (i:=t) ht).1) gw.2
     refine .n8 (a':=.cB [dB f,ints ks]) (M5 rfl λi x y x1 x2=>?_) (.less (σ':=σ.set c (.cells [ints nums,int nb,.lit (.int .u64 zb)])) (λy x hy=>?_) (.done (h f ks _ tm ⟨⟨nb,zb,by omega,aa.ak _ _ _⟩,λy hy=>aa.ai _ _ hy⟩)))
     . match i with
       | 0=>
         simp at x1 x2;subst x1;subst x2;refine pS (by grind) λi x y x1 x2=>?_
         subst hf
         match i with
         |0=>simp at x1 x2;subst x1;subst x2;exact b9.W
         |1=>simp at x1 x2;subst x1;subst x2;exact .refl _
         |2=>simp at x1 x2;subst x1;subst x2;exact .refl _
         |3=>simp at x1 x2;subst x1;subst x2;exact .refl _
         |4=>simp at x1 x2;subst x1;subst x2;exact .refl _
         |5=>simp at x1 x2;subst x1;subst x2;exact .refl _
         |i+6=>simp at x1
       |1=>simp at x1 x2;subst x1;subst x2;exact ec.W
       |i+2=>simp at x1
     . by_cases Y:y=c
       . subst Y
         rw[aa.ak]at hy;rw[aa.ai _ _ n4,h2];exact hy
       . rw[aa.ai _ _ Y]at hy
         have y4:y≠X:=λe=>by grind
         rw[aa.ai _ _ y4];exact b9.1 y x (by simpa[aa.del,Y]using hy)
end

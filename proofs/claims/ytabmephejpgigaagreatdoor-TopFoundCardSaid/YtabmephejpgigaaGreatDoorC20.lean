import Derived.Test.YtabmephejpgigaaGreatDoorC19
set_option linter.all false
set_option maxHeartbeats 2000000
set_option maxRecDepth 4000
namespace Go.Proofs.YtabmephejpgigaaGreatDoor
open Go.Proofs.Tryz (prog)
section
open Go.cr Go.Conc
variable{m:Mo}{σ:ab}{KF:aaQ}
structure MH  dJ  (e:u6):Prop where
 hour:0<=e.hour/\e.hour<=72
 place:0<=e.place/\e.place<dJ
 cP:0<=e.cP/\e.cP<=1
 marks:e.marks.Sublist [0,1,2]
 bp:0<=e.bp/\e.bp<=30
 jr:0<=e.jr/\e.jr<=2
theorem MH.check{dJ e}(h:MH dJ e):cG dJ e=0:=by
 obtain⟨b,c,d,a,f,g⟩:=h;have a:=(kT a).1;unfold cG bE
 grind
structure Fj  cnt  (f:Fr)  ks :Prop where
 pq:f.Good
 len:(f.aA.length:Int)<=cnt
 dJ:f.roads.length<=3
 row:∀r∈f.roads,r.length<=3
 marks:∀e∈f.aA,e.marks.length<=3
 aV:f.aV<=3
 seen:∃  aV   C H   last ,Seen f aV C H ks f.aA last/\(aV:Int)=f.aV
theorem zT{k}:∀  es   i   x ,i<es.length->(∀e∈es,e.cells.length=k)->x.cells.length=k->(flatten es).take (i*k)++x.cells++(flatten es).drop (i*k+k)=flatten (es.set i x)
 | e::es,0,x,_,a,b=>by
   have c:=a e (by simp);rw[List.set_cons_zero,flatten_cons,flatten_cons]
   grind
 | e::es,i+1,x,g,a,b=>by
   have c:=a e (by simp);have d:=zT es i x (by simp_all) (λy f=>a y (by simp[f])) b;rw[List.set_cons_succ,flatten_cons,flatten_cons,<-d,aav,Nat.one_mul,aaz,List.drop_append];rw[ZB (by omega),List.drop_eq_nil_of_le (by omega),c,show i*k+k-k=i*k by omega,show i*k+k+k-k=i*k+k by omega];simp
theorem MI{f n h}(g:f.aS<=f.ew)(i:0<=n.jr/\n.jr<=2)(hb:(n.jr≠1/\n.bp=h)\/(n.jr≠0/\∃y,f.aS<=y/\y<=f.ew/\n.bp=h+y)):h∈bS f n:=by
 have a:n.jr≠1->n.bp∈bS f n:=λc=>by
  unfold bS
  grind
 have b:∀x,x∈iM f n->x∈bS f n:=λx j=>by
  unfold bS
  grind
 rcases hb with⟨c,rfl⟩|⟨d,y,k,l,e⟩
 . exact a c
 . refine b _ ?_
   unfold iM;rw[YG d];exact YN.2 ⟨(f.ew-y).toNat,YB.2 (by omega),by omega⟩
theorem sQ{σ0 σ c σ' a kk es}(h:Tok σ0 σ a kk es)(d:c.Le σ')(hb:∀b,bH a=some b->σ' b=σ b/\c b=none):Tok c σ' a kk es:=by
 refine⟨d,?_⟩;rcases h.2 with q|q|⟨b,e,g,f,i⟩
 . exact .inl q
 . simp_all
 . obtain⟨j,k⟩:=hb b (by rw[f];rfl)
   grind
theorem Gs{σ0 σ σ2 a kk es c}(h:cD σ0 σ a kk es)(i:σ0 c=none)(f:eo a≠some c)(d:∀y,y≠c->σ2 y=σ y):cD σ0 σ2 a kk es:=h.keep (λy x g=>by rw[d y (λe=>by simp_all)];exact h.1 y x g) λb hb=>⟨d b (λe=>f (e ▸ hb)),(h.lf hb).1⟩
theorem OB{σ0 σ σ' a c j kk k m es n o}(h:Tok σ0 σ a kk es)(f:cD σ0 σ c k n)(g:cD (σ.Al c) σ' j m o):Tok σ0 σ' a kk es:=
 sQ h (ab.le_trans f.here.2 g.1) λb hb=>by
  obtain⟨p,e,i⟩:=h.bb hb;have d:eo c≠some b:=λq=>by obtain⟨_,l,r⟩:=f.lf q;simp_all
  exact⟨by rw[i];exact g.1 b _ (by rw[ab.pR d];exact i),p⟩
theorem OC{σ0 σ σ' a c j kk k m es n o}(h:cD σ0 σ a kk es)(f:Tok σ0 σ c k n)(g:Tok (σ.off c) σ' j m o):cD σ0 σ' a kk es:=
 h.keep (ab.le_trans f.here.2 g.1) λb hb=>by
  obtain⟨p,l,i⟩:=h.lf hb;have d:bH c≠some b:=λq=>by obtain⟨_,e,r⟩:=f.bb q;simp_all
  exact⟨by rw[i];exact g.1 b _ (by rw[ab.fK d];exact i),p⟩
theorem kJ{env:Env}{t u v}(h:u≠t):(env.upd t v) u=env u:=by simp_all
theorem Ry{env:Env}{t v}:(env.upd t v) t=v:=by simp_all
structure Gt(V:Nat->AV)(yA:Env)  σ6   c c13 K   nums   T  (X:Int->abj) (done:abf) (env:Env)  σ :Prop where
 base:∀s,s<97->env s=yA s
 dA:∀i,i∈done->i≠33->i≠34->i<36->env (97+i)=V i
 pre:33∉done->σ=σ6
 post:33∈done->36∉done->bn c nums K σ/\∀y,y≠c->σ y=σ6 y
 pick:33∈done->∃p ,(0<=p/\p<=3)/\env 130=int p/\(34∈done->env 131=int (T+p))
 all:36∈done->∀j,j<36->j∈done
 dep:34∈done->33∈done
 fin:36∈done->∃p ,(0<=p/\p<=3)/\bn c nums K σ/\σ c13=some (.cells (X (T+p)))/\∀y,y≠c->y≠c13->σ y=σ6 y
section
variable{V:Nat->AV}{yA env:Env}{σ6:ab}{c c13 K:Nat}{nums:abe}{T:Int}{X:Int->abj}{done:abf}
theorem Gt.OD(h:Gt V yA σ6 c c13 K nums T X done env σ){i}(hi:i<36)(b:i∉done):36∉done:=λa=>b (h.all a i hi)
theorem Gt.keep(h:Gt V yA σ6 c c13 K nums T X done env σ){i}(hi:i<36)(a:i∉done){y}(b:y≠c):σ y=σ6 y:=by
 by_cases q:33∈done
 . exact(h.post q (h.OD hi a)).2 y b
 . rw[h.pre q]
theorem Gt.next(h:Gt V yA σ6 c c13 K nums T X done env σ){i}(hi:i<36)(m:i∉done)(w:i≠33)(x:i≠34){a}(y:a=V i):Gt V yA σ6 c c13 K nums T X (i::done) (env.upd (97+i) a) σ:=by
 have b:33∈i::done↔33∈done:=by grind
 have f:34∈i::done↔34∈done:=by grind
 have k:=h.OD hi m;have d:36∉i::done:=by grind
 refine⟨λs n=>?_,λj o r t u=>?_,λq=>h.pre λl=>q (b.2 l),λq _=>h.post (b.1 q) k,λq=>?_,λq=>absurd q d,λq=>b.2 (h.dep (f.1 q)),λq=>absurd q d⟩
 . rw[kJ (by omega)];exact h.base s n
 . by_cases e:j=i
   . simp_all
   . rw[kJ (by omega)]
     exact h.dA j ((YQ.1 o).resolve_left e) r t u
 . obtain⟨p,v,l,z⟩:=h.pick (b.1 q)
   exact⟨p,v,by rw[kJ (by omega)];exact l,λg=>by rw[kJ (by omega)];simp_all⟩
theorem Gt.QB(h:Gt V yA σ6 c c13 K nums T X done env σ)(l:33∉done)(b:34∉done){p}(m:0<=p/\p<=3){σ'}(hb:bn c nums K σ')(d:∀y,y≠c->σ' y=σ6 y):Gt V yA σ6 c c13 K nums T X (33::done) (env.upd 130 (int p)) σ':=by
 have e:=h.OD (i:=33) (by omega) l;have a:36∉33::done:=by simp[e]
 have f:34∉33::done:=by simp[b]
 refine⟨λs d=>?_,λj n k o r=>?_,λq=>absurd (by simp) q,λ_ _=>⟨hb,d⟩,λq=>⟨p,m,by simp_all,λg=>absurd g f⟩,λq=>absurd q a,λ_=>by simp,λq=>absurd q a⟩
 . rw[kJ (by omega)];exact h.base s d
 . rw[kJ (by omega)]
   exact h.dA j ((YQ.1 n).resolve_left k) k o r
theorem Gt.summed(h:Gt V yA σ6 c c13 K nums T X done env σ)(f:34∉done)(a:33∈done){p}(k:0<=p/\p<=3)(r:env 130=int p):Gt V yA σ6 c c13 K nums T X (34::done) (env.upd 131 (int (T+p))) σ:=by
 have b:=h.OD (i:=34) (by omega) f;have d:36∉34::done:=by simp[b]
 refine⟨λs l=>?_,λj m n e o=>?_,λq=>absurd (by simp[a]) q,λ_ _=>h.post a b,λq=>⟨p,k,by simp_all,λg=>by simp_all⟩,λq=>absurd q d,λ_=>by simp[a],λq=>absurd q d⟩
 . rw[kJ (by omega)];exact h.base s l
 . rw[kJ (by omega)]
   exact h.dA j ((YQ.1 m).resolve_left e) n e o
end
theorem Bp{σ0 σ σ' a c f kk j k es l m}(h:Tok σ0 σ a kk es)(n:Tok σ0 σ c j l)(hd:∀b,bH a=some b->bH c≠some b)(d:Tok (σ.off c) σ' f k m):Tok σ0 σ' a kk es/\∀b,bH a=some b->bH f≠some b:=by
 have key:∀b,bH a=some b->(σ.off c) b=σ b:=λb hb=>ab.fK (hd b hb)
 refine⟨sQ h (ab.le_trans n.here.2 d.1) λb hb=>?_,λb hb q=>?_⟩
 . obtain⟨g,e,i⟩:=h.bb hb
   exact⟨by rw[i];exact d.1 b _ (by simp_all),g⟩
 . obtain⟨g,e,i⟩:=h.bb hb
   obtain⟨o,_,_⟩:=d.bb q
   simp_all
section
variable{c k:Nat}{nums:abe}
theorem IE{cnt}(hk:k+500<1000000)(hn:nums.length<1152921504606846976)(vy:1<=cnt/\cnt<=6)(hb:bn c nums k σ)(h:∀  f   ks  σ',Fj cnt f ks->oD c nums (k+500) σ σ'->KF (.val (.cH [cj f,ints ks])) σ'):aB prog m 12 [.ref c 0,int cnt] σ KF:=by
 obtain⟨n0,s0,_,p5⟩:=id hb;refine fs Vd Tryz.func12 rfl (by kernel_rfl) ?_
 simp[Tryz.f12];refine cz.intro λX h4=>?_
 have n4:c≠X:=λe=>by simp_all
 have ic:∀x,bn c nums k (σ.set X x):=λx=>⟨n0,s0,by assumption,by rw[ab.ah _ _ n4];exact p5⟩
 simp;refine cf Tryz.func24 rfl (E2 (cnt:=0) (by omega) hn ⟨by omega,by omega⟩ (ic _) λf0 a0 ie Z ej p6=>?_)
 obtain rfl:=p6.1 (List.length_eq_zero_iff.1 (by have:=Z.len;omega))
 have bx:X≠c:=zj n4;have p7:ie X=some (.cells fF):=by rw[ej.2 X bx,ab.aj]
 apply rn;simp;refine cz.intro λP h6=>?_
 have n6:P≠c:=λe=>by subst e;obtain⟨_,_,_,q⟩:=ej.1;simp_all
 have fu:P≠X:=λe=>by simp_all
 have p8:σ P=none:=by rw[ej.2 P n6,ab.ah _ _ fu]at h6;exact h6
 simp
 have h7:∀x,bn c nums (k+20) (ie.set P x):=λx=>by obtain⟨n,z,g1,g2⟩:=ej.1;exact⟨n,z,g1,by rw[ab.ah _ _ (zj n6)];exact g2⟩
 refine cf Tryz.func14 rfl (ed (by omega) hn ⟨by omega,by omega⟩ ⟨by omega,by omega⟩ (h7 _) λaV ea x6 fv=>?_)
 have t6:ea P=some (.cells [.lit (.slice none 0 0),rows f0.roads,int f0.aS,int f0.ew,int f0.cK,int f0.aV]):=by rw[fv.2 P n6,ab.aj]
 have t4:ea X=some (.cells fF):=by rw[fv.2 X bx,ab.ah _ _ (zj fu)];exact p7
 apply rn;simp[t6,aH];obtain⟨mo,rfl⟩:∃mo:Nat,aV=(mo:Int):=⟨aV.toNat,by omega⟩
 have x7:1<=mo/\mo<=3:=by omega
 have h8:=Z.dJ;obtain⟨A6,ep⟩:∃A6:AV->abj,A6=λa=>[a,rows f0.roads,int f0.aS,int f0.ew,int f0.cK,int mo]:=⟨_,rfl⟩
 have pa:∀a,(A6 a).length=6:=λa=>by grind
 have b4:σ.del c c=none:=by simp[ab.del]
 have ix:bn c nums (k+21) (ea.set P (.cells (A6 (.lit (.slice none 0 0))))):=by obtain⟨n,z,g1,g2⟩:=fv.1;exact⟨n,z,by omega,by rw[ab.ah _ _ (zj n6)];exact g2⟩
 have al:(σ.del c).Le (ea.set P (.cells (A6 (.lit (.slice none 0 0))))):=λy x hy=>by
  have Y:y≠c:=λe=>by simp_all
  have y0:σ y=some x:=by simpa[ab.del,Y]using hy
  have y6:y≠P:=λe=>by simp_all
  have y4:y≠X:=λe=>by simp_all
  rw[ab.ah _ _ y6,fv.2 y Y,ab.ah _ _ y6,ej.2 y Y,ab.ah _ _ y4];exact y0
 have pb:σ.del c P=none:=by simp[ab.del,p8]
 have x8:σ.del c X=none:=by simp[ab.del,h4]
 have k0:(ea.set P (.cells (A6 (.lit (.slice none 0 0))))) X=some (.cells fF):=by rw[ab.ah _ _ (zj fu)];exact t4
 refine aa.loop mo (λi s=>∃env σ' la ha L H,s=⟨env,σ',[],.no⟩/\env 0=.ref c 0/\env 1=int cnt/\env 4=.ref X 0/\env 6=.ref P 0/\env 7=la/\env 8=ha/\env 9=int i/\bn c nums (k+21+12*i) σ'/\σ' X=some (.cells fF)/\σ' P=some (.cells (A6 (.lit (.slice none 0 0))))/\cD (σ.del c) σ' la 6 (L.map ba)/\Tok (σ.del c) σ' ha 1 (H.map int)/\eo la≠some c/\eo la≠some X/\eo la≠some P/\L.length=i/\H.length=i/\(∀e∈L,xq f0.roads.length e)/\(∀x∈H,13<=x/\x<=16))
  ⟨_,ea.set P (.cells (A6 (.lit (.slice none 0 0)))),.lit (.slice none 0 0),.lit (.slice none 0 0),[],[],by rw[ep],by simp,by simp,by simp,by simp,by simp,by simp,by simp,ix,k0,ab.aj _ _ _,⟨al,.inl ⟨rfl,.inl rfl⟩⟩,⟨al,.inl ⟨rfl,rfl⟩⟩,by simp[eo],by simp[eo],by simp[eo],rfl,rfl,by simp⟩ ?_
 clear ix al k0
 rintro c0 i _ hi ⟨env,σ',la,ha,L,H,rfl,D,e1,G,E,F,J,e9,fw,q4,q6,et,ev,ey,fx,fO,k2,pd,h9,k3⟩ ih
 have b5:=et.cells;have d:=ev.cells;have a7:σ' P=some (.cells [.lit (.slice none 0 0),rows f0.roads,int f0.aS,int f0.ew,int f0.cK,int mo]):=by rw[q6,ep]
 rcases Zb i mo with g1|g1
 . have k5:(i:Int)<mo:=by omega
   have f1:-9223372036854775808<=(i:Int)+1/\(i:Int)+1<=9223372036854775807:=by omega
   apply rn;simp[D,e1,G,E,F,J,e9,a7,b5.1,b5.2,d.1,d.2,g1];refine cf Tryz.func25 rfl (nY (by omega) hn ⟨by omega,by omega⟩ fw λe a8 he U=>?_)
   have k7:∃l,σ' c=some (.cells l):=by obtain⟨_,_,_,q⟩:=fw;exact⟨_,q⟩
   have eB:=Gs et b4 ey U.2;have k8:=qc ev b4 k7 U.2;have eK:a8 X=some (.cells fF):=by rw[U.2 X bx];exact q4
   have eN:a8 P=some (.cells (A6 (.lit (.slice none 0 0)))):=by rw[U.2 P n6];exact q6
   apply rn;simp[D,e1,G,E,F,J,e9,a7,b5.1,b5.2,d.1,d.2];refine rJ lay rfl rfl rfl ki rfl ki rfl uZ (by decide) (by simp;omega) (σ0:=a8.Al la) (es:=L.map ba) (xs:=[ba e]) (by simpa using eB.here.1) (.inl (.inr ⟨_,by simp;rfl⟩)) (by simp) λgd aO av=>?_
   have k4:∀y l,eo la≠some y->a8 y=some l->aO y=some l:=λy l hy hl=>av.1 _ _ (by rw[ab.pR hy];exact hl)
   have kt:=OB k8 eB av;have ho:=av.base eB.here.2
   have kv:bn c nums (k+21+12*i+11) aO:=by obtain⟨n,z,g1,g2⟩:=U.1;exact⟨n,z,g1,k4 _ _ ey g2⟩
   have gC:eo gd≠some c:=λq=>by obtain⟨g,_⟩:=av.lf q;obtain⟨_,_,_,g2⟩:=U.1;rw[ab.pR ey,g2]at g;cases g
   have kx:eo gd≠some X:=λq=>by obtain⟨g,_⟩:=av.lf q;rw[ab.pR fx,eK]at g;cases g
   have ky:eo gd≠some P:=λq=>by obtain⟨g,_⟩:=av.lf q;rw[ab.pR fO,eN]at g;cases g
   have aL:=av.cells;apply rn;simp[D,J,aL.1,aL.2];refine cf Tryz.func14 rfl (ed (by omega) hn ⟨by omega,by omega⟩ ⟨by omega,by omega⟩ kv λx eb pk b1=>?_)
   have l1:∃l,aO c=some (.cells l):=by obtain⟨_,_,_,q⟩:=kv;exact⟨_,q⟩
   have c9:=qc kt b4 l1 b1.2;have l2:=Gs ho b4 gC b1.2;apply rn;simp[D,J,aL.1,aL.2,d.1,d.2];refine aQ lay rfl rfl rfl eC rfl eC rfl uI (by decide) (by simp;omega) (σ0:=eb.off ha) (es:=H.map int) (xs:=[int x]) (by simpa using c9.here.1) (.inr ⟨_,by simp;rfl⟩) λps σ6 ca=>?_
   have l3:=OC l2 c9 ca;have hv:=ca.base c9.here.2;have gD:=ca.cells;have k6:∀y l,eb y=some (.cells l)->σ6 y=some (.cells l):=λy l hy=>ca.1 _ _ (by rw[ab.fK (λe=>by obtain⟨_,_,q⟩:=c9.bb e;rw[hy]at q;cases q)];exact hy)
   have pA:σ6 X=some (.cells fF):=k6 _ _ (by rw[b1.2 X bx];exact k4 _ _ fx eK)
   have pB:σ6 P=some (.cells (A6 (.lit (.slice none 0 0)))):=k6 _ _ (by rw[b1.2 P n6];exact k4 _ _ fO eN)
   have b2:bn c nums (k+21+12*(i+1)) σ6:=by obtain⟨n,z,g1,g2⟩:=b1.1;exact⟨n,z,by omega,k6 _ _ g2⟩
   apply rn;simp[D,e9,f1.1,f1.2,aL.1,aL.2,gD.1,gD.2];refine ih _ g1 ⟨_,σ6,gd,ps,L++[e],H++[x],rfl,by simp[D],by simp[e1],by simp[G],by simp[E],by simp,by simp,by simp,b2,pA,pB,by simpa using l3,by simpa using hv,gC,kx,ky,by simp[k2],by simp[pd],λy hy=>?_,λy hy=>?_⟩
   . rcases YH.1 hy with hy|hy
     . exact h9 y hy
     . simp at hy;subst hy;exact he
   . rcases YH.1 hy with hy|hy
     . exact k3 y hy
     . simp at hy;omega
 . have pO:i=mo:=by omega
   subst pO;clear ih
   obtain⟨Q,cap,rest,rfl,r1,r2,r3,r4,r5⟩:∃Q cap rest,la=.gq Q 0 i cap/\σ.del c Q=none/\i<=cap/\(∀e∈L.map ba,e.cells.length=6)/\σ' Q=some (.cells (flatten (L.map ba)++rest))/\rest.length=(cap-i)*6:=by
    have eR:(L.map ba).length=i:=by simp_all
    rcases et.2 with⟨e,_⟩|⟨b,cap,rest,g1,g2,g3,g4,g5,g6⟩
    . grind
    . rw[eR]at g1 g3 g6
      grind
   have ay:Q≠c:=λe=>ey (by rw[e];rfl)
   have q0:Q≠X:=λe=>fx (by rw[e];rfl)
   have hz:Q≠P:=λe=>fO (by rw[e];rfl)
   have wm:σ Q=none:=by simpa[ab.del,ay]using r1
   refine aa.MZ 8 (a':=ints H) (by rw[J];simpa using ev.W) ?_
   have b8:=ev.1;clear et ev b5 d ey fx fO J;apply rn;simp[D,e1,G,E,F,e9,a7];refine cf Tryz.func14 rfl (ed (by omega) hn ⟨by omega,by omega⟩ ⟨by omega,by omega⟩ fw λq a8 hq U=>?_)
   have eK:a8 X=some (.cells fF):=by rw[U.2 X bx];exact q4
   have eN:a8 P=some (.cells (A6 (.lit (.slice none 0 0)))):=by rw[U.2 P n6];exact q6
   have l4:a8 Q=some (.cells (flatten (L.map ba)++rest)):=by rw[U.2 Q ay];exact r4
   have al:(σ.del c).Le a8:=λy x hy=>by
    have Y:y≠c:=λe=>by simp_all
    rw[U.2 y Y];exact b8 y x hy
   obtain⟨qn,rfl⟩:∃qn:Nat,q=(qn:Int):=⟨q.toNat,by omega⟩
   have x9:1<=qn/\qn<=6:=by omega
   have gG:bn c nums (k+60) a8:=U.1.mono (by omega)
   obtain⟨C,hC⟩:∃C,C=L.map (·.cP):=⟨_,rfl⟩;obtain⟨f1,eW⟩:∃f1:Fr,f1=⟨[],f0.roads,f0.aS,f0.ew,f0.cK,(i:Int)⟩:=⟨_,rfl⟩
   have cb:Seen f1 i C H [] [] L:=⟨rfl,by simp,by simp,λj hj=>by simp at hj,λj hj=>by simp at hj,λa b _ hb=>by simp at hb,λj hj=>by simp at hj,λj hj=>by simp_all,k2⟩
   have gH:∀e∈L,MH f0.roads.length e:=λe he=>by have:=h9 e he;exact⟨⟨this.hour.1,by have:=this.hour;omega⟩,this.place,this.cP,this.marks,⟨by have:=this.bp;omega,by have:=this.bp;omega⟩,this.jr⟩
   apply rn;simp[D,e1,G,E,F,e9,a7];have l5:=D;have l6:=G;have l7:=E;have lj:=F;clear D e1 G E F e9 a7 h9 r3
   refine aa.loop qn (λj s=>∃env σ' a hh M es ks,s=⟨env,σ',[],.no⟩/\env 0=.ref c 0/\env 4=.ref X 0/\env 6=.ref P 0/\env 7=.gq Q 0 i cap/\env 8=ints H/\env 10=hh/\env 11=int ((qn:Int)-j)/\bn c nums (k+60+16*j) σ'/\σ' X=some (.cells fF)/\σ' P=some (.cells (A6 a))/\σ' Q=some (.cells (flatten (M.map ba)++rest))/\Tok (σ.del c) σ' a 6 (es.map ba)/\Tok (σ.del c) σ' hh 1 (ks.map int)/\(∀b,bH a=some b->bH hh≠some b)/\Seen f1 i C H ks es M/\(∀e∈M,MH f0.roads.length e)/\(∀e∈es,e.marks.length<=3)/\es.length<=j)
    ⟨_,a8,.lit (.slice none 0 0),.lit (.slice none 0 0),L,[],[],rfl,by simp[l5],by simp[l6],by simp[l7],by simp[lj],by simp,by simp,by simp,gG,eK,eN,l4,⟨al,.inl ⟨rfl,rfl⟩⟩,⟨al,.inl ⟨rfl,rfl⟩⟩,λb hb=>by simp[bH]at hb,cb,gH,by simp⟩ ?_
   clear l5 l6 l7 lj gG eK eN l4 al b8 cb gH q4 q6 fw U r4
   rintro c1 j _ hj ⟨env,σ',a,hh,M,es,ks,rfl,D,G,E,F,J,bc,aX,hA,q4,q6,ql,b9,ec,gI,O,gf,hB,xb⟩ ih
   have o:=b9.cells;have d:=ec.cells;have a7:σ' P=some (.cells [a,rows f0.roads,int f0.aS,int f0.ew,int f0.cK,int i]):=by rw[q6,ep]
   rcases Zb j qn with g1|g1
   . have k5 : (0 : Int)<(qn:Int)-j:=by omega
     have Ef:(j:Int)<qn:=by omega
     have f2:-9223372036854775808<=(i:Int)-1/\(i:Int)-1<=9223372036854775807:=by omega
     have f3:-9223372036854775808<=(qn:Int)-j-1/\(qn:Int)-j-1<=9223372036854775807:=by omega
     apply rn;simp[D,G,E,F,J,bc,aX,o.1,o.2,d.1,d.2,k5,Ef,g1,a7,f2.1,f2.2];refine cf Tryz.func15 rfl (eF (by omega) hn ⟨by omega,by omega⟩ hA λkk a8 xo U=>?_)
     obtain⟨R,rfl⟩:∃R:Nat,kk=(R:Int):=⟨kk.toNat,by omega⟩
     have bA:R<i:=by omega
     have w6:a8 P=some (.cells [a,rows f0.roads,int f0.aS,int f0.ew,int f0.cK,int i]):=by rw[U.2 P n6];exact a7
     apply rn;simp[D,G,E,F,J,bc,aX,o.1,o.2,d.1,d.2,w6];refine cf Tryz.func25 rfl (nY (by omega) hn ⟨by omega,by omega⟩ U.1 λe aO he hD=>?_)
     have bB:∀y,y≠c->aO y=σ' y:=λy hy=>(hD.2 y hy).trans (U.2 y hy)
     have w6:aO P=some (.cells [a,rows f0.roads,int f0.aS,int f0.ew,int f0.cK,int i]):=by rw[bB P n6];exact a7
     have wl:aO Q=some (.cells (flatten (M.map ba)++rest)):=by rw[bB Q ay];exact ql
     have w4:aO X=some (.cells fF):=by rw[bB X bx];exact q4
     apply rn;simp[D,G,E,F,J,bc,aX,o.1,o.2,d.1,d.2,w6];refine cz.intro λc13 lp=>?_
     have m0:c13≠c:=λe=>by subst e;obtain⟨_,_,_,q⟩:=hD.1;simp_all
     have m4:c13≠X:=λe=>by subst e;simp_all
     have m6:c13≠P:=λe=>by subst e;simp_all
     have ml:c13≠Q:=λe=>by subst e;simp_all
     have gj:R<M.length:=by rw[O.Qr];exact bA
     obtain⟨el,eR⟩:∃el,el=M[R]:=⟨_,rfl⟩;have bm:=gf el (by rw[eR];exact zD gj)
     obtain⟨CL,eX⟩:∃CL,CL=flatten (M.map ba)++rest:=⟨_,rfl⟩;rw[<-eX]at wl;have hE:∀x∈M.map ba,x.cells.length=6:=λx hx=>by obtain⟨y,_,rfl⟩:=YN.1 hx;rfl
     have gP:(flatten (M.map ba)).length=M.length*6:=by rw[bG (kk:=6) hE,YV]
     have cg:∀t,t<6->CL[R*6+t]?=(ba el).cells[t]?:=λt ht=>by
      rw[eX,Zn (by omega)]
      exact lS (kk:=6) hE (by rw[YY,zR gj,eR];rfl) t ht
     have lA:=cg 0 (by omega)
     have lB:=cg 1 (by omega)
     have m1:=cg 2 (by omega)
     have m2:=cg 3 (by omega)
     simp at lA lB m1 m2;simp[D,G,E,F,J,bc,aX,o.1,o.2,d.1,d.2,wl,ab.ah,zj ml,bA,m1,aH]
     have q5:∀x,bn c nums (k+60+16*j+12) (aO.set c13 x):=λx=>by obtain⟨n,z,g1,g2⟩:=hD.1;exact⟨n,z,by omega,by rw[ab.ah _ _ (zj m0)];exact g2⟩
     refine cf Tryz.func15 rfl (eF (by omega) hn ⟨by omega,by omega⟩ (q5 _) λsh eb pk b1=>?_)
     have hF:eb c13=some (.cells [int e.hour,int e.place,int el.cP,ints e.marks,int e.bp,int e.jr]):=by rw[b1.2 c13 m0,ab.aj]
     have ee:R<H.length:=by omega
     obtain⟨h0,eg⟩:∃h0,h0=H[R]:=⟨_,rfl⟩;have wK:13<=h0/\h0<=16:=k3 _ (by rw[eg];exact zD ee)
     have hG:(H.map int)[R]?=some (int h0):=by rw[YY,zR ee,eg];rfl
     have m3:sh=0\/sh=1\/sh=2:=by omega
     have gR:0<=sh/\sh<=2:=by omega
     have md:f0.aS<=f0.ew:=Z.to.1;have xt:0<=f0.aS/\f0.ew<=2:=⟨Z.fr.1,Z.to.2⟩
     have hH:∀x,bn c nums (k+60+16*j+13) (eb.set c13 x):=λx=>by obtain⟨n,z,g1,g2⟩:=b1.1;exact⟨n,z,by omega,by rw[ab.ah _ _ (zj m0)];exact g2⟩
     have hK:∀y,y≠c->y≠c13->eb y=σ' y:=λy Y y2=>by rw[b1.2 y Y,ab.ah _ _ y2,bB y Y]
     have wL:ks.length<1000000:=by rw[O.len];omega
     apply xV (I:=λenv σ6=>∃b,env 0=.ref c 0/\env 4=.ref X 0/\env 6=.ref P 0/\env 7=.gq Q 0 i cap/\env 8=ints H/\env 10=hh/\env 11=int ((qn:Int)-j)/\env 12=int R/\env 13=.ref c13 0/\env 80=bool b/\bn c nums (k+60+16*j+14) σ6/\σ6 c13=some (.cells [int e.hour,int e.place,int el.cP,ints e.marks,int h0,int sh])/\(∀y,y≠c->y≠c13->σ6 y=σ' y)/\(b=true->sh≠0)/\(b=false->sh≠1))
     . intro T
       rcases m3 with rfl|rfl|rfl
       . refine aa.runN lay [] 28 ?_
         simp[D,G,E,F,J,bc,aX,o.1,o.2,d.1,d.2,hF,hG,ee,aH,<-eg]
         refine T _ _ ⟨false,by simp[D,G,E,F,J,bc,aX,o.1,o.2,d.1,d.2],by simp[D,G,E,F,J,bc,aX,o.1,o.2,d.1,d.2],by simp[D,G,E,F,J,bc,aX,o.1,o.2,d.1,d.2],by simp[D,G,E,F,J,bc,aX,o.1,o.2,d.1,d.2],by simp[D,G,E,F,J,bc,aX,o.1,o.2,d.1,d.2],by simp[D,G,E,F,J,bc,aX,o.1,o.2,d.1,d.2],by simp[D,G,E,F,J,bc,aX,o.1,o.2,d.1,d.2],by simp[D,G,E,F,J,bc,aX,o.1,o.2,d.1,d.2],by simp[D,G,E,F,J,bc,aX,o.1,o.2,d.1,d.2],by simp[D,G,E,F,J,bc,aX,o.1,o.2,d.1,d.2],(hH _).mono (by omega),ab.aj _ _ _,λy Y y2=>by rw[ab.ah _ _ y2];exact hK y Y y2,by simp⟩
       . refine aa.runN lay [] 28 ?_
         simp[D,G,E,F,J,bc,aX,o.1,o.2,d.1,d.2,hF,hG,ee,aH,<-eg]
         refine T _ _ ⟨true,by simp[D,G,E,F,J,bc,aX,o.1,o.2,d.1,d.2],by simp[D,G,E,F,J,bc,aX,o.1,o.2,d.1,d.2],by simp[D,G,E,F,J,bc,aX,o.1,o.2,d.1,d.2],by simp[D,G,E,F,J,bc,aX,o.1,o.2,d.1,d.2],by simp[D,G,E,F,J,bc,aX,o.1,o.2,d.1,d.2],by simp[D,G,E,F,J,bc,aX,o.1,o.2,d.1,d.2],by simp[D,G,E,F,J,bc,aX,o.1,o.2,d.1,d.2],by simp[D,G,E,F,J,bc,aX,o.1,o.2,d.1,d.2],by simp[D,G,E,F,J,bc,aX,o.1,o.2,d.1,d.2],by simp[D,G,E,F,J,bc,aX,o.1,o.2,d.1,d.2],(hH _).mono (by omega),ab.aj _ _ _,λy Y y2=>by rw[ab.ah _ _ y2];exact hK y Y y2,by simp⟩
       . refine aa.runN lay [] 28 ?_
         simp[D,G,E,F,J,bc,aX,o.1,o.2,d.1,d.2,hF,hG,ee,aH,<-eg];refine cf Tryz.func13 rfl (vq (by omega) hn ⟨by omega,by omega⟩ (hH _) λb σ6 hL=>?_)
         refine aa.runN lay [] 3 ?_;simp[D,G,E,F,J,bc,aX,o.1,o.2,d.1,d.2]
         refine T _ _ ⟨b,by simp[D,G,E,F,J,bc,aX,o.1,o.2,d.1,d.2],by simp[D,G,E,F,J,bc,aX,o.1,o.2,d.1,d.2],by simp[D,G,E,F,J,bc,aX,o.1,o.2,d.1,d.2],by simp[D,G,E,F,J,bc,aX,o.1,o.2,d.1,d.2],by simp[D,G,E,F,J,bc,aX,o.1,o.2,d.1,d.2],by simp[D,G,E,F,J,bc,aX,o.1,o.2,d.1,d.2],by simp[D,G,E,F,J,bc,aX,o.1,o.2,d.1,d.2],by simp[D,G,E,F,J,bc,aX,o.1,o.2,d.1,d.2],by simp[D,G,E,F,J,bc,aX,o.1,o.2,d.1,d.2],by simp[D,G,E,F,J,bc,aX,o.1,o.2,d.1,d.2],hL.1,by rw[hL.2 c13 m0,ab.aj],λy Y y2=>by rw[hL.2 y Y,ab.ah _ _ y2];exact hK y Y y2,by simp⟩
     clear D G E F J bc aX
     rintro env σ6 ⟨b,D,G,E,F,J,bc,aX,bO,K,gl,b2,a9,aC,mf,mg⟩
     apply xV (I:=λenv σ6=>∃ht,env 0=.ref c 0/\env 4=.ref X 0/\env 6=.ref P 0/\env 7=.gq Q 0 i cap/\env 8=ints H/\env 10=hh/\env 11=int ((qn:Int)-j)/\env 12=int R/\env 13=.ref c13 0/\env 95=int (nW ks R)/\bn c nums (k+60+16*j+15) σ6/\σ6 c13=some (.cells [int e.hour,int e.place,int el.cP,ints e.marks,int ht,int sh])/\(∀y,y≠c->y≠c13->σ6 y=σ' y)/\((sh≠1/\ht=h0)\/(sh≠0/\∃y,f0.aS<=y/\y<=f0.ew/\ht=h0+y)))
     . intro T
       have hW:Wl [hh,int R] [ints ks,int R]:=.cons (by simpa using ec.W) (.cons (.refl _) .nil)
       cases b
       . apply rn
         simp[D,G,E,F,J,bc,aX,bO,K,gl];refine dQ Tryz.func8 rfl rfl hW (m5 (by omega) ?_)
         refine T _ _ ⟨h0,?_,?_,?_,?_,?_,?_,?_,?_,?_,?_,b2.mono (by omega),a9,aC,.inl ⟨mg rfl,rfl⟩⟩<;>simp[D,G,E,F,J,bc,aX,bO,K,gl]
       . have v6 : σ6 P=some (.cells [a,rows f0.roads,int f0.aS,int f0.ew,int f0.cK,int i]):=by rw[aC P n6 (zj m6)];exact a7
         have xF:=Z.fr;have et:=Z.to;apply rn;simp[D,G,E,F,J,bc,aX,bO,K,gl,a9,v6,aH]
         repeat' (first
                   |apply And.intro
                   | (refine cf Tryz.func14 rfl (ed (by omega) hn ⟨by omega,by omega⟩ ⟨by omega,by omega⟩ b2 λy S hy hO=>?_)
                      have q7:S c13=some (.cells [int e.hour,int e.place,int el.cP,ints e.marks,int h0,int sh]):=by rw[hO.2 c13 m0];exact a9
                      have f4:-9223372036854775808<=h0+y/\h0+y<=9223372036854775807:=by omega
                      apply pg;simp[D,G,E,F,J,bc,aX,bO,K,q7,f4.1,f4.2,aH];apply rn;simp[D,G,E,F,J,bc,aX,bO,K];refine dQ Tryz.func8 rfl rfl hW (m5 (by omega) ?_)
                      refine T _ _ ⟨h0+y,by simp[D],by simp[G],by simp[E],by simp[F],by simp[J],by simp[bc],by simp[aX],by simp[bO],by simp[K],by simp,?_,ab.aj _ _ _,λz Y y2=>by rw[ab.ah _ _ y2,hO.2 z Y];exact aC z Y y2,.inr ⟨mf rfl,y,by omega,by omega,rfl⟩⟩
                      obtain⟨n,z,g1,g2⟩:=hO.1;exact⟨n,z,by omega,by rw[ab.ah _ _ (zj m0)];exact g2⟩))
     clear b2 a9 aC D G E F J bc aX bO K gl mf mg
     rintro env σ6 ⟨ht,D,G,E,F,J,bc,aX,bO,K,ad,b2,a9,aC,mi⟩
     have hP:0<=ht/\ht<=30:=by rcases mi with⟨_,q⟩|⟨_,y,q1,q2,q3⟩<;>omega
     have aE:=Fr.pq (Z.fits (by omega)) (Z.check (by omega))
     have xG:∀x∈M,x.marks.length<=3:=λx hx=>(kT (gf x hx).marks).2
     have q9:=(kT he.marks).2;have wN:=(kT bm.marks).2;have mj:=he.place;have mm:=bm.place;have wS:=bm.hour;have mw:=Z.cK;apply xV (I:=λenv S=>∃hr,env 0=.ref c 0/\env 4=.ref X 0/\env 6=.ref P 0/\env 7=.gq Q 0 i cap/\env 8=ints H/\env 10=hh/\env 11=int ((qn:Int)-j)/\env 12=int R/\env 13=.ref c13 0/\bn c nums (k+60+16*j+16) S/\S c13=some (.cells [int hr,int e.place,int el.cP,ints e.marks,int ht,int sh])/\(∀y,y≠c->y≠c13->S y=σ' y)/\(0<=hr/\hr<=1000)/\((R:Int)∈ks->L5 f1 el {e with hour:=hr}))
     . intro T
       by_cases hR:(R:Int)∈ks
       . have q2:nW ks R>=0:=(jS ks R).2 hR
         obtain⟨rw,cm⟩:∃rw,rw=f0.roads[el.place.toNat]'(by omega):=⟨_,rfl⟩
         have gU:=aE.row (i:=el.place.toNat) (by omega)
         rw[<-cm]at gU;have cv:e.place.toNat<rw.length:=by omega
         obtain⟨r,gp⟩:∃r,r=rw[e.place.toNat]:=⟨_,rfl⟩;have xM:=gU.2 r (by rw[gp];exact zD cv)
         have b3:el.place.toNat<f0.roads.length:=by omega
         have qb:(f0.roads.map ints)[el.place.toNat]?=some (ints rw):=by rw[YY,zR b3,cm];rfl
         have hr:(rw.map int)[e.place.toNat]?=some (int r):=by rw[YY,zR cv,gp];rfl
         have mx:=cv;obtain⟨ch,hS⟩:∃ch,ch=TY el.marks e.marks:=⟨_,rfl⟩
         have fc:0<=ch/\ch<=6:=by have q1:=nj el.marks e.marks;have q2:=nj e.marks el.marks;rw[hS];unfold TY;omega
         have y3:0<=f0.cK*ch/\f0.cK*ch<=24:=⟨Int.mul_nonneg (by omega) fc.1,Int.le_trans (Int.mul_le_mul mw.2 fc.2 fc.1 (by omega)) (by omega)⟩
         have mA:-9223372036854775808<=el.hour+r/\el.hour+r<=9223372036854775807:=by omega
         have mB:-9223372036854775808<=f0.cK*ch/\f0.cK*ch<=9223372036854775807:=by omega
         have n2:-9223372036854775808<=el.hour+r+f0.cK*ch/\el.hour+r+f0.cK*ch<=9223372036854775807:=by omega
         have hT:σ6 Q=some (.cells CL):=by rw[aC Q ay (zj ml),<-bB Q ay];exact wl
         have h1:σ6 P=some (.cells [a,rows f0.roads,int f0.aS,int f0.ew,int f0.cK,int i]):=by rw[aC P n6 (zj m6)];exact a7
         refine aa.runN lay [] 3 ?_;simp[D,G,E,F,J,bc,aX,bO,K,ad,q2]
         obtain⟨V,hV⟩:∃V:Nat->AV,V=λj=>([.gq Q 0 i cap,int R,.ref Q (R*6),.ref Q (R*6),int el.hour,.ref P 1,rows f0.roads,.gq Q 0 i cap,int R,.ref Q (R*6),.ref Q (R*6+1),int el.place,.cp (ints rw) 0,ints rw,.ref c13 1,int e.place,.cp (int r) 0,int r,int (el.hour+r),.ref P 4,int f0.cK,.gq Q 0 i cap,int R,.ref Q (R*6),.ref Q (R*6+3),ints el.marks,.ref c13 3,ints e.marks,int ch,int (f0.cK*ch),int (el.hour+r+f0.cK*ch),.ref c 0,.sl 1 (([0,0,1,3]:abe).map int) .exact,int 0,int 0,.ref c13 0]:abj).getD j (int 0):=⟨_,rfl⟩
         have w:∀j,V j=_:=λj=>congrFun hV j
         refine aa.N2 (Gt V (env.upd 96 (bool true)) σ6 c c13 (k+60+16*j+16) nums (el.hour+r+f0.cK*ch) (λz=>[int z,int e.place,int el.cP,ints e.marks,int ht,int sh])) lay.mixed (by rfl) ⟨λ_ _=>rfl,by simp,λ_=>rfl,by simp,by simp,by simp,by simp,by simp⟩ ?_ ?_
         . intro done i u S N B n3 A
           have n3:i<37:=n3
           rcases(show i=0\/i=1\/i=2\/i=3\/i=4\/i=5\/i=6\/i=7\/i=8\/i=9\/i=10\/i=11\/i=12\/i=13\/i=14\/i=15\/i=16\/i=17\/i=18\/i=19\/i=20\/i=21\/i=22\/i=23\/i=24\/i=25\/i=26\/i=27\/i=28\/i=29\/i=30\/i=31\/i=32\/i=33\/i=34\/i=35\/i=36 by omega)with rfl|rfl|rfl|rfl|rfl|rfl|rfl|rfl|rfl|rfl|rfl|rfl|rfl|rfl|rfl|rfl|rfl|rfl|rfl|rfl|rfl|rfl|rfl|rfl|rfl|rfl|rfl|rfl|rfl|rfl|rfl|rfl|rfl|rfl|rfl|rfl|rfl
           . have b7:u 7=.gq Q 0 i cap:=(A.base 7 (by omega)).trans F
             refine bh lay (mu:=[]) ?_;simp[b7];exact A.next (i:=0) (by omega) B (by omega) (by omega) ((w 0).symm)
           . have fg:u 12=int R:=(A.base 12 (by omega)).trans bO
             refine bh lay (mu:=[]) ?_;simp[fg];exact A.next (i:=1) (by omega) B (by omega) (by omega) ((w 1).symm)
           . have d0:u 97=.gq Q 0 i cap:=(A.dA 0 (N 0 (by rfl)) (by omega) (by omega) (by omega)).trans (w 0)
             have d1:u 98=int R:=(A.dA 1 (N 1 (by rfl)) (by omega) (by omega) (by omega)).trans (w 1)
             refine bh lay (mu:=[]) ?_;simp[d0,d1,bA];exact A.next (i:=2) (by omega) B (by omega) (by omega) ((w 2).symm)
           . have d2:u 99=.ref Q (R*6):=(A.dA 2 (N 2 (by rfl)) (by omega) (by omega) (by omega)).trans (w 2)
             refine bh lay (mu:=[]) ?_;simp[d2];exact A.next (i:=3) (by omega) B (by omega) (by omega) ((w 3).symm)
           . have d3:u 100=.ref Q (R*6):=(A.dA 3 (N 3 (by rfl)) (by omega) (by omega) (by omega)).trans (w 3)
             have kl:=A.keep (by omega) B (y:=Q) ay;rw[hT]at kl
             refine bh lay (mu:=[]) ?_;simp[kl,lA,d3];exact A.next (i:=4) (by omega) B (by omega) (by omega) ((w 4).symm)
           . have b6:u 6=.ref P 0:=(A.base 6 (by omega)).trans E
             refine bh lay (mu:=[]) ?_;simp[b6];exact A.next (i:=5) (by omega) B (by omega) (by omega) ((w 5).symm)
           . have d5:u 102=.ref P 1:=(A.dA 5 (N 5 (by rfl)) (by omega) (by omega) (by omega)).trans (w 5)
             have k6:=A.keep (by omega) B (y:=P) n6;rw[h1]at k6
             refine bh lay (mu:=[]) ?_;simp[k6,d5];exact A.next (i:=6) (by omega) B (by omega) (by omega) ((w 6).symm)
           . have b7:u 7=.gq Q 0 i cap:=(A.base 7 (by omega)).trans F
             refine bh lay (mu:=[]) ?_;simp[b7];exact A.next (i:=7) (by omega) B (by omega) (by omega) ((w 7).symm)
           . have fg:u 12=int R:=(A.base 12 (by omega)).trans bO
             refine bh lay (mu:=[]) ?_;simp[fg];exact A.next (i:=8) (by omega) B (by omega) (by omega) ((w 8).symm)
           . have d7:u 104=.gq Q 0 i cap:=(A.dA 7 (N 7 (by rfl)) (by omega) (by omega) (by omega)).trans (w 7)
             have d8:u 105=int R:=(A.dA 8 (N 8 (by rfl)) (by omega) (by omega) (by omega)).trans (w 8)
             refine bh lay (mu:=[]) ?_;simp[d7,d8,bA];exact A.next (i:=9) (by omega) B (by omega) (by omega) ((w 9).symm)
           . have d9:u 106=.ref Q (R*6):=(A.dA 9 (N 9 (by rfl)) (by omega) (by omega) (by omega)).trans (w 9)
             refine bh lay (mu:=[]) ?_;simp[d9];exact A.next (i:=10) (by omega) B (by omega) (by omega) ((w 10).symm)
           . have qi:u 107=.ref Q (R*6+1):=(A.dA 10 (N 10 (by rfl)) (by omega) (by omega) (by omega)).trans (w 10)
             have kl:=A.keep (by omega) B (y:=Q) ay;rw[hT]at kl
             refine bh lay (mu:=[]) ?_;simp[kl,lB,qi];exact A.next (i:=11) (by omega) B (by omega) (by omega) ((w 11).symm)
           . have d6:u 103=rows f0.roads:=(A.dA 6 (N 6 (by rfl)) (by omega) (by omega) (by omega)).trans (w 6)
             have qj:u 108=int el.place:=(A.dA 11 (N 11 (by rfl)) (by omega) (by omega) (by omega)).trans (w 11)
             refine bh lay (mu:=[]) ?_;simp[d6,qj,qb,b3];refine⟨mm.1,?_⟩;rw[<-cm];exact A.next (i:=12) (by omega) B (by omega) (by omega) ((w 12).symm)
           . have qq:u 109=.cp (ints rw) 0:=(A.dA 12 (N 12 (by rfl)) (by omega) (by omega) (by omega)).trans (w 12)
             refine bh lay (mu:=[]) ?_;simp[qq];exact A.next (i:=13) (by omega) B (by omega) (by omega) ((w 13).symm)
           . have fi:u 13=.ref c13 0:=(A.base 13 (by omega)).trans K
             refine bh lay (mu:=[]) ?_;simp[fi];exact A.next (i:=14) (by omega) B (by omega) (by omega) ((w 14).symm)
           . have qs:u 111=.ref c13 1:=(A.dA 14 (N 14 (by rfl)) (by omega) (by omega) (by omega)).trans (w 14)
             have c5:=A.keep (by omega) B (y:=c13) m0;rw[a9]at c5
             refine bh lay (mu:=[]) ?_;simp[c5,qs];exact A.next (i:=15) (by omega) B (by omega) (by omega) ((w 15).symm)
           . have r9:u 110=ints rw:=(A.dA 13 (N 13 (by rfl)) (by omega) (by omega) (by omega)).trans (w 13)
             have ra:u 112=int e.place:=(A.dA 15 (N 15 (by rfl)) (by omega) (by omega) (by omega)).trans (w 15)
             refine bh lay (mu:=[]) ?_;simp[r9,ra,hr,mx];refine⟨mj.1,?_⟩;rw[<-gp];exact A.next (i:=16) (by omega) B (by omega) (by omega) ((w 16).symm)
           . have rh:u 113=.cp (int r) 0:=(A.dA 16 (N 16 (by rfl)) (by omega) (by omega) (by omega)).trans (w 16)
             refine bh lay (mu:=[]) ?_;simp[rh];exact A.next (i:=17) (by omega) B (by omega) (by omega) ((w 17).symm)
           . have d4:u 101=int el.hour:=(A.dA 4 (N 4 (by rfl)) (by omega) (by omega) (by omega)).trans (w 4)
             have ri:u 114=int r:=(A.dA 17 (N 17 (by rfl)) (by omega) (by omega) (by omega)).trans (w 17)
             refine bh lay (mu:=[]) ?_;simp[d4,ri,mA.1,mA.2];exact A.next (i:=18) (by omega) B (by omega) (by omega) ((w 18).symm)
           . have b6:u 6=.ref P 0:=(A.base 6 (by omega)).trans E
             refine bh lay (mu:=[]) ?_;simp[b6];exact A.next (i:=19) (by omega) B (by omega) (by omega) ((w 19).symm)
           . have rj:u 116=.ref P 4:=(A.dA 19 (N 19 (by rfl)) (by omega) (by omega) (by omega)).trans (w 19)
             have k6:=A.keep (by omega) B (y:=P) n6;rw[h1]at k6
             refine bh lay (mu:=[]) ?_;simp[k6,rj];exact A.next (i:=20) (by omega) B (by omega) (by omega) ((w 20).symm)
           . have b7:u 7=.gq Q 0 i cap:=(A.base 7 (by omega)).trans F
             refine bh lay (mu:=[]) ?_;simp[b7];exact A.next (i:=21) (by omega) B (by omega) (by omega) ((w 21).symm)
           . have fg:u 12=int R:=(A.base 12 (by omega)).trans bO
             refine bh lay (mu:=[]) ?_;simp[fg];exact A.next (i:=22) (by omega) B (by omega) (by omega) ((w 22).symm)
           . have rr:u 118=.gq Q 0 i cap:=(A.dA 21 (N 21 (by rfl)) (by omega) (by omega) (by omega)).trans (w 21)
             have rF:u 119=int R:=(A.dA 22 (N 22 (by rfl)) (by omega) (by omega) (by omega)).trans (w 22)
             refine bh lay (mu:=[]) ?_;simp[rr,rF,bA];exact A.next (i:=23) (by omega) B (by omega) (by omega) ((w 23).symm)
           . have rG:u 120=.ref Q (R*6):=(A.dA 23 (N 23 (by rfl)) (by omega) (by omega) (by omega)).trans (w 23)
             refine bh lay (mu:=[]) ?_;simp[rG];exact A.next (i:=24) (by omega) B (by omega) (by omega) ((w 24).symm)
           . have rM:u 121=.ref Q (R*6+3):=(A.dA 24 (N 24 (by rfl)) (by omega) (by omega) (by omega)).trans (w 24)
             have kl:=A.keep (by omega) B (y:=Q) ay;rw[hT]at kl
             refine bh lay (mu:=[]) ?_;simp[kl,m2,rM];exact A.next (i:=25) (by omega) B (by omega) (by omega) ((w 25).symm)
           . have fi:u 13=.ref c13 0:=(A.base 13 (by omega)).trans K
             refine bh lay (mu:=[]) ?_;simp[fi];exact A.next (i:=26) (by omega) B (by omega) (by omega) ((w 26).symm)
           . have rT:u 123=.ref c13 3:=(A.dA 26 (N 26 (by rfl)) (by omega) (by omega) (by omega)).trans (w 26)
             have c5:=A.keep (by omega) B (y:=c13) m0;rw[a9]at c5
             refine bh lay (mu:=[]) ?_;simp[c5,rT];exact A.next (i:=27) (by omega) B (by omega) (by omega) ((w 27).symm)
           . have s3:u 122=ints el.marks:=(A.dA 25 (N 25 (by rfl)) (by omega) (by omega) (by omega)).trans (w 25)
             have s4:u 124=ints e.marks:=(A.dA 27 (N 27 (by rfl)) (by omega) (by omega) (by omega)).trans (w 27)
             refine bh lay (mu:=[]) ?_;simp[s3,s4];refine cf Tryz.func26 rfl (Fi (by omega) (by omega) ?_)
             apply pg;simp;exact A.next (i:=28) (by omega) B (by omega) (by omega) (by rw[w,hS];rfl)
           . have s5:u 117=int f0.cK:=(A.dA 20 (N 20 (by rfl)) (by omega) (by omega) (by omega)).trans (w 20)
             have s6:u 125=int ch:=(A.dA 28 (N 28 (by rfl)) (by omega) (by omega) (by omega)).trans (w 28)
             refine bh lay (mu:=[]) ?_;simp[s5,s6,mB.1,mB.2];exact A.next (i:=29) (by omega) B (by omega) (by omega) ((w 29).symm)
           . have s7:u 115=int (el.hour+r):=(A.dA 18 (N 18 (by rfl)) (by omega) (by omega) (by omega)).trans (w 18)
             have s9:u 126=int (f0.cK*ch):=(A.dA 29 (N 29 (by rfl)) (by omega) (by omega) (by omega)).trans (w 29)
             refine bh lay (mu:=[]) ?_;simp[s7,s9,n2.1,n2.2];exact A.next (i:=30) (by omega) B (by omega) (by omega) ((w 30).symm)
           . have b0:u 0=.ref c 0:=(A.base 0 (by omega)).trans D
             refine bh lay (mu:=[]) ?_;simp[b0];exact A.next (i:=31) (by omega) B (by omega) (by omega) ((w 31).symm)
           . refine bh lay (mu:=[]) ?_
             simp;exact A.next (i:=32) (by omega) B (by omega) (by omega) ((w 32).symm)
           . have sg:u 128=.ref c 0:=(A.dA 31 (N 31 (by rfl)) (by omega) (by omega) (by omega)).trans (w 31)
             have si:u 129=.sl 1 (([0,0,1,3]:abe).map int) .exact:=(A.dA 32 (N 32 (by rfl)) (by omega) (by omega) (by omega)).trans (w 32)
             refine bh lay (mu:=[]) ?_;simp[sg,si];have sj:=A.pre B;subst sj;have so:34∉done:=λq=>B (A.dep q)
             refine cf Tryz.func27 rfl (mq (l:=[0,0,1,3]) (by omega) hn ⟨by decide,by decide⟩ b2 λp y5 hp n5=>?_)
             apply pg;simp;exact A.QB B so (p:=p) (by simp at hp;omega) (n5.1.mono (by omega)) n5.2
           . have sr:u 127=int (el.hour+r+f0.cK*ch):=(A.dA 30 (N 30 (by rfl)) (by omega) (by omega) (by omega)).trans (w 30)
             have c7:=N 33 (by rfl)
             obtain⟨p,hp,DZ,_⟩:=A.pick c7;have n7:-9223372036854775808<=el.hour+r+f0.cK*ch+p/\el.hour+r+f0.cK*ch+p<=9223372036854775807:=by omega
             refine bh lay (mu:=[]) ?_;simp[sr,DZ,n7.1,n7.2];exact A.summed B c7 hp DZ
           . have fi:u 13=.ref c13 0:=(A.base 13 (by omega)).trans K
             refine bh lay (mu:=[]) ?_;simp[fi];exact A.next (i:=35) (by omega) B (by omega) (by omega) ((w 35).symm)
           . have sy:u 132=.ref c13 0:=(A.dA 35 (N 35 (by rfl)) (by omega) (by omega) (by omega)).trans (w 35)
             have c7:=N 33 (by rfl)
             have tc:=N 34 (by rfl)
             obtain⟨p,hp,DZ,D5⟩:=A.pick c7;have D5:=D5 tc;obtain⟨td,h8⟩:=A.post c7 B;have c5:=(h8 c13 m0).trans a9;refine bh lay (mu:=[]) ?_;simp[sy,D5,c5,aH]
             refine⟨A.base,λj hj g3 g4 g5=>A.dA j ((YQ.1 hj).resolve_left (by omega)) g3 g4 g5,λq=>absurd (Zz _ c7) q,λ_ q=>absurd (aaq ..) q,λ_=>⟨p,hp,DZ,λ_=>D5⟩,λ_ j hj=>Zz _ (N j ((by decide:∀j:Fin 36,iX _ j.val 36=true) ⟨j,hj⟩)),λ_=>Zz _ c7,λ_=>⟨p,hp,?_,ab.aj _ _ _,λy Y y2=>by rw[ab.ah _ _ y2];exact h8 y Y⟩⟩
             obtain⟨n,z,g1,g2⟩:=td;exact⟨n,z,g1,by rw[ab.ah _ _ (zj m0)];exact g2⟩
         . intro done x0 S nh A
           obtain⟨p,hp,g1,g2,g3⟩:=A.fin (nh 36 (by decide))
           have hb:=λ(t:Nat) (ht:t<96)=>(A.base t (by omega)).trans (kJ (env:=env) (v:=bool true) (show t≠96 by omega))
           refine T _ _ ⟨el.hour+r+f0.cK*ch+p,(hb 0 (by omega)).trans D,(hb 4 (by omega)).trans G,(hb 6 (by omega)).trans E,(hb 7 (by omega)).trans F,(hb 8 (by omega)).trans J,(hb 10 (by omega)).trans bc,(hb 11 (by omega)).trans aX,(hb 12 (by omega)).trans bO,(hb 13 (by omega)).trans K,g1,g2,λy Y y2=>(g3 y Y y2).trans (aC y Y y2),by omega,λ_=>?_⟩
           have tf:rd f1.roads el.place.toNat e.place.toNat=r:=by rw[eW];unfold rd;rw[zA,zA,zR b3,Zt,<-cm,zR cv,<-gp];rfl
           have tm:f1.cK=f0.cK:=by rw[eW]
           unfold L5;rw[tf,tm,<-Dt bm.marks he.marks,<-hS];show r+f0.cK*ch<=el.hour+r+f0.cK*ch+p-el.hour;omega
       . have q2:¬nW ks R>=0:=λq=>hR ((jS ks R).1 q)
         refine aa.runN lay [] 4 ?_;simp[D,G,E,F,J,bc,aX,bO,K,ad,q2];refine T _ _ ⟨e.hour,by simp[D,G,E,F,J,bc,aX,bO,K,ad],by simp[D,G,E,F,J,bc,aX,bO,K,ad],by simp[D,G,E,F,J,bc,aX,bO,K,ad],by simp[D,G,E,F,J,bc,aX,bO,K,ad],by simp[D,G,E,F,J,bc,aX,bO,K,ad],by simp[D,G,E,F,J,bc,aX,bO,K,ad],by simp[D,G,E,F,J,bc,aX,bO,K,ad],by simp[D,G,E,F,J,bc,aX,bO,K,ad],by simp[D,G,E,F,J,bc,aX,bO,K,ad],b2.mono (by omega),a9,aC,by have:=he.hour;omega,λq=>absurd q hR⟩
     clear b2 a9 aC D G E F J bc aX bO K ad
     rintro env S ⟨hr,D,G,E,F,J,bc,aX,bO,K,nq,a9,ei,tr,nt⟩
     have ts:σ.del c c13=none:=by
      cases hx:σ.del c c13 with
      |none=>rfl
      |some x=>have:=b9.1 _ _ hx;rw[<-bB c13 m0,lp]at this;cases this
     have b8:(σ.del c).Le S:=λy x hy=>by
      have Y:y≠c:=λe=>by subst e;rw[b4]at hy;cases hy
      have y2:y≠c13:=λe=>by subst e;rw[ts]at hy;cases hy
      rw[ei y Y y2];exact b9.1 y x hy
     have hU:∀b x,σ' b=some x->(∀l,x≠.cells l)->S b=σ' b:=λb x hb hx=>by
      refine ei b (λe=>?_) λe=>?_
      . rw[e]at hb;obtain⟨_,_,_,q⟩:=hA;rw[q]at hb;cases hb;exact hx _ rfl
      . rw[e,<-bB c13 m0,lp]at hb;cases hb
     have dj:Tok (σ.del c) S a 6 (es.map ba):=sQ b9 b8 λb hb=>by obtain⟨g1,l,g2⟩:=b9.bb hb;exact⟨hU b _ g2 (by simp),g1⟩
     have dm:Tok (σ.del c) S hh 1 (ks.map int):=sQ ec b8 λb hb=>by obtain⟨g1,l,g2⟩:=ec.bb hb;exact⟨hU b _ g2 (by simp),g1⟩
     have t4:S X=some (.cells fF):=by rw[ei X bx (zj m4)];exact q4
     have t6:S P=some (.cells (A6 a)):=by rw[ei P n6 (zj m6)];exact q6
     have tl:S Q=some (.cells (flatten (M.map ba)++rest)):=by rw[ei Q ay (zj ml)];exact ql
     clear b9 ec q4 q6 ql a7 ei hU
     rcases Int.lt_or_le 72 hr with oc|oc
     . apply rn
       simp[D,G,E,F,J,bc,aX,bO,K,a9,oc,f3.1,f3.2];refine ih _ g1 ⟨_,S,a,hh,M,es,ks,rfl,by simp[D,G,E,F,J,bc,aX,bO,K],by simp[D,G,E,F,J,bc,aX,bO,K],by simp[D,G,E,F,J,bc,aX,bO,K],by simp[D,G,E,F,J,bc,aX,bO,K],by simp[D,G,E,F,J,bc,aX,bO,K],by simp[D,G,E,F,J,bc,aX,bO,K],by simp;omega,nq.mono (by omega),t4,t6,tl,dj,dm,gI,O,gf,hB,by omega⟩
     . have oj:¬hr>72:=by omega
       obtain⟨n1,ow⟩:∃n1:u6,n1=⟨hr,e.place,el.cP,e.marks,ht,sh⟩:=⟨_,rfl⟩;obtain⟨bw,h2⟩:∃bw,bw=flatten ((M.set R n1).map ba)++rest:=⟨_,rfl⟩;have ox:R*6+6<=CL.length:=by rw[eX,YL,gP];omega
       have oF:aH CL (R*6) [int hr,int e.place,int el.cP,ints e.marks,int ht,int sh]=bw:=by
        have:=zT (k:=6) (M.map ba) R (ba n1) (by rw[YV];exact gj) hE rfl
        rw[h2,aal,<-this,eX];unfold aH;rw[List.take_append_of_le_length (by omega),List.drop_append_of_le_length (by rw[gP];simp;omega),ow]
        simp
       rw[<-eX]at tl;have b5:=dj.cells;have x3:=dm.cells;have oG:S P=some (.cells [a,rows f0.roads,int f0.aS,int f0.ew,int f0.cK,int i]):=by rw[t6,ep]
       have y9:=zj ml;apply rn;simp[D,G,E,F,J,bc,aX,bO,K,a9,oj,tl,bA,oF,ox,ab.ah,hz.symm,ml,oG,b5.1,b5.2];subst ow;have v5:bH a≠some Q:=λe=>by obtain⟨_,_,q⟩:=dj.bb e;rw[tl]at q;cases q
       have oK:bH hh≠some Q:=λe=>by obtain⟨_,_,q⟩:=dm.bb e;rw[tl]at q;cases q
       have dr:Tok (σ.del c) (S.set Q (.cells bw)) a 6 (es.map ba):=dj.beside r1 v5;have oL:Tok (σ.del c) (S.set Q (.cells bw)) hh 1 (ks.map int):=dm.beside r1 oK;have x4:(es.map ba).length<=6:=by rw[YV];omega
       have x5:(ks.map int).length<=6:=by rw[YV,O.len];omega
       refine aQ lay rfl rfl rfl ki rfl ki rfl uZ (by decide) (by simp;omega) (σ0:=(S.set Q (.cells bw)).off a) (es:=es.map ba) (xs:=[ba ⟨hr,e.place,el.cP,e.marks,ht,sh⟩]) (by simpa using dr.here.1) (.inr ⟨_,by simp;rfl⟩) λa' hX hY=>?_
       obtain⟨dx,v9⟩:=Bp oL dr (λb hb q=>gI b q hb) hY
       have h3:=hY.base dr.here.2;have k9:∀y l,(S.set Q (.cells bw)) y=some (.cells l)->hX y=some (.cells l):=λy l hy=>hY.1 _ _ (by rw[ab.fK (λe=>by obtain⟨_,_,q⟩:=dr.bb e;rw[hy]at q;cases q)];exact hy)
       have dy:=h3.cells;apply rn;simp[D,G,E,F,J,bc,aX,bO,K,dy.1,dy.2];refine aQ lay rfl rfl rfl eC rfl eC rfl uI (by decide) (by simp;omega) (σ0:=hX.off hh) (es:=ks.map int) (xs:=[int R]) (by simpa using dx.here.1) (.inr ⟨_,by simp;rfl⟩) λvc ax fl=>?_
       obtain⟨hZ,oM⟩:=Bp h3 dx (λb hb q=>v9 b q hb) fl
       have fp:=fl.base dx.here.2;have ft:=fp.cells;have gw:∀y l,hX y=some (.cells l)->ax y=some (.cells l):=λy l hy=>fl.1 _ _ (by rw[ab.fK (λe=>by obtain⟨_,_,q⟩:=dx.bb e;rw[hy]at q;cases q)];exact hy)
       have z6:ax P=some (.cells [a,rows f0.roads,int f0.aS,int f0.ew,int f0.cK,int i]):=gw _ _ (k9 _ _ (by rw[ab.ah _ _ (zj hz)];exact oG))
       have z4:ax X=some (.cells fF):=gw _ _ (k9 _ _ (by rw[ab.ah _ _ (zj q0)];exact t4))
       have zl:ax Q=some (.cells bw):=gw _ _ (k9 _ _ (ab.aj _ _ _));apply rn;simp[D,G,E,F,J,bc,aX,bO,K,z6,aH,dy.1,dy.2,ft.1,ft.2,f3.1,f3.2];have oN:MH f0.roads.length ⟨hr,e.place,el.cP,e.marks,ht,sh⟩:=⟨⟨tr.1,by omega⟩,he.place,bm.cP,he.marks,hP,gR⟩
       have oS:M.getD R rf=el:=by rw[zA,zR gj,eR];rfl
       have p0:H.getD R 0=h0:=by rw[zA,zR ee,eg];rfl
       have gA:=O.push (k:=R) (n:=⟨hr,e.place,el.cP,e.marks,ht,sh⟩) bA (by rw[eW];exact oN.check) (by rw[oS]) (by rw[p0,eW];refine MI md gR ?_;exact mi) (λq=>by rw[oS];exact nt q)
       have h5:∀{x:AV}{kk:Nat}{l:abj},Tok (σ.del c) ax x kk l->Tok (σ.del c) (ax.set P (.cells (A6 a'))) x kk l:=λ{x kk l} hx=>hx.beside pb (λe=>by obtain⟨_,_,q⟩:=hx.bb e;rw[z6]at q;cases q)
       refine ih _ g1 ⟨_,ax.set P (.cells (A6 a')),a',vc,M.set R ⟨hr,e.place,el.cP,e.marks,ht,sh⟩,es++[⟨hr,e.place,el.cP,e.marks,ht,sh⟩],ks++[(R:Int)],by rw[ep],by simp[D,G,E,F,J,bc,aX,bO,K],by simp[D,G,E,F,J,bc,aX,bO,K],by simp[D,G,E,F,J,bc,aX,bO,K],by simp[D,G,E,F,J,bc,aX,bO,K],by simp[D,G,E,F,J,bc,aX,bO,K],by simp[D,G,E,F,J,bc,aX,bO,K],by simp;omega,?_,?_,ab.aj _ _ _,?_,by have:=h5 hZ;simpa using this,by have:=h5 fp;simpa using this,λb hb=>oM b hb,gA,λx hx=>?_,λx hx=>?_,by simp;omega⟩
       . obtain⟨n,z,g1,g2⟩:=nq
         exact⟨n,z,by omega,by rw[ab.ah _ _ (zj n6)];exact gw _ _ (k9 _ _ (by rw[ab.ah _ _ (zj ay)];exact g2))⟩
       . rw[ab.ah _ _ (zj fu)];exact z4
       . rw[ab.ah _ _ hz,zl,h2]
       . rcases ZR hx with hx|rfl
         . exact gf x hx
         . exact oN
       . rcases YH.1 hx with hx|hx
         . exact hB x hx
         . simp at hx;subst hx;exact q9
   . have vj:j=qn:=by omega
     subst vj;have vk:¬(j:Int)<j:=by omega
     apply rn;simp[D,G,E,F,J,bc,aX,o.1,o.2,d.1,d.2,vk,q4,a7,aH];obtain⟨nb,zb,ic,h7⟩:=hA;obtain⟨f,hf⟩:∃f:Fr,f=⟨es,f0.roads,f0.aS,f0.ew,f0.cK,(i:Int)⟩:=⟨_,rfl⟩;have aE:=Fr.pq (Z.fits (by omega)) (Z.check (by omega))
     have vx:Fj cnt f ks:=by
      have gB:=Z.dJ;subst eW;subst hf;refine⟨⟨⟨by grind,aE.fits.roads,aE.fits.row,λe he=>by grind⟩,aE.fr,aE.to,aE.le,aE.cK,by grind,by grind,λe he=>O.sF e he,aE.IK⟩,by grind,by grind,λr hr=>?_,hB,by grind,i,C,H,M,⟨O.len,O.Qq,O.sF,O.cP,O.Rv,O.fit,O.Vo,O.Gm,O.Qr⟩,rfl⟩
      obtain⟨t,ht,rfl⟩:=Za.1 hr;exact YO (Nat.le_of_eq (aE.row (i:=t) ht).1) gB.2
     refine .qk (a':=.cH [cj f,ints ks]) (E1 rfl λi x y x1 x2=>?_) (.less (σ':=σ.set c (.cells [ints nums,int nb,.lit (.int .u64 zb)])) (λy x hy=>?_) (.done (h f ks _ vx ⟨⟨nb,zb,by omega,ab.aj _ _ _⟩,λy hy=>ab.ah _ _ hy⟩)))
     . match i with
       | 0=>
         simp at x1 x2;subst x1;subst x2;refine pv (by grind) λi x y x1 x2=>?_
         subst hf
         match i with
         |0=>simp at x1 x2;subst x1;subst x2;exact b9.W
         |1=>simp at x1 x2;subst x1;subst x2;exact .refl _
         |2=>simp at x1 x2;subst x1;subst x2;exact .refl _
         |3=>simp at x1 x2;subst x1;subst x2;exact .refl _
         |4=>simp at x1 x2;subst x1;subst x2;exact .refl _
         |5=>simp at x1 x2;subst x1;subst x2;exact .refl _
         |i+6=>simp at x1
       |1=>simp at x1 x2;subst x1;subst x2;exact ec.W
       |i+2=>simp at x1
     . by_cases Y:y=c
       . subst Y
         rw[ab.aj]at hy;rw[ab.ah _ _ n4,h7];exact hy
       . rw[ab.ah _ _ Y]at hy
         have y4:y≠X:=λe=>by grind
         rw[ab.ah _ _ y4];exact b9.1 y x (by simpa[ab.del,Y]using hy)
end
end
section
open Go.cr Go.Conc
theorem rm{α g}:∀{l:List α},(∀x∈l,g x=0)->fq g l=0
 |[],_=>rfl
 |a::l,h=>by rw[fq,YG (h a (by simp))];exact rm λx q=>h x (by simp[q])
structure MJ  cnt  (w:gO) (own lost:abe):Prop where
 valid:w.Valid
 Dv:lJ w=0
 len:(w.fair.aA.length:Int)+w.aF.length<=cnt
 Yp:w.ways.length<=5
 lo:own.length=w.fair.aA.length
 ll:lost.length=w.aF.length
 Xp:∀e∈w.fair.aA,e.marks.length<=3
 Xq:∀c∈w.aF,c.lost.marks.length<=3
 rows:w.fair.roads.length<=3/\∀r∈w.fair.roads,r.length<=3
 Xr:∃v∈aG (iN w) [],∀i j ,i<w.fair.aA.length+w.aF.length->j<w.fair.aA.length+w.aF.length->fE i j v=decide ((own++lost).getD i 0=(own++lost).getD j 0)
theorem OE{cnt f p}(t:Fj cnt f p)(N:cnt<=6){w}{E C:abe}(z:∀i∈E++C,0<=i/\i<f.aA.length)(hn:(E.length:Int)+C.length<=cnt)
 (W:w.fair.aA=E.map (aK f)) (O:w.aF.map (·.lost)=C.map (aK f)) (y:w.fair.roads=f.roads) (m:w.fair.aS=f.aS) (n:w.fair.ew=f.ew) (hd:w.fair.cK=f.cK) (X:f.aV<=w.fair.aV/\w.fair.aV<=6)
 (P:1<=w.bq/\w.bq<=4) (Y:∀x∈w.ways,pG w.bq x=0) (F:w.ways.length<=5) (Z:w.aF.length<=3) (G:∀c∈w.aF,(0<=c.town/\c.town<w.bq)/\(0<=c.hour/\c.hour<=72)/\c.lost.hour<=c.hour):
 MJ cnt w (E.map λi=>p.getD i.toNat 0) (C.map λi=>p.getD i.toNat 0):=by
 have d:=t.pq;have l1:w.fair.aA.length=E.length:=by simp_all
 have l2:w.aF.length=C.length:=by rw[<-List.length_map (f:=(·.lost)),O,YV]
 have A:∀e∈w.fair.aA,e∈f.aA:=λe q=>by rw[W]at q;obtain⟨i,I,rfl⟩:=YN.1 q;exact gk (z i (by simp[I]))
 have J:∀c∈w.aF,c.lost∈f.aA:=λc q=>by have:c.lost∈w.aF.map (·.lost):=YN.2 ⟨c,q,rfl⟩;rw[O]at this;obtain⟨i,I,e⟩:=YN.1 this;rw[<-e];exact gk (z i (by simp[I]))
 have gen:∀es:List u6,(∀e∈es,e∈f.aA)->es.length<=6->({w.fair with aA:=es}:Fr).Good:=λes q ql=>by
  have K:=d.aV;refine⟨⟨by grind,by show w.fair.roads.length<_;rw[y];exact d.fits.roads,by show ∀r∈w.fair.roads,_;rw[y];exact d.fits.row,λe D=>d.fits.marks e (q e D)⟩,by rw[m];exact d.fr,by rw[n];exact d.to,by rw[m,n];exact d.le,by rw[hd];exact d.cK,?_,ql,λe D=>?_,by show fC w.fair.roads=0;rw[y];exact d.IK⟩
  . grind
  . show cG w.fair.roads.length e=0
    rw[y];exact d.sF e (q e D)
 have Q:w.fair.Good:=gen w.fair.aA A (by omega)
 have R:∀c∈w.aF,(lone w.fair c.lost).Good:=λc q=>gen [c.lost] (λe D=>by simp_all) (by simp)
 have S:w.xJ:=⟨Q.fits,Q.Dv,λc q=>⟨(R c q).fits,(R c q).Dv⟩,by omega,by omega⟩
 have h6:w.fair.aA.length+w.aF.length<=6:=by omega
 have T:=lK S h6
 have B:od f (iN w) (E++C):=⟨y,m,n,hd,X.1,z,by simp_all⟩
 obtain⟨mo,Cs,H,last,g,K⟩:=t.seen;obtain⟨v,s,h,hv⟩:=g.cT d (by omega)
 obtain⟨u,U,o⟩:=B.cT d T hv;have L:aG (iN w) []≠[]:=ZV U
 have V:lJ w=0:=by
  unfold lJ;have a1:bE w.bq 1 4=true:=by simp[bE,P.1,P.2]
  have a2:fq (yy w) w.aF=0:=rm λc q=>by
   have:=G c q;have e1:bE c.town 0 (w.bq-1)=true:=by simp only[bE,za,KD];omega
   have e2:bE c.hour 0 72=true:=by simp only[bE,za,KD];omega
   unfold yy
   simp_all
  have a3:=(zB T).2 L;rw[a1,rm Y,a2,YA (by simp),YA (by omega),YA (by simp),YA (by omega),YA (by simp),YA (by omega),YA (by omega)]
 have a7:p.length=f.aA.length:=g.len;refine⟨gO.valid S V,V,by omega,F,by simp_all,by simp_all,λe q=>t.marks e (A e q),λc q=>t.marks _ (J c q),by rw[y];exact⟨t.dJ,t.row⟩,u,U,λi j M hj=>?_⟩
 have hl:(E++C).length=w.fair.aA.length+w.aF.length:=by simp_all
 rw[o i j (by omega) (by omega),<-List.map_append]
 have k:∀i:Nat,i<(E++C).length->((E++C).map λi=>p.getD i.toNat 0).getD i 0=p.getD ((E++C).getD i 0).toNat 0:=λi M=>by rw[zA,YY,zR M,zA (l:=E++C),zR M];rfl
 rw[k i (by omega),k j (by omega)]
 have ri:=z _ (gn (l:=E++C) (i:=i) (by omega))
 have rj:=z _ (gn (l:=E++C) (i:=j) (by omega))
 generalize (E++C).getD i 0=a at *;generalize (E++C).getD j 0=b at *;have ea:a=(a.toNat:Int):=by omega
 have eb:b=(b.toNat:Int):=by omega
 rw[aaC,KD];constructor
 . intro q
   rw[ea,eb]at q;have:=xC h (by omega) (by omega) q
   omega
 . intro q
   have:=xB h (i:=a.toNat) (j:=b.toNat) (by omega) (by omega) q
   grind
end
section
open Go Go.cr Go.Conc
variable{m:Mo}{σ:ab}{KF:aaQ}
def nk(σ0 σ:ab)(l:List (AV × Nat × List AV)):Prop:=σ0.Le σ/\(∀t∈l,Tok σ0 σ t.1 t.2.1 t.2.2)/\l.Pairwise λt a=>∀b,bH t.1=some b->bH a.1≠some b
theorem nk.head{σ0 σ a kk es l}(h:nk σ0 σ ((a,kk,es)::l)):Tok σ0 σ a kk es:=h.2.1 _ (aaq)
theorem nk.perm{σ0 σ l d}(h:nk σ0 σ l)(e:l.Perm d):nk σ0 σ d:=⟨h.1,λt q=>h.2.1 t (e.mem_iff.2 q),(e.pairwise_iff λ{a b} q c f g=>q c g f).1 h.2.2⟩
theorem nk.NL{σ0 σ σ2 l c}(h:nk σ0 σ l)(b:σ0 c=none)(d:∃l,σ c=some (.cells l))(a:∀y,y≠c->σ2 y=σ y):nk σ0 σ2 l:=⟨λy x f=>by rw[a y λe=>by simp_all];exact h.1 y x f,λt q=>qc (h.2.1 t q) b d a,h.2.2⟩
theorem nk.app{σ0 σ σ' a a' kk kk' es c l}(h:nk σ0 σ ((a,kk,es)::l))(d:Tok (σ.off a) σ' a' kk' c):nk σ0 σ' ((a',kk',c)::l)/\∀y x,σ y=some (.cells x)->σ' y=some (.cells x):=by
 have f:=h.head;obtain⟨j,k⟩:=Zd.1 h.2.2;have hb:=d.base f.here.2;have key:∀t∈l,Tok σ0 σ' t.1 t.2.1 t.2.2/\∀b,bH t.1=some b->bH a'≠some b:=λt q=>Bp (h.2.1 t (Zz _ q)) f (λb g i=>j t q b i g) d
 refine⟨⟨hb.1,λt q=>?_,Zd.2 ⟨λt q b g i=>(key t q).2 b i g,k⟩⟩,λy x m=>d.1 _ _ ?_⟩
 . grind
 . rw[ab.fK λe=>by obtain⟨_,_,q⟩:=f.bb e;simp_all];exact m
section
variable{c k:Nat}{nums:abe}
namespace WA
abbrev Yq:aaV:=[⟨11,.take [0,2,3,8] false (.both 1 (.one 4 (.one 5 (.one 6 (.one 7 (.one 9 (.done)))))) (.one 4 (.both 1 (.one 5 (.one 6 (.one 7 (.one 9 (.done))))) (.one 5 (.both 1 (.one 6 (.one 7 (.one 9 (.done)))) (.one 6 (.take [1] true (.one 7 (.one 9 (.done))))))))))⟩,⟨18,.take [0,2,3,4,8,9,10,11,12,13,19] false (.both 1 (.both 5 (.take [6] false (.both 7 (.one 14 (.one 15 (.one 16 (.one 17 (.one 18 (.one 20 (.done))))))) (.one 14 (.one 7 (.one 15 (.one 16 (.one 17 (.one 18 (.one 20 (.done)))))))))) (.one 14 (.one 5 (.take [6] false (.one 7 (.one 15 (.one 16 (.one 17 (.one 18 (.one 20 (.done))))))))))) (.both 5 (.take [6] false (.both 1 (.both 7 (.one 14 (.one 15 (.one 16 (.one 17 (.one 18 (.one 20 (.done))))))) (.one 14 (.one 7 (.one 15 (.one 16 (.one 17 (.one 18 (.one 20 (.done))))))))) (.both 7 (.both 1 (.one 14 (.one 15 (.one 16 (.one 17 (.one 18 (.one 20 (.done))))))) (.one 14 (.both 1 (.one 15 (.one 16 (.one 17 (.one 18 (.one 20 (.done)))))) (.one 15 (.both 1 (.one 16 (.one 17 (.one 18 (.one 20 (.done))))) (.one 16 (.both 1 (.one 17 (.one 18 (.one 20 (.done)))) (.one 17 (.take [1] true (.one 18 (.one 20 (.done)))))))))))) (.one 14 (.both 1 (.one 7 (.one 15 (.one 16 (.one 17 (.one 18 (.one 20 (.done))))))) (.one 7 (.both 1 (.one 15 (.one 16 (.one 17 (.one 18 (.one 20 (.done)))))) (.one 15 (.both 1 (.one 16 (.one 17 (.one 18 (.one 20 (.done))))) (.one 16 (.both 1 (.one 17 (.one 18 (.one 20 (.done)))) (.one 17 (.take [1] true (.one 18 (.one 20 (.done)))))))))))))))) (.one 14 (.both 1 (.one 5 (.take [6] false (.one 7 (.one 15 (.one 16 (.one 17 (.one 18 (.one 20 (.done))))))))) (.one 5 (.take [6] false (.both 1 (.one 7 (.one 15 (.one 16 (.one 17 (.one 18 (.one 20 (.done))))))) (.one 7 (.both 1 (.one 15 (.one 16 (.one 17 (.one 18 (.one 20 (.done)))))) (.one 15 (.both 1 (.one 16 (.one 17 (.one 18 (.one 20 (.done))))) (.one 16 (.both 1 (.one 17 (.one 18 (.one 20 (.done)))) (.one 17 (.take [1] true (.one 18 (.one 20 (.done))))))))))))))))))⟩,⟨20,.take [0,1,3,6,7,8,9,10,13,14] false (.both 2 (.both 4 (.both 5 (.one 11 (.one 12 (.take [16] false (.one 15 (.done))))) (.one 11 (.one 5 (.one 12 (.take [16] false (.one 15 (.done))))))) (.one 11 (.one 4 (.one 5 (.one 12 (.take [16] false (.one 15 (.done)))))))) (.both 4 (.both 2 (.both 5 (.one 11 (.one 12 (.take [16] false (.one 15 (.done))))) (.one 11 (.one 5 (.one 12 (.take [16] false (.one 15 (.done))))))) (.one 11 (.one 2 (.one 5 (.one 12 (.take [16] false (.one 15 (.done)))))))) (.one 11 (.both 2 (.one 4 (.one 5 (.one 12 (.take [16] false (.one 15 (.done)))))) (.one 4 (.one 2 (.one 5 (.one 12 (.take [16] false (.one 15 (.done)))))))))))⟩]
theorem Fo{cnt}(hk:k+600<1000000)(hn:nums.length<1152921504606846976)(c5:1<=cnt/\cnt<=6)(hb:bn c nums k σ)(h:∀  w   own lost  σ',MJ cnt w own lost->oD c nums (k+600) σ σ'->KF (.val (.cH [ia w,ints own,ints lost])) σ'):aB prog m 4 [.ref c 0,int cnt] σ KF:=by
 obtain⟨n0,s0,_,fp⟩:=id hb;refine fs Yq Tryz.func4 rfl (by kernel_rfl) ?_
 simp[Tryz.f4];refine cz.intro λH h4=>?_
 have n4:c≠H:=λe=>by simp_all
 have av:∀x,bn c nums k (σ.set H x):=λx=>⟨n0,s0,by assumption,by rw[ab.ah _ _ n4];exact fp⟩
 simp;refine cf Tryz.func12 rfl (IE (by omega) hn c5 (av _) λf U ej hS b3=>?_)
 refine aa.runN lay [] 6 ?_;simp;refine cz.intro λc7 h7=>?_
 simp[aH]
 change aa _ _ _ _ _ _ _ _ _
 refine aa.bu 7 (b:=c7) (cj f) (ab.aj _ _ _) (by simp) rfl ?_
 rw[eG h7];clear h7;apply rn;simp;refine cz.intro λG h9=>?_
 have u4:ej H=some (.cells [.nil,.nil,int 0,int 0,int 0,int 0,int 0,.nil,.nil]):=by rw[b3.2 H (zj n4),ab.aj]
 have n9:G≠c:=λe=>by subst e;obtain⟨_,_,_,q⟩:=b3.1;simp_all
 have a8:G≠H:=λe=>by simp_all
 simp[aH]
 have S:∀X,bn c nums (k+500) (ej.set G X):=λX=>by obtain⟨n,z,g1,g2⟩:=b3.1;exact⟨n,z,g1,by rw[ab.ah _ _ (zj n9)];exact g2⟩
 refine cf Tryz.func13 rfl (vq (by omega) hn (by omega) (S _) λon O b4=>?_)
 refine aa.runN lay [] 3 ?_;simp;obtain⟨M,hM⟩:∃M:Int,M=if on=true then 6 else f.aV:=⟨_,rfl⟩
 apply Ov
 . intro key
   have v9:O G=some (.cells [.nil,rows f.roads,int f.aS,int f.ew,int f.cK,int f.aV,int 0,.nil,.nil]):=by rw[b4.2 G n9,ab.aj]
   have v4:O H=some (.cells [.nil,.nil,int 0,int 0,int 0,int 0,int 0,.nil,.nil]):=by rw[b4.2 H (zj n4),ab.ah _ _ (zj a8)];exact u4
   have vk:∀y,y≠c->y≠H->y≠G->O y=σ y:=λy y1 y2 y3=>by rw[b4.2 y y1,ab.ah _ _ y3,b3.2 y y1,ab.ah _ _ y2]
   cases on with
   | false=>
     simp;refine aa.runN lay [] 1 ?_;simp;refine aa.jR (λenv σ'=>env 0=.ref c 0/\env 7=.cp (cj f) 0/\env 8=ints U/\env 4=.ref H 0/\env 9=.ref G 0/\bn c nums (k+501) σ'/\σ' H=some (.cells [.nil,.nil,int 0,int 0,int 0,int 0,int 0,.nil,.nil])/\σ' G=some (.cells [.nil,rows f.roads,int f.aS,int f.ew,int f.cK,int M,int 0,.nil,.nil])/\∀y,y≠c->y≠H->y≠G->σ' y=σ y) ?_ ?_
     . exact⟨by simp,by simp,by simp,by simp,by simp,b4.1,v4,by rw[hM];exact v9,vk⟩
     . exact key
   | true=>
     simp;refine aa.runN lay [] 5 ?_;simp[v9,aH];obtain⟨n,z,g1,g2⟩:=b4.1;refine aa.jR (λenv σ'=>env 0=.ref c 0/\env 7=.cp (cj f) 0/\env 8=ints U/\env 4=.ref H 0/\env 9=.ref G 0/\bn c nums (k+501) σ'/\σ' H=some (.cells [.nil,.nil,int 0,int 0,int 0,int 0,int 0,.nil,.nil])/\σ' G=some (.cells [.nil,rows f.roads,int f.aS,int f.ew,int f.cK,int M,int 0,.nil,.nil])/\∀y,y≠c->y≠H->y≠G->σ' y=σ y) ?_ ?_
     . exact⟨by simp,by simp,by simp,by simp,by simp,⟨n,z,g1,by rw[ab.ah _ _ (zj n9)];exact g2⟩,by rw[ab.ah _ _ (zj a8)];exact v4,by rw[hM];exact ab.aj _ _ _,λy y1 y2 y3=>by rw[ab.ah _ _ y3];exact vk y y1 y2 y3⟩
     . exact key
 have ft:f.aV<=M/\M<=6:=by have:=hS.pq.aV;omega
 have s9:σ G=none:=by rw[<-h9,b3.2 G n9,ab.ah _ _ a8]
 rintro env ep ⟨v,A,B,D,F,bm,u4,u9,fu⟩
 apply rn;simp[v,A,B,D,F,u9];refine cf Tryz.func14 rfl (ed (by omega) hn (by omega) (by omega) bm λT bw hT a9=>?_)
 have fv:1<=T/\T<=4:=by omega
 have v9:bw G=some (.cells [.nil,rows f.roads,int f.aS,int f.ew,int f.cK,int M,int 0,.nil,.nil]):=by rw[a9.2 G n9];exact u9
 apply rn;simp[v,A,B,D,F,v9,aH]
 have fw:∀X,bn c nums (k+502) (bw.set G X):=λX=>by obtain⟨n,z,g1,g2⟩:=a9.1;exact⟨n,z,by omega,by rw[ab.ah _ _ (zj n9)];exact g2⟩
 refine cf Tryz.func15 rfl (eF (by omega) hn (by omega) (fw _) λx ad hx bx=>?_)
 have gC:0<=x/\x<=5:=by omega
 obtain⟨X,hX⟩:∃X:Nat,(X:Int)=x:=⟨x.toNat,by omega⟩
 apply rn;simp[v,A,B,D,F,v9]
 have et:(σ.del c).Le ad:=λy z hy=>by
  have y1:y≠c:=λe=>by subst e;simp[ab.del]at hy
  have y0:σ y=some z:=by simpa[ab.del,y1]using hy
  have y4:y≠H:=λe=>by simp_all
  have y9:y≠G:=λe=>by simp_all
  rw[bx.2 y y1,ab.ah _ _ y9,a9.2 y y1,fu y y1 y4 y9];exact y0
 have ev:nk (σ.del c) ad [(.nil,5,([]:List Way).map lG)]:=⟨et,λt q=>by rw[lb.1 q];exact⟨et,.inl ⟨rfl,rfl⟩⟩,List.pairwise_singleton _ _⟩
 have ey:bn c nums (k+503+7*0) ad:=bx.1.mono (by omega)
 refine Ov (P:=?P2) (λkey=>?f2) ?p2
 case f2=>
  refine aa.loop X (λj s=>∃env σ' aw ws,s=⟨env,σ',[],.no⟩/\(env 0=.ref c 0/\env 7=.cp (cj f) 0/\env 8=ints U/\env 4=.ref H 0/\env 9=.ref G 0/\env 10=int (X-j))/\bn c nums (k+503+7*j) σ'/\σ' H=some (.cells [.nil,.nil,int 0,int 0,int 0,int 0,int 0,.nil,.nil])/\σ' G=some (.cells [.nil,rows f.roads,int f.aS,int f.ew,int f.cK,int M,int T,aw,.nil])/\nk (σ.del c) σ' [(aw,5,(ws:List Way).map lG)]/\ws.length<=j/\∀x∈ws,pG T x=0) ?_ ?_
  . exact⟨_,_,.nil,[],rfl,by simp[v,A,B,D,F,v9,hX],ey,by rw[bx.2 H (zj n4),ab.ah _ _ (zj a8),a9.2 H (zj n4)];exact u4,by rw[bx.2 G n9,ab.aj],ev,by simp⟩
  rintro c0 j _ hj ⟨env,σ',aw,ws,rfl,⟨v,A,B,D,F,bc⟩,bA,q4,V,J,fx,b5⟩ ih
  have a7:=J.head.cells;apply rn;simp[v,A,B,D,F,bc,V,a7.1,a7.2];refine yi.intro (λg1=>?_) (λg1=>?_)<;>(try simp[-Nat.not_lt,-Nat.not_le]at g1)<;>(try simp[v,A,B,D,F,bc,V,a7.1,a7.2,g1])
  rotate_left
  . have cb:k+503+7*j<=k+540:=by omega
    have cg:ws.length<=5:=by omega
    refine aa.jR (λenv σ'=>∃aw ws,env 0=.ref c 0/\env 7=.cp (cj f) 0/\env 8=ints U/\env 4=.ref H 0/\env 9=.ref G 0/\env 11=.nil/\env 12=.nil/\env 13=int 0/\bn c nums (k+540) σ'/\σ' H=some (.cells [.nil,.nil,int 0,int 0,int 0,int 0,int 0,.nil,.nil])/\σ' G=some (.cells [.nil,rows f.roads,int f.aS,int f.ew,int f.cK,int M,int T,aw,.nil])/\nk (σ.del c) σ' [(aw,5,(ws:List Way).map lG)]/\ws.length<=5/\∀x∈ws,pG T x=0) ?_ ?_
    . refine⟨aw,ws,?_,?_,?_,?_,?_,?_,?_,?_,bA.mono cb,q4,V,J,cg,b5⟩<;>simp[v,A,B,D,F,bc,V,a7.1,a7.2]
    . exact key
  apply aI.intro<;>intro g2<;>simp at g2<;>simp[v,A,B,D,F,bc,V,a7.1,a7.2,g2]
  rotate_left
  . have cb:k+503+7*j<=k+540:=by omega
    have cg:ws.length<=5:=by omega
    refine aa.jR (λenv σ'=>∃aw ws,env 0=.ref c 0/\env 7=.cp (cj f) 0/\env 8=ints U/\env 4=.ref H 0/\env 9=.ref G 0/\env 11=.nil/\env 12=.nil/\env 13=int 0/\bn c nums (k+540) σ'/\σ' H=some (.cells [.nil,.nil,int 0,int 0,int 0,int 0,int 0,.nil,.nil])/\σ' G=some (.cells [.nil,rows f.roads,int f.aS,int f.ew,int f.cK,int M,int T,aw,.nil])/\nk (σ.del c) σ' [(aw,5,(ws:List Way).map lG)]/\ws.length<=5/\∀x∈ws,pG T x=0) ?_ ?_
    . refine⟨aw,ws,?_,?_,?_,?_,?_,?_,?_,?_,bA.mono cb,q4,V,J,cg,b5⟩<;>simp[v,A,B,D,F,bc,V,a7.1,a7.2]
    . exact key
  apply xV (I:=λenv r=>∃a' x,env 0=.ref c 0/\env 7=.cp (cj f) 0/\env 8=ints U/\env 4=.ref H 0/\env 9=.ref G 0/\env 10=int (X-j)/\pG T x=0/\bn c nums (k+503+7*j+7) r/\r H=some (.cells [.nil,.nil,int 0,int 0,int 0,int 0,int 0,.nil,.nil])/\r G=some (.cells [.nil,rows f.roads,int f.aS,int f.ew,int f.cK,int M,int T,a',.nil])/\nk (σ.del c) r [(a',5,(ws.map lG)++[lG x])])
  . intro Y
    repeat' (first
              |apply And.intro
              | (refine cf Tryz.func16 rfl (WY.MF (by omega) hn (by omega) bA λx O cm hd=>?_)
                 have cv:∃l,σ' c=some (.cells l):=by obtain⟨_,_,_,q⟩:=bA;exact⟨_,q⟩
                 have L:=J.NL (by simp[ab.del]) cv hd.2
                 have eB:=L.head.cells;have r9:O G=some (.cells [.nil,rows f.roads,int f.aS,int f.ew,int f.cK,int M,int T,aw,.nil]):=by rw[hd.2 G n9];exact V
                 have r4:O H=some (.cells [.nil,.nil,int 0,int 0,int 0,int 0,int 0,.nil,.nil]):=by rw[hd.2 H (zj n4)];exact q4
                 apply pg;simp[v,A,B,D,F,bc,r9,eB.1,eB.2])
              | (refine aQ lay rfl rfl rfl Te rfl Te rfl Va (by decide) (by simp;omega) (σ0:=O.off aw) (es:=ws.map lG) (xs:=[lG x]) (by simpa using L.head.here.1) (.inr ⟨_,by simp;rfl⟩) λa' ep ax=>?_
                 obtain⟨b0,k3⟩:=L.app ax;have K:=b0.head.cells;have t9:=k3 _ _ r9;have t4:=k3 _ _ r4;apply pg;simp[v,A,B,D,F,bc,t9,K.1,K.2,aH];obtain⟨nb,zb,av,S⟩:=hd.1;have tc:=k3 _ _ S;refine Y _ _ ⟨a',x,by simp[v],by simp[A],by simp[B],by simp[D],by simp[F],by simp[bc],cm,⟨nb,zb,av,by rw[ab.ah _ _ (zj n9)];exact tc⟩,by rw[ab.ah _ _ (zj a8)];exact t4,ab.aj _ _ _,?_⟩
                 exact(b0.NL (by simp[ab.del,n9,s9]) ⟨_,t9⟩ λy hy=>ab.ah _ _ hy)))
  clear v A B D F bc env
  rintro env O ⟨a',x,v,A,B,D,F,bc,cm,S,r4,r9,L⟩
  apply rn;simp[v,A,B,D,F,bc];have r1:-9223372036854775808<=(X:Int)-j-1/\(X:Int)-j-1<=9223372036854775807:=by omega
  refine⟨r1,ih _ g1 ⟨_,_,a',ws++[x],rfl,⟨by simp[v,A,B,D,F,bc],by simp[v,A,B,D,F,bc],by simp[v,A,B,D,F,bc],by simp[v,A,B,D,F,bc],by simp[v,A,B,D,F,bc],?_⟩,?_,r4,r9,?_,?_,?_⟩⟩
  . simp;omega
  . omega
  . simpa using L
  . simp;omega
  . intro y hy
    rcases YH.1 hy with q|q
    . exact b5 y q
    . rw[lb.1 q];exact cm
 case p2=>
 clear v A B D F env
 rintro env σ6 ⟨aw,ws,v,A,B,D,F,aX,bO,d,eK,eN,dj,R,fx,b5⟩
 obtain⟨Q,dm⟩:∃Q:Int->Int,Q=λi=>U.getD i.toNat 0:=⟨_,rfl⟩
 have h6:=hS.pq.qo;have gD:=hS.len;have gG:U.length=f.aA.length:=by obtain⟨_,_,_,_,q,_⟩:=hS.seen;exact q.len
 have fO:∀e∈f.aA,0<=e.hour/\e.hour<=72:=λe he=>(ov (hS.pq.sF e he)).1
 apply rn;simp[v,A,B,D,F,aX,bO,d,dj];have b6:=R.1
 have b7:nk (σ.del c) σ6 [(.nil,6,(([]:abe).map (aK f)).map ba),(.nil,8,([]:List Oj).map kj),(.nil,1,(([]:abe).map Q).map int),(.nil,1,(([]:abe).map Q).map int),(aw,5,ws.map lG)]:=by
  have n0:∀kk,Tok (σ.del c) σ6 .nil kk []:=λkk=>⟨b6,.inl ⟨rfl,rfl⟩⟩
  refine⟨b6,λt q=>?_,?_⟩
  . simp at q
    rcases q with rfl|rfl|rfl|rfl
    . exact n0 6
    . exact n0 8
    . exact n0 1
    . exact R.head
  . simp[bH]
 refine aa.loop f.aA.length (λi s=>∃env σ' aE Z aO aL E C cs,s=⟨env,σ',[],.no⟩/\(env 0=.ref c 0/\env 7=.cp (cj f) 0/\env 8=ints U/\env 4=.ref H 0/\env 9=.ref G 0/\env 11=aO/\env 12=aL/\env 13=int i)/\bn c nums (k+540+3*i) σ'/\σ' H=some (.cells [.nil,.nil,int 0,int 0,int 0,int 0,int 0,.nil,.nil])/\σ' G=some (.cells [aE,rows f.roads,int f.aS,int f.ew,int f.cK,int M,int T,aw,Z])/\nk (σ.del c) σ' [(aE,6,((E:abe).map (aK f)).map ba),(Z,8,(cs:List Oj).map kj),(aO,1,(E.map Q).map int),(aL,1,((C:abe).map Q).map int),(aw,5,ws.map lG)]/\E.length+C.length=i/\(∀x∈E++C,0<=x/\x<f.aA.length)/\cs.map (·.lost)=C.map (aK f)/\cs.length<=3/\∀x∈cs,(0<=x.town/\x.town<T)/\(0<=x.hour/\x.hour<=72)/\x.lost.hour<=x.hour) ?_ ?_
 . refine⟨_,_,.nil,.nil,.nil,.nil,[],[],[],rfl,?_,eK,eN,dj,b7,rfl,by simp,rfl,by simp⟩
   simp_all
 clear b7 R b6 eN dj eK v A B D F aX bO d env
 rintro c0 i _ hi ⟨env,σ',aE,Z,aO,aL,E,C,cs,rfl,⟨v,A,B,D,F,aX,bO,d⟩,dr,q4,V,J,gH,bB,dx,eR,dy⟩ ih
 have g:=J.head.cells;have o:Z.cells=[Z]/\Z.flat=true:=(J.2.1 (Z,8,cs.map kj) (by simp)).cells
 have u:aO.cells=[aO]/\aO.flat=true:=(J.2.1 (aO,1,(E.map Q).map int) (by simp)).cells
 have p:aL.cells=[aL]/\aL.flat=true:=(J.2.1 (aL,1,(C.map Q).map int) (by simp)).cells
 have gd:∀l,(Z,8,cs.map kj)=l->True:=λ_ _=>trivial
 refine aa.runN lay [] 20 ?_;simp[v,A,B,D,F,aX,bO,d,V,g.1,g.2,o.1,o.2,u.1,u.2,p.1,p.2];apply aI.intro<;>intro g1<;>simp at g1<;>simp[v,A,B,D,F,aX,bO,d,V,g.1,g.2,o.1,o.2,u.1,u.2,p.1,p.2,g1]
 . refine aa.runN lay [] 2 ?_
   simp[v,A,B,D,F,aX,bO,d,V,g.1,g.2,o.1,o.2,u.1,u.2,p.1,p.2];refine cz.intro λgf eW=>?_
   simp[v,A,B,D,F,aX,bO,d,V,g.1,g.2,o.1,o.2,u.1,u.2,p.1,p.2,aH]
   change aa _ _ _ _ _ _ _ _ _
   refine aa.bu 14 (b:=gf) (ba f.aA[i]) (ab.aj _ _ _) (by simp) rfl ?_
   rw[eG eW];have gI:=fO _ (zD g1);have eX:aK f i=f.aA[i]:=by simp[aK,g1]
   generalize f.aA[i]=e at *;clear eW;apply rn;simp[v,A,B,D,F,aX,bO,d,V,g.1,g.2,o.1,o.2,u.1,u.2,p.1,p.2];refine cf Tryz.func13 rfl (vq (by omega) hn (by omega) dr λon O b1=>?_)
   have cv:∃l,σ' c=some (.cells l):=by obtain⟨_,_,_,q⟩:=dr;exact⟨_,q⟩
   have L:=J.NL (by simp[ab.del]) cv b1.2
   have r9:O G=some (.cells [aE,rows f.roads,int f.aS,int f.ew,int f.cK,int M,int T,aw,Z]):=by rw[b1.2 G n9];exact V
   have r4:O H=some (.cells [.nil,.nil,int 0,int 0,int 0,int 0,int 0,.nil,.nil]):=by rw[b1.2 H (zj n4)];exact q4
   have fc:=(L.2.1 (Z,8,cs.map kj) (by simp)).Pv
   refine Ov (P:=?P3) (λkey=>?f3) ?p3
   case f3 =>
    have gj:∀b,b=decide ((cs.length:Int)<3)->b=true->cs.length<3:=λb q1 q2=>by rw[q1]at q2;have:=ZO q2;clear key;omega
    cases on with
    | false=>
      refine aa.runN lay [] 7 ?_;simp[v,A,B,D,F,aX,bO,d,V,g.1,g.2,o.1,o.2,u.1,u.2,p.1,p.2];refine aa.jR (λenv r=>O=r/\env 0=.ref c 0/\env 7=.cp (cj f) 0/\env 8=ints U/\env 4=.ref H 0/\env 9=.ref G 0/\env 11=aO/\env 12=aL/\env 13=int i/\env 14=.cp (ba e) 0/\∃b,env 71=bool b/\(b=true->cs.length<3)) ?_ ?_
      . refine⟨rfl,?_,?_,?_,?_,?_,?_,?_,?_,?_,false,?_⟩<;>simp[v,A,B,D,F,aX,bO,d,V,g.1,g.2,o.1,o.2,u.1,u.2,p.1,p.2]
      . exact key
    | true=>
      rcases fc with ⟨q1,q2⟩|⟨sp,q1⟩
      . change Z=_ at q1
        rw[q1]at r9;refine aa.runN lay [] 7 ?_;simp[v,A,B,D,F,aX,bO,d,V,g.1,g.2,o.1,o.2,u.1,u.2,p.1,p.2,r9];refine aa.jR (λenv r=>O=r/\env 0=.ref c 0/\env 7=.cp (cj f) 0/\env 8=ints U/\env 4=.ref H 0/\env 9=.ref G 0/\env 11=aO/\env 12=aL/\env 13=int i/\env 14=.cp (ba e) 0/\∃b,env 71=bool b/\(b=true->cs.length<3)) ?_ ?_
        . have hz:cs.length<3:=by
           cases cs with
           |nil=>exact(by decide)
           |cons a l=>cases q2
          refine⟨rfl,?_,?_,?_,?_,?_,?_,?_,?_,?_,true,?_,λ_=>hz⟩<;>simp[v,A,B,D,F,aX,bO,d,V,g.1,g.2,o.1,o.2,u.1,u.2,p.1,p.2]
        . exact key
      . change Z=_ at q1
        rw[q1]at r9;refine aa.runN lay [] 7 ?_;simp[v,A,B,D,F,aX,bO,d,V,g.1,g.2,o.1,o.2,u.1,u.2,p.1,p.2,r9];refine aa.jR (λenv r=>O=r/\env 0=.ref c 0/\env 7=.cp (cj f) 0/\env 8=ints U/\env 4=.ref H 0/\env 9=.ref G 0/\env 11=aO/\env 12=aL/\env 13=int i/\env 14=.cp (ba e) 0/\∃b,env 71=bool b/\(b=true->cs.length<3)) ?_ ?_
        . refine⟨rfl,?_,?_,?_,?_,?_,?_,?_,?_,?_,decide ((cs.length:Int)<3),?_,gj _ rfl⟩<;>simp[v,A,B,D,F,aX,bO,d,V,g.1,g.2,o.1,o.2,u.1,u.2,p.1,p.2]
        . exact key
   case p3=>
   clear v A B D F aX bO d env fc
   rintro env _ ⟨rfl,v,A,B,D,F,aX,bO,d,wo,b,PT,bm⟩
   have rT:-9223372036854775808<=T-1/\T-1<=9223372036854775807:=by omega
   have rh:-9223372036854775808<=e.hour+6/\e.hour+6<=9223372036854775807:=by omega
   have gP:E.length<=i/\C.length<=i:=by omega
   cases b with
   | true=>
     have bm:=bm rfl
     apply xV (I:=λenv r=>∃a' nc,env 0=.ref c 0/\env 7=.cp (cj f) 0/\env 8=ints U/\env 4=.ref H 0/\env 9=.ref G 0/\env 11=aO/\env 12=aL/\env 13=int i/\bn c nums (k+540+3*i+3) r/\r H=some (.cells [.nil,.nil,int 0,int 0,int 0,int 0,int 0,.nil,.nil])/\r G=some (.cells [aE,rows f.roads,int f.aS,int f.ew,int f.cK,int M,int T,aw,a'])/\nk (σ.del c) r [(a',8,cs.map kj++[kj nc]),(aE,6,(E.map (aK f)).map ba),(aO,1,(E.map Q).map int),(aL,1,(C.map Q).map int),(aw,5,ws.map lG)]/\nc.lost=e/\(0<=nc.town/\nc.town<T)/\(0<=nc.hour/\nc.hour<=72)/\nc.lost.hour<=nc.hour)
     . intro Y
       apply rn;simp[v,A,B,D,F,aX,bO,d,wo,PT,r9,g.1,g.2,o.1,o.2,rT.1,rT.2,rh.1,rh.2]
       repeat' (first
                 |apply And.intro
                 | (refine cf Tryz.func15 rfl (eF (by omega) hn (by omega) b1.1 λy1 ep gR b8=>?_)
                    have b0:=L.NL (by simp[ab.del]) (by obtain⟨_,_,_,q⟩:=b1.1;exact⟨_,q⟩) b8.2
                    have v9:=(b8.2 G n9).trans r9;have v4:=(b8.2 H (zj n4)).trans r4;apply pg;simp[v,A,B,D,F,aX,bO,d,wo,r9,v9,g.1,g.2,o.1,o.2,rT.1,rT.2,rh.1,rh.2])
                 | (refine cf Tryz.func14 rfl (ed (by omega) hn (by omega) ⟨by split<;>omega,by split<;>omega⟩ b8.1 λy2 bw gl a9=>?_)
                    have fg:=b0.NL (by simp[ab.del]) (by obtain⟨_,_,_,q⟩:=b8.1;exact⟨_,q⟩) a9.2
                    have x9:=(a9.2 G n9).trans v9;have x4:=(a9.2 H (zj n4)).trans v4;apply pg;simp[v,A,B,D,F,aX,bO,d,wo,x9,g.1,g.2,o.1,o.2,aH])
                 | (have hp:=fg.perm (List.Perm.swap (Z,8,cs.map kj) _ _)
                    refine aQ lay rfl rfl rfl Tf rfl Tf rfl Vb (by decide) (by simp;omega) (σ0:=bw.off Z) (es:=cs.map kj) (xs:=[kj ⟨e,y1,y2⟩]) (by simpa using hp.head.here.1) (.inr ⟨.exact,by simp[aH]⟩) λa' ad ax=>?_
                    obtain⟨N,k5⟩:=hp.app ax;have K:=N.head.cells;have t9:=k5 _ _ x9;have t4:=k5 _ _ x4;apply pg;simp[v,A,B,D,F,aX,bO,d,wo,t9,K.1,K.2,aH];obtain⟨nb,zb,av,S⟩:=a9.1;have tc:=k5 _ _ S
                    refine Y _ _ ⟨a',⟨e,y1,y2⟩,by simp[v],by simp[A],by simp[B],by simp[D],by simp[F],by simp[aX],by simp[bO],by simp[d],⟨nb,zb,by omega,by rw[ab.ah _ _ (zj n9)];exact tc⟩,by rw[ab.ah _ _ (zj a8)];exact t4,ab.aj _ _ _,N.NL (by simp[ab.del,n9,s9]) ⟨_,t9⟩ λy hy=>ab.ah _ _ hy,rfl,by simp only;omega,?_,?_⟩
                    . simp only;revert gl;split<;>omega
                    . simp only;omega))
     clear v A B D F aX bO d wo PT env
     rintro env ad ⟨a',nc,v,A,B,D,F,aX,bO,d,ea,eb,ec,N,gp,gU,h3,h5⟩
     have b2:i<U.length:=by omega
     have K:=N.head.cells;apply rn;simp[v,A,B,D,F,aX,bO,d,K.1,K.2,p.1,p.2,b2];have hp:=N.perm (aay (a:=(aL,1,(C.map Q).map int)) (l₁:=[(a',8,cs.map kj++[kj nc]),(aE,6,(E.map (aK f)).map ba),(aO,1,(E.map Q).map int)]) (l₂:=[(aw,5,ws.map lG)]));have b9:Q (i:Int)=U[i]:=by rw[dm];simp[b2]
     refine aQ lay rfl rfl rfl eC rfl eC rfl uI (by decide) (by simp;omega) (σ0:=ad.off aL) (es:=(C.map Q).map int) (xs:=[int U[i]]) (by simpa using hp.head.here.1) (.inr ⟨_,rfl⟩) λfi σ6 ax=>?_
     obtain⟨R,k6⟩:=hp.app ax;have c6:=R.head.cells;have t9:=k6 _ _ ec;have t4:=k6 _ _ eb;apply rn;simp[v,A,B,D,F,aX,bO,d,K.1,K.2,p.1,p.2,c6.1,c6.2];obtain⟨nb,zb,av,S⟩:=ea;have tc:=k6 _ _ S;have ee:=R.perm ((aay (a:=(fi,1,(C.map Q).map int++[int U[i]])) (l₁:=[(a',8,cs.map kj++[kj nc]),(aE,6,(E.map (aK f)).map ba),(aO,1,(E.map Q).map int)]) (l₂:=[(aw,5,ws.map lG)])).symm.trans (List.Perm.swap _ _ _))
     refine⟨by omega,ih _ g1 ⟨_,_,aE,a',aO,fi,E,C++[(i:Int)],cs++[nc],rfl,?_,⟨nb,zb,by omega,tc⟩,t4,t9,?_,?_,?_,?_,?_,?_⟩⟩
     . exact by simp[v,A,B,D,F,aX,bO,d,K.1,K.2,p.1,p.2]
     . simpa[b9]using ee
     . simp;omega
     . intro x hx
       rw[<-List.append_assoc]at hx
       rcases YH.1 hx with q|q
       . exact bB x q
       . rw[lb.1 q];omega
     . rw[YS,YS,dx];simp[gp,eX]
     . simp;omega
     . intro x hx
       rcases YH.1 hx with q|q
       . exact dy x q
       . rw[lb.1 q];omega
   | false=>
     have b2:i<U.length:=by omega
     have b9:Q (i:Int)=U[i]:=by rw[dm];simp[b2]
     apply xV (I:=λenv r=>∃al ay,env 0=.ref c 0/\env 7=.cp (cj f) 0/\env 8=ints U/\env 4=.ref H 0/\env 9=.ref G 0/\env 11=ay/\env 12=aL/\env 13=int i/\bn c nums (k+540+3*i+3) r/\r H=some (.cells [.nil,.nil,int 0,int 0,int 0,int 0,int 0,.nil,.nil])/\r G=some (.cells [al,rows f.roads,int f.aS,int f.ew,int f.cK,int M,int T,aw,Z])/\nk (σ.del c) r [(ay,1,(E.map Q).map int++[int U[i]]),(al,6,(E.map (aK f)).map ba++[ba e]),(Z,8,cs.map kj),(aL,1,(C.map Q).map int),(aw,5,ws.map lG)])
     . intro Y
       apply rn;simp[v,A,B,D,F,aX,bO,d,wo,PT,r9,g.1,g.2,u.1,u.2,b2]
       repeat' (first
                 |apply And.intro
                 | (refine aQ lay rfl rfl rfl ki rfl ki rfl uZ (by decide) (by simp;omega) (σ0:=O.off aE) (es:=(E.map (aK f)).map ba) (xs:=[ba e]) (by simpa using L.head.here.1) (.inr ⟨.exact,by simp⟩) λal ad ax=>?_
                    obtain⟨N,k5⟩:=L.app ax;have K:=N.head.cells;have t9:=k5 _ _ r9;have t4:=k5 _ _ r4;apply pg;simp[v,A,B,D,F,aX,bO,d,wo,t9,K.1,K.2,u.1,u.2,b2])
                 | (have hp:=N.perm (aay (a:=(aO,1,(E.map Q).map int)) (l₁:=[(al,6,(E.map (aK f)).map ba++[ba e]),(Z,8,cs.map kj)]) (l₂:=[(aL,1,(C.map Q).map int),(aw,5,ws.map lG)]))
                    refine aQ lay rfl rfl rfl eC rfl eC rfl uI (by decide) (by simp;omega) (σ0:=ad.off aO) (es:=(E.map Q).map int) (xs:=[int U[i]]) (by simpa using hp.head.here.1) (.inr ⟨.exact,by simp⟩) λay σ6 gw=>?_
                    obtain⟨R,k6⟩:=hp.app gw;have ca:=R.head.cells;have x9:=k6 _ _ t9;have x4:=k6 _ _ t4;apply pg;simp[v,A,B,D,F,aX,bO,d,wo,x9,K.1,K.2,ca.1,ca.2,aH];obtain⟨nb,zb,av,S⟩:=b1.1;have tc:=k6 _ _ (k5 _ _ S);exact Y _ _ ⟨al,ay,by simp[v],by simp[A],by simp[B],by simp[D],by simp[F],by simp,by simp[bO],by simp[d],⟨nb,zb,by omega,by rw[ab.ah _ _ (zj n9)];exact tc⟩,by rw[ab.ah _ _ (zj a8)];exact x4,ab.aj _ _ _,R.NL (by simp[ab.del,n9,s9]) ⟨_,x9⟩ λy hy=>ab.ah _ _ hy⟩))
     clear v A B D F aX bO d wo PT env
     rintro env ad ⟨al,ay,v,A,B,D,F,aX,bO,d,ea,eb,ec,N⟩
     apply rn;simp[v,A,B,D,F,aX,bO,d];have ee:=N.perm ((aay (a:=(ay,1,(E.map Q).map int++[int U[i]])) (l₁:=[(al,6,(E.map (aK f)).map ba++[ba e]),(Z,8,cs.map kj)]) (l₂:=[(aL,1,(C.map Q).map int),(aw,5,ws.map lG)])).symm);refine⟨by omega,ih _ g1 ⟨_,_,al,Z,ay,aL,E++[(i:Int)],C,cs,rfl,?_,ea.mono (by omega),eb,ec,?_,?_,?_,dx,eR,dy⟩⟩
     . exact by simp[v,A,B,D,F,aX,bO,d]
     . simpa[b9,eX]using ee
     . simp;omega
     . intro x hx
       rcases YH.1 hx with q|q
       . rcases YH.1 q with q|q
         . exact bB x (List.mem_append_left _ q)
         . rw[lb.1 q];omega
       . exact bB x (List.mem_append_right _ q)
 . have ei:i=f.aA.length:=by omega
   have fl:aw.cells=[aw]/\aw.flat=true:=(J.2.1 (aw,5,ws.map lG) (by simp)).cells
   simp[v,A,B,D,F,aX,bO,d,V,g.1,g.2,o.1,o.2,u.1,u.2,p.1,p.2,fl.1,fl.2,q4,ab.ah,a8,zj a8,aH];apply rn;simp[v,A,B,D,F,aX,bO,d,V,g.1,g.2,o.1,o.2,u.1,u.2,p.1,p.2];obtain⟨w,hw⟩:∃w:gO,w=⟨⟨E.map (aK f),f.roads,f.aS,f.ew,f.cK,M⟩,T,ws,cs⟩:=⟨_,rfl⟩
   have eg:MJ cnt w (E.map Q) (C.map Q):=by subst hw;subst dm;exact OE hS c5.2 bB (by omega) rfl dx rfl rfl rfl rfl ft fv b5 (show ws.length<=5 by omega) eR dy
   obtain⟨nb,zb,av,S⟩:=dr
   have gA:(AV.agg [aE,rows f.roads,int f.aS,int f.ew,int f.cK,int M,int T,aw,Z]).W (ia w):=by
    subst hw;refine pv rfl λi x y h1 h2=>?_
    match i with
    |0=>cases h1;cases h2;exact J.head.W
    |1=>cases h1;cases h2;exact .refl _
    |2=>cases h1;cases h2;exact .refl _
    |3=>cases h1;cases h2;exact .refl _
    |4=>cases h1;cases h2;exact .refl _
    |5=>cases h1;cases h2;exact .refl _
    |6=>cases h1;cases h2;exact .refl _
    |7=>cases h1;cases h2;exact(J.2.1 (aw,5,ws.map lG) (by simp)).W
    |8=>cases h1;cases h2;exact(J.2.1 (Z,8,cs.map kj) (by simp)).W
    |i+9=>cases h1
   have gB:(AV.cH [.agg [aE,rows f.roads,int f.aS,int f.ew,int f.cK,int M,int T,aw,Z],aO,aL]).W (.cH [ia w,ints (E.map Q),ints (C.map Q)]):=by
    refine E1 rfl λi x y h1 h2=>?_
    match i with
    |0=>cases h1;cases h2;exact gA
    |1=>cases h1;cases h2;exact(J.2.1 (aO,1,(E.map Q).map int) (by simp)).W
    |2=>cases h1;cases h2;exact (J.2.1 (aL,1,(C.map Q).map int) (by simp)).W
    |i+3=>cases h1
   refine .qk gB (.less (σ':=σ.set c (.cells [ints nums,int nb,.lit (.int .u64 zb)])) (λy x hy=>?_) (.done (h w _ _ _ eg ⟨⟨nb,zb,by omega,ab.aj _ _ _⟩,λy hy=>ab.ah _ _ hy⟩)))
   by_cases y1:y=c
   . subst y1
     rw[ab.aj]at hy;rw[ab.ah _ _ n4,S];exact hy
   . rw[ab.ah _ _ y1]at hy
     have y4:y≠H:=λe=>by subst e;grind
     rw[ab.ah _ _ y4];exact J.1 y x (by simpa[ab.del,y1]using hy)
end WA
end
end
section
open Go.cr Go.Conc
variable{m:Mo}{σ:ab}{KF:aaQ}
theorem IF{a:AV}{n:Int}(b:(a=.lit .nilIface/\n=0)\/(∃y,a=.kz 157 y/\n=1)\/(∃y,a=.kz 158 y/\n=2)\/(∃y,a=.kz 159 y/\n=3))(h:KF (.val (int n)) σ):aB prog m 43 [a] σ KF:=by
 rcases b with⟨rfl,rfl⟩|⟨y,rfl,rfl⟩|⟨y,rfl,rfl⟩|⟨y,rfl,rfl⟩
 all_goals
  refine fs [] Tryz.func43 rfl (by kernel_rfl) ?_;simp[Tryz.f43];exact .done h
theorem IG{f:Fr}{x y a b:Int}(l:f.Fits)(o:check f=0)(z:0<=x/\x<f.aA.length)(A:0<=y/\y<f.aA.length)(i:(x=a/\y=b)\/(x=b/\y=a))(r:a<=b)
 (h:KF (.val (.cH [int (jU f [a,b]),int 0])) σ):aB prog m 23 [cj f,int x,int y] σ KF:=by
 have s:=Fr.pq l o
 have t:∀n∈[x,y],0<=n/\n<f.aA.length:=λn c=>by simp at c;rcases c with rfl|rfl<;>assumption
 have j:∀n∈[a,b],0<=n/\n<f.aA.length:=λn c=>by simp at c;rcases i with⟨rfl,rfl⟩|⟨rfl,rfl⟩<;>rcases c with rfl|rfl<;>assumption
 have u:=xi o t;have d:(if y<x then y else x)=a:=by split<;>omega
 have g:(if x<y then y else x)=b:=by split<;>omega
 refine fs [] Tryz.func23 rfl (by kernel_rfl) ?_
 simp[Tryz.f23];have v:Wl [AV.agg (CE f),.sl 1 [int x,int y] .exact] [cj f,ints [x,y]]:=.cons (.refl _) (.cons (jH 1 [int x,int y] .exact) .nil);refine dQ Tryz.func35 rfl rfl v (AZ l (by simp) (λq=>absurd u q) λ_ p mb w c=>?_)
 apply rn;simp[d,g];have k:Wl [kH p mb f 0,.sl 1 [int a,int b] .exact] [kH p mb f 0,ints [a,b]]:=.cons (.refl _) (.cons (jH 1 [int a,int b] .exact) .nil);refine dQ Tryz.func44 rfl rfl k (KC s ⟨j,by simp,by simp⟩ (by simp) ?_)
 apply rn;simp;refine cf Tryz.func43 rfl (IF (n:=jU f [a,b]) ?_ ?_)
 . rcases Gg f [a,b]with e|e|e|e<;>rw[e]
   . exact .inl ⟨rfl,rfl⟩
   . exact .inr (.inl ⟨_,rfl,rfl⟩)
   . exact .inr (.inr (.inl ⟨_,rfl,rfl⟩))
   . exact .inr (.inr (.inr ⟨_,rfl,rfl⟩))
 apply rn;simp;exact .less c.le (.done h)
theorem IH{f:Fr}{x y a b:Int}(e:f.Fits)(g:check f=0)(i:0<=x/\x<f.aA.length)(j:0<=y/\y<f.aA.length)(c:(x=a/\y=b)\/(x=b/\y=a))(d:a<b)
 (h:KF (.val (.cH [int (jU f [a,b]),int 0])) σ):aB prog m 23 [cj f,int x,int y] σ KF:=IG e g i j c (Int.le_of_lt d) h
theorem xX{w:gO}(d:lJ w=0){a b c:abe}(e:∀x∈a,0<=x/\x<=72)(hb:∀x∈b,0<=x/\x<(w.fair.aA.length:Int))(f:∀x∈c,0<=x/\x<(w.aF.length:Int)):nf w a b c=0:=by
 have g:a.all (bE · 0 72)=true:=YE.2 λx q=>by have:=e x q;simp only[bE,za,KD];omega
 have h:b.all (bE · 0 (w.fair.aA.length-1))=true:=YE.2 λx q=>by have:=hb x q;simp only[bE,za,KD];omega
 have i:c.all (bE · 0 (w.aF.length-1))=true:=YE.2 λx q=>by have:=f x q;simp only[bE,za,KD];omega
 unfold nf;rw[YG d,g,h,i,YA (by simp),YA (by simp),YA (by simp)]
theorem MK(w:gO)(h i:Int):(yz w h i).length<=w.aF.length:=by unfold yz;refine YO (Zf _ _) ?_;rw[vv];exact YF _
end
open Go Go.cr Go.Conc
variable{m:Mo}{σ:ab}{KF:aaQ}
namespace TB
abbrev Yr:aaV:=[⟨9,.take [0,1,2,3,4,5,6,7,8,9,10,11,12,13,14,15] true (.done)⟩,⟨11,.take [0,2,3,4,5,6,7,8,9,10,13] false (.both 1 (.one 11 (.one 12 (.one 14 (.done)))) (.one 11 (.take [1] true (.one 12 (.one 14 (.done))))))⟩,⟨15,.take [0,1,2,3,4,5,6,7,8,9,10,11,12,13,14] true (.done)⟩,⟨17,.take [0,2,3,4,5,6,7,8,9,10,13] false (.both 1 (.one 11 (.one 12 (.one 14 (.done)))) (.one 11 (.take [1] true (.one 12 (.one 14 (.done))))))⟩]
theorem zV(hs:m.solo=true){w:gO}(P:w.Valid)(hk:lJ w=0){h:Int}(hh:0<=h/\h<=72)(hK:KF (.val (.cH [cj (iy w h),ints (bI w h),bool true])) σ):aB prog m 7 [ia w,int h] σ KF:=by
 have o1:nf w [h] [] []=0:=xX hk (by simp;omega) (by simp) (by simp)
 have hE:∀x∈bI w h,0<=x/\x<(w.fair.aA.length:Int):=λx=>gN
 have hC:∀x∈dP w h,0<=x/\x<(w.aF.length:Int):=λx=>kV
 have a7:=rl w h;have a8:=xR w h;have h6:=P.qo;refine fs Yr Tryz.func7 rfl (by kernel_rfl) ?_
 simp[Tryz.f7];refine cz.intro λb hb=>?_
 simp;refine cz.intro λd H=>?_
 obtain⟨n1,n2,hd⟩:=ab.aP H;simp[n1,n2,ab.ah,aH];refine cf Tryz.func19 rfl (IA hs P.Mi P.open.qo o1 ?_);rw[P.kE,P.kC];unfold iy at hK;generalize bI w h=E at *;generalize dP w h=C at *;have z1:¬w.fair.aA.length<E.length:=by omega
 have z2:¬w.aF.length<C.length:=by omega
 apply rn;simp[n1,n2,ab.ah,z1,z2,aH];refine aa.loop E.length (λk s=>∃env t a,s=⟨env,t,[],.no⟩/\(env 2=.cp (ia w) 0/\env 4=.ref b 0/\env 8=ints E/\env 9=ints C/\env 7=.ref d 0/\env 11=int k)/\t d=some (.cells (a::uN w.fair))/\Tok (σ.set b (.cells tT)) t a 6 ((E.take k).map λi=>ba (aK w.fair i))) ⟨_,_,_,rfl,⟨by simp,by simp,by simp,by simp,by simp,by simp⟩,ab.aj _ _ _,(Tok.nil _ _).beside H (by simp[bH])⟩ ?_
 rintro c0 k _ a9 ⟨env,t,a,rfl,⟨l,n,o,p,aX,bO⟩,j,g⟩ ih
 have f:=g.cells;apply rn;simp[l,n,o,p,aX,bO,j,f.1,f.2];refine aI.intro (λJ=>?_) (λJ=>?_)<;>(try simp[-Int.not_lt,-Int.not_le,-Nat.not_lt,-Nat.not_le]at J)<;>(try simp[l,n,o,p,aX,bO,j,f.1,f.2,J])
 . obtain⟨x,I⟩:∃x,x=E[k]:=⟨_,rfl⟩
   have u:=hE x (I ▸ zD J);have B:E[k]?=some x:=by rw[I];exact zR J
   have D:x.toNat<w.fair.aA.length:=by omega
   have U:aK w.fair x=w.fair.aA[x.toNat]:=by simp[aK,D]
   have F:w.fair.aA[x.toNat]?=some w.fair.aA[x.toNat]:=zR D;have V:¬x<0:=by omega
   have X:¬(w.fair.aA.length:Int)<=x:=by omega
   have K:(E.take (k+1)).map (λi=>ba (aK w.fair i))=(E.take k).map (λi=>ba (aK w.fair i))++[ba w.fair.aA[x.toNat]]:=by rw[Yz J,YS,<-I,<-U];rfl
   have L:bH a≠some d:=λe=>by obtain⟨_,_,q⟩:=g.bb e;rw[j]at q;cases q
   simp only[<-I];simp[l,n,o,p,aX,bO,j,f.1,f.2,V,X,B,F,u.1,u.2];apply rn;simp[l,n,o,p,aX,bO,j,f.1,f.2,B,F,u.1,u.2];refine⟨?_,?_⟩
   all_goals
    refine aQ lay rfl rfl rfl ki rfl ki rfl uZ (by decide) (by simp only[YV,ZD,Zh,ZG];omega) (σ0:=t.off a) (es:=(E.take k).map λi=>ba (aK w.fair i)) (xs:=[ba w.fair.aA[x.toNat]]) (by simpa using g.here.1) (.inr ⟨_,by simp;rfl⟩) λa' M z=>?_
    have G:=z.cells;have Q:M d=some (.cells (a::uN w.fair)):=z.1 _ _ (by rw[ab.fK L];exact j)
    have A:=z.base g.here.2;rw[<-K]at A;apply pg;simp[l,n,o,p,aX,bO,j,f.1,f.2,Q,G.1,G.2,aH];apply rn;simp[l,n,o,p,aX,bO,j,f.1,f.2];refine⟨by omega,ih _ J ⟨_,_,a',rfl,⟨by simp[l,n,o,p,aX,bO,j,f.1,f.2],by simp[l,n,o,p,aX,bO,j,f.1,f.2],by simp[l,n,o,p,aX,bO,j,f.1,f.2],by simp[l,n,o,p,aX,bO,j,f.1,f.2],by simp[l,n,o,p,aX,bO,j,f.1,f.2],by simp⟩,ab.aj _ _ _,A.beside H (λe=>by obtain⟨_,_,q⟩:=A.bb e;rw[Q]at q;cases q)⟩⟩
 . have ek:k=E.length:=by omega
   subst ek;rw[YZ]at g
   refine aa.loop C.length (λk s=>∃env t a,s=⟨env,t,[],.no⟩/\(env 2=.cp (ia w) 0/\env 4=.ref b 0/\env 8=ints E/\env 9=ints C/\env 7=.ref d 0/\env 12=int k)/\t d=some (.cells (a::uN w.fair))/\Tok (σ.set b (.cells tT)) t a 6 (E.map (λi=>ba (aK w.fair i))++(C.take k).map λc=>ba (pJ w c).lost)) ⟨_,_,a,rfl,⟨by simp[l,n,o,p,aX,bO,j,f.1,f.2],by simp[l,n,o,p,aX,bO,j,f.1,f.2],by simp[l,n,o,p,aX,bO,j,f.1,f.2],by simp[l,n,o,p,aX,bO,j,f.1,f.2],by simp[l,n,o,p,aX,bO,j,f.1,f.2],by simp⟩,j,by simpa using g⟩ ?_
   clear l n o p aX bO j f g env
   rintro Y k _ ad ⟨env,R,a,rfl,⟨l,n,o,p,aX,r⟩,j,g⟩ Z
   have f:=g.cells;apply rn;simp[l,n,o,p,aX,r,j,f.1,f.2];refine aI.intro (λN=>?_) (λN=>?_)<;>(try simp[-Int.not_lt,-Int.not_le,-Nat.not_lt,-Nat.not_le]at N)<;>(try simp[l,n,o,p,aX,r,j,f.1,f.2,N])
   . obtain⟨x,I⟩:∃x,x=C[k]:=⟨_,rfl⟩
     have u:=hC x (I ▸ zD N);have B:C[k]?=some x:=by rw[I];exact zR N
     have D:x.toNat<w.aF.length:=by omega
     have U:pJ w x=w.aF[x.toNat]:=by simp[pJ,D]
     have F:w.aF[x.toNat]?=some w.aF[x.toNat]:=zR D;have V:¬x<0:=by omega
     have X:¬(w.aF.length:Int)<=x:=by omega
     have K:E.map (λi=>ba (aK w.fair i))++(C.take (k+1)).map (λc=>ba (pJ w c).lost)=(E.map (λi=>ba (aK w.fair i))++(C.take k).map (λc=>ba (pJ w c).lost))++[ba w.aF[x.toNat].lost]:=by rw[Yz N,YS,<-I,<-U,ZA];rfl
     have L:bH a≠some d:=λe=>by obtain⟨_,_,q⟩:=g.bb e;rw[j]at q;cases q
     simp only[<-I];simp[l,n,o,p,aX,r,j,f.1,f.2,V,X,B,F,u.1,u.2];apply rn;simp[l,n,o,p,aX,r,j,f.1,f.2,B,F,u.1,u.2];refine⟨?_,?_⟩
     all_goals
      refine aQ lay rfl rfl rfl ki rfl ki rfl uZ (by decide) (by simp only[YV,YL,ZD,Zh,ZG];omega) (σ0:=R.off a) (es:=E.map (λi=>ba (aK w.fair i))++(C.take k).map λc=>ba (pJ w c).lost) (xs:=[ba w.aF[x.toNat].lost]) (by simpa using g.here.1) (.inr ⟨_,by simp;rfl⟩) λa' M z=>?_
      have G:=z.cells;have Q:M d=some (.cells (a::uN w.fair)):=z.1 _ _ (by rw[ab.fK L];exact j)
      have A:=z.base g.here.2;rw[<-K]at A;apply pg;simp[l,n,o,p,aX,r,j,f.1,f.2,Q,G.1,G.2,aH];apply rn;simp[l,n,o,p,aX,r,j,f.1,f.2];refine⟨by omega,Z _ N ⟨_,_,a',rfl,⟨by simp[l,n,o,p,aX,r,j,f.1,f.2],by simp[l,n,o,p,aX,r,j,f.1,f.2],by simp[l,n,o,p,aX,r,j,f.1,f.2],by simp[l,n,o,p,aX,r,j,f.1,f.2],by simp[l,n,o,p,aX,r,j,f.1,f.2],by simp⟩,ab.aj _ _ _,A.beside H (λe=>by obtain⟨_,_,q⟩:=A.bb e;rw[Q]at q;cases q)⟩⟩
   . have ek:k=C.length:=by omega
     subst ek;rw[YZ]at g;have qb:R b=some (.cells tT):=g.1 _ _ (ab.aj _ _ _)
     have hz:a.W (iv (E.map (aK w.fair)++C.map λc=>(pJ w c).lost)):=by
      have:=g.W;show a.W (.sl 6 ((E.map (aK w.fair)++C.map λc=>(pJ w c).lost).map ba) .any)
      rw[YS,aab,aab];exact this
     simp[l,n,o,p,aX,r,j,f.1,f.2,qb,aH];refine .qk (a':=.cH [cj (cW w E C),ints E,bool true]) (E1 rfl λi x y T S=>?_) (.less (λc v O=>?_) (.done hK))
     . match i with
       |0=>simp at T S;subst T;subst S;exact Fc hz
       |i+1=>simp at T S;rw[T]at S;cases S;exact .refl _
     . have Y:c≠b:=λe=>by rw[e,hb]at O;cases O
       rw[ab.ah _ _ Y];exact g.1 _ _ (by rw[ab.ah _ _ Y];exact O)
end TB

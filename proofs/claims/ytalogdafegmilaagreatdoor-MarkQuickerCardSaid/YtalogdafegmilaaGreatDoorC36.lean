/- Part 36 of the proof. -/
import Derived.Test.YtalogdafegmilaaGreatDoorC35
set_option linter.all false
namespace Go.Proofs.YtalogdafegmilaaGreatDoor
open Go.aN Go.Conc
set_option maxHeartbeats 2000000
set_option maxRecDepth 4000
variable{m:Mo}{σ:aa}{KF:cL->aa->Prop}
structure Jt(ew:Int)(e:lP):Prop where
 hour:0<=e.hour/\e.hour<=72
 place:0<=e.place/\e.place<ew
 cS:0<=e.cS/\e.cS<=1
 marks:e.marks.Sublist [0,1,2]
 aX:0<=e.aX/\e.aX<=30
 iS:0<=e.iS/\e.iS<=2
theorem Jt.check{ew:Int}{e:lP}(h:Jt ew e):cI ew e=0:=by
 obtain⟨h1,h2,h3,h4,h5,h6⟩:=h;have h4:=(kJ h4).1;unfold cI dv;have e3:e.place<=ew-1:=by omega
 have e4:e.cS<=5:=by omega
 simp[h1.1,h1.2,h2.1,e3,h3.1,e4,h4,h5.1,h5.2,h6.1,h6.2]
structure zu(cnt:Int)(f:Fr)(ks:List Int):Prop where
 jw:f.Good
 len:(f.az.length:Int)<=cnt
 ew:f.roads.length<=3
 row:∀r∈f.roads,r.length<=3
 marks:∀e∈f.az,e.marks.length<=3
 most:f.most<=3
 seen:∃(most:Nat) (C H:List Int) (last:List lP),Seen f most C H ks f.az last/\(most:Int)=f.most
theorem xZ{k:Nat}:∀(es:List AV) (i:Nat) (x:AV),i<es.length->(∀e∈es,e.cells.length=k)->x.cells.length=k->(flatten es).take (i*k)++x.cells++(flatten es).drop (i*k+k)=flatten (es.set i x)
 | e::es,0,x,_,hk,hx=>by
   have hl:=hk e (by simp);rw[List.set_cons_zero,flatten_cons,flatten_cons];simp[<-hl]
 | e::es,i+1,x,hi,hk,hx=>by
   have hl:=hk e (by simp);have ih:=xZ es i x (by simpa using hi) (λy hy=>hk y (by simp[hy])) hx;rw[List.set_cons_succ,flatten_cons,flatten_cons,<-ih,Nat.add_mul,Nat.one_mul,List.take_append,List.drop_append];rw[List.take_of_length_le (by omega),List.drop_eq_nil_of_le (by omega),hl,show i*k+k-k=i*k by omega,show i*k+k+k-k=i*k+k by omega];simp
theorem Ju{f:Fr}{n:lP}{h:Int}(hr:f.bM<=f.jn)(hs:0<=n.iS/\n.iS<=2)(hb:(n.iS≠1/\n.aX=h)\/(n.iS≠0/\∃y,f.bM<=y/\y<=f.jn/\n.aX=h+y)):h∈bO f n:=by
 have hin:n.iS≠1->n.aX∈bO f n:=λh1=>by
  unfold bO;by_cases q:n.aX∈gN f n
  . rw[if_neg (by simp[q])];exact q
  . rw[if_pos ⟨h1,q⟩];simp
 have hsh:∀x,x∈gN f n->x∈bO f n:=λx hx=>by
  unfold bO;split
  . simp[hx]
  . exact hx
 rcases hb with⟨h1,rfl⟩|⟨h0,y,y1,y2,e⟩
 . exact hin h1
 . refine hsh _ ?_
   unfold gN;rw[if_pos h0];exact List.mem_map.2 ⟨(f.jn-y).toNat,List.mem_range.2 (by omega),by omega⟩
theorem iQ{σ0 σ σ1 σ':aa}{a:AV}{kk:Nat}{es:List AV}(h:Tok σ0 σ a kk es)(hle:σ1.Le σ')(hb:∀b,bJ a=some b->σ' b=σ b/\σ1 b=none):Tok σ1 σ' a kk es:=by
 refine⟨hle,?_⟩;rcases h.2 with q|q|⟨b,e,h1,h2,h3⟩
 . exact .inl q
 . exact .inr (.inl q)
 . obtain⟨g1,g2⟩:=hb b (by rw[h2];rfl)
   exact .inr (.inr ⟨b,e,g2,h2,by rw[g1];exact h3⟩)
theorem Ei{σ0 σ σ2:aa}{a:AV}{kk:Nat}{es:List AV}{c:Nat}(h:bG σ0 σ a kk es)(h0:σ0 c=none)(hc:eh a≠some c)(hs:∀y,y≠c->σ2 y=σ y):bG σ0 σ2 a kk es:=h.keep (λy x hy=>by rw[hs y (λe=>by subst e;rw[h0]at hy;cases hy)];exact h.1 y x hy) λb hb=>⟨hs b (λe=>hc (e ▸ hb)),(h.kO hb).1⟩
theorem KW{σ0 σ σ':aa}{a a2 a3:AV}{kk k2 k3:Nat}{es e2 e3:List AV}(h:Tok σ0 σ a kk es)(h2:bG σ0 σ a2 k2 e2)(h3:bG (σ.yz a2) σ' a3 k3 e3):Tok σ0 σ' a kk es:=
 iQ h (aa.le_trans h2.here.2 h3.1) λb hb=>by
  obtain⟨g1,e,g2⟩:=h.aW hb;have hne:eh a2≠some b:=λq=>by obtain⟨_,l,q2⟩:=h2.kO q;rw[g2]at q2;cases q2
  exact⟨by rw[g2];exact h3.1 b _ (by rw[aa.oQ hne];exact g2),g1⟩
theorem KX{σ0 σ σ':aa}{a a2 a3:AV}{kk k2 k3:Nat}{es e2 e3:List AV}(h:bG σ0 σ a kk es)(h2:Tok σ0 σ a2 k2 e2)(h3:Tok (σ.off a2) σ' a3 k3 e3):bG σ0 σ' a kk es:=
 h.keep (aa.le_trans h2.here.2 h3.1) λb hb=>by
  obtain⟨g1,l,g2⟩:=h.kO hb;have hne:bJ a2≠some b:=λq=>by obtain⟨_,e,q2⟩:=h2.aW q;rw[g2]at q2;cases q2
  exact⟨by rw[g2];exact h3.1 b _ (by rw[aa.fU hne];exact g2),g1⟩
theorem jv{env:Env}{t u:Nat}{v:AV}(h:u≠t):(env.upd t v) u=env u:=by unfold Env.upd;rw[if_neg h]
theorem sI{env:Env}{t:Nat}{v:AV}:(env.upd t v) t=v:=by unfold Env.upd;rw[if_pos rfl]
structure Ej(V:Nat->AV)(wE:Env)(σ6:aa)(c c13 K:Nat)(nums:List Int)(T:Int)(X:Int->List AV)(done:List Nat)(env:Env)(σ:aa):Prop where
 base:∀s,s<97->env s=wE s
 dp:∀i,i∈done->i≠33->i≠34->i<36->env (97+i)=V i
 pre:33∉done->σ=σ6
 post:33∈done->36∉done->bZ c nums K σ/\∀y,y≠c->σ y=σ6 y
 pick:33∈done->∃p:Int,(0<=p/\p<=3)/\env 130=int p/\(34∈done->env 131=int (T+p))
 all:36∈done->∀j,j<36->j∈done
 dep:34∈done->33∈done
 fin:36∈done->∃p:Int,(0<=p/\p<=3)/\bZ c nums K σ/\σ c13=some (.cells (X (T+p)))/\∀y,y≠c->y≠c13->σ y=σ6 y
section
variable{V:Nat->AV}{wE env:Env}{σ6:aa}{c c13 K:Nat}{nums:List Int}{T:Int}{X:Int->List AV}{done:List Nat}
theorem Ej.KY(h:Ej V wE σ6 c c13 K nums T X done env σ){i:Nat}(hi:i<36)(hn:i∉done):36∉done:=λh36=>hn (h.all h36 i hi)
theorem Ej.keep(h:Ej V wE σ6 c c13 K nums T X done env σ){i:Nat}(hi:i<36)(hn:i∉done){y:Nat}(hy:y≠c):σ y=σ6 y:=by
 by_cases q:33∈done
 . exact(h.post q (h.KY hi hn)).2 y hy
 . rw[h.pre q]
theorem Ej.next(h:Ej V wE σ6 c c13 K nums T X done env σ){i:Nat}(hi:i<36)(hn:i∉done)(h3:i≠33)(h4:i≠34){a:AV}(ha:a=V i):Ej V wE σ6 c c13 K nums T X (i::done) (env.upd (97+i) a) σ:=by
 have e33:33∈i::done↔33∈done:=by simp[Ne.symm h3]
 have e34:34∈i::done↔34∈done:=by simp[Ne.symm h4]
 have n36:=h.KY hi hn;have e36:36∉i::done:=by simp;exact⟨by omega,n36⟩
 refine⟨λs hs=>?_,λj hj g3 g4 g5=>?_,λq=>h.pre λq2=>q (e33.2 q2),λq _=>h.post (e33.1 q) n36,λq=>?_,λq=>absurd q e36,λq=>e33.2 (h.dep (e34.1 q)),λq=>absurd q e36⟩
 . rw[jv (by omega)];exact h.base s hs
 . by_cases e:j=i
   . subst e;rw[sI];exact ha
   . rw[jv (by omega)]
     exact h.dp j ((List.mem_cons.1 hj).resolve_left e) g3 g4 g5
 . obtain⟨p,q1,q2,q3⟩:=h.pick (e33.1 q)
   exact⟨p,q1,by rw[jv (by omega)];exact q2,λg=>by rw[jv (by omega)];exact q3 (e34.1 g)⟩
theorem Ej.Mw(h:Ej V wE σ6 c c13 K nums T X done env σ)(hn:33∉done)(h34:34∉done){p:Int}(hp:0<=p/\p<=3){σ':aa}(hb:bZ c nums K σ')(hs:∀y,y≠c->σ' y=σ6 y):Ej V wE σ6 c c13 K nums T X (33::done) (env.upd 130 (int p)) σ':=by
 have n36:=h.KY (i:=33) (by omega) hn;have e36:36∉33::done:=by simp[n36]
 have e34:34∉33::done:=by simp[h34]
 refine⟨λs hs=>?_,λj hj g3 g4 g5=>?_,λq=>absurd (by simp) q,λ_ _=>⟨hb,hs⟩,λq=>⟨p,hp,by rw[sI],λg=>absurd g e34⟩,λq=>absurd q e36,λ_=>by simp,λq=>absurd q e36⟩
 . rw[jv (by omega)];exact h.base s hs
 . rw[jv (by omega)]
   exact h.dp j ((List.mem_cons.1 hj).resolve_left g3) g3 g4 g5
theorem Ej.summed(h:Ej V wE σ6 c c13 K nums T X done env σ)(hn:34∉done)(h33:33∈done){p:Int}(hp:0<=p/\p<=3)(h1:env 130=int p):Ej V wE σ6 c c13 K nums T X (34::done) (env.upd 131 (int (T+p))) σ:=by
 have n36:=h.KY (i:=34) (by omega) hn;have e36:36∉34::done:=by simp[n36]
 refine⟨λs hs=>?_,λj hj g3 g4 g5=>?_,λq=>absurd (by simp[h33]) q,λ_ _=>h.post h33 n36,λq=>⟨p,hp,by rw[jv (by omega)];exact h1,λg=>by rw[sI]⟩,λq=>absurd q e36,λ_=>by simp[h33],λq=>absurd q e36⟩
 . rw[jv (by omega)];exact h.base s hs
 . rw[jv (by omega)]
   exact h.dp j ((List.mem_cons.1 hj).resolve_left g4) g3 g4 g5
end
theorem Ek{σ0 σ σ':aa}{a a2 a3:AV}{kk k2 k3:Nat}{es e2 e3:List AV}(h:Tok σ0 σ a kk es)(h2:Tok σ0 σ a2 k2 e2)(hd:∀b,bJ a=some b->bJ a2≠some b)(h3:Tok (σ.off a2) σ' a3 k3 e3):Tok σ0 σ' a kk es/\∀b,bJ a=some b->bJ a3≠some b:=by
 have key:∀b,bJ a=some b->(σ.off a2) b=σ b:=λb hb=>aa.fU (hd b hb)
 refine⟨iQ h (aa.le_trans h2.here.2 h3.1) λb hb=>?_,λb hb q=>?_⟩
 . obtain⟨g1,e,g2⟩:=h.aW hb
   exact⟨by rw[g2];exact h3.1 b _ (by rw[key b hb];exact g2),g1⟩
 . obtain⟨g1,e,g2⟩:=h.aW hb
   obtain⟨q1,_,_⟩:=h3.aW q;rw[key b hb,g2]at q1;cases q1
section
variable{c k:Nat}{nums:List Int}
theorem lX{cnt : Int}(hk:k+500<1000000)(hn:nums.length<1152921504606846976)(hcnt:1<=cnt/\cnt<=6)(hb:bZ c nums k σ)(h:∀(f:Fr) (ks:List Int) σ',zu cnt f ks->pS c nums (k+500) σ σ'->KF (.val (.c9 [aF f,ints ks])) σ'):aA Tryz.prog m 25 [.ref c 0,int cnt] σ KF:=by
 obtain⟨n0,s0,_,hc0⟩:=id hb;refine aA.start lay [] Qa 2 Tryz.func25 rfl rfl (by rfl) (by kernel_rfl) ?_
 simp[Tryz.f25];refine cT.intro λc4 h4=>?_
 have n4:c≠c4:=λe=>by subst e;rw[hc0]at h4;cases h4
 have hb1:∀x,bZ c nums k (σ.set c4 x):=λx=>⟨n0,s0,by assumption,by rw[aa.ai _ _ n4];exact hc0⟩
 simp;refine aq Tryz.func14 rfl rfl (uI (cnt:=0) (by omega) hn ⟨by omega,by omega⟩ (hb1 _) λf0 a0 σ1 hf0 hd0 ha0=>?_)
 obtain rfl:=ha0.1 (List.length_eq_zero_iff.1 (by have:=hf0.len;omega))
 have n45:c4≠c:=Ne.symm n4;have s14:σ1 c4=some (.cells fF):=by rw[hd0.2 c4 n45,aa.ao]
 refine ab.run lay [] ?_;simp;refine cT.intro λc6 h6=>?_
 have n6:c6≠c:=λe=>by subst e;obtain⟨_,_,_,q⟩:=hd0.1;rw[q]at h6;cases h6
 have n64:c6≠c4:=λe=>by subst e;rw[s14]at h6;cases h6
 have h06:σ c6=none:=by rw[hd0.2 c6 n6,aa.ai _ _ n64]at h6;exact h6
 simp
 have hb2:∀x,bZ c nums (k+20) (σ1.set c6 x):=λx=>by obtain⟨n,z,g1,g2⟩:=hd0.1;exact⟨n,z,g1,by rw[aa.ai _ _ (Ne.symm n6)];exact g2⟩
 refine aq Tryz.func17 rfl rfl (jQ (by omega) hn ⟨by omega,by omega⟩ ⟨by omega,by omega⟩ (hb2 _) λmost σ2 hx1 hd1=>?_)
 have t6:σ2 c6=some (.cells [.lit (.slice none 0 0),rows f0.roads,int f0.bM,int f0.jn,int f0.dR,int f0.most]):=by rw[hd1.2 c6 n6,aa.ao]
 have t4:σ2 c4=some (.cells fF):=by rw[hd1.2 c4 n45,aa.ai _ _ (Ne.symm n64)];exact s14
 refine ab.run lay [] ?_;simp[t6,aS];obtain⟨mo,rfl⟩:∃mo:Nat,most=(mo:Int):=⟨most.toNat,by omega⟩
 have hmo:1<=mo/\mo<=3:=by omega
 have hsp:=hf0.ew;obtain⟨A6,hA6⟩:∃A6:AV->List AV,A6=λa=>[a,rows f0.roads,int f0.bM,int f0.jn,int f0.dR,int mo]:=⟨_,rfl⟩
 have hlen6:∀a,(A6 a).length=6:=λa=>by rw[hA6];rfl
 have hd0n:σ.del c c=none:=by simp[aa.del]
 have hb3:bZ c nums (k+21) (σ2.set c6 (.cells (A6 (.lit (.slice none 0 0))))):=by obtain⟨n,z,g1,g2⟩:=hd1.1;exact⟨n,z,by omega,by rw[aa.ai _ _ (Ne.symm n6)];exact g2⟩
 have hle3:(σ.del c).Le (σ2.set c6 (.cells (A6 (.lit (.slice none 0 0))))):=λy x hy=>by
  have y1:y≠c:=λe=>by subst e;rw[hd0n]at hy;cases hy
  have y0:σ y=some x:=by simpa[aa.del,y1]using hy
  have y6:y≠c6:=λe=>by subst e;rw[h06]at y0;cases y0
  have y4:y≠c4:=λe=>by subst e;rw[h4]at y0;cases y0
  rw[aa.ai _ _ y6,hd1.2 y y1,aa.ai _ _ y6,hd0.2 y y1,aa.ai _ _ y4];exact y0
 have h6d:σ.del c c6=none:=by simp[aa.del,h06]
 have h4d:σ.del c c4=none:=by simp[aa.del,h4]
 have t44:(σ2.set c6 (.cells (A6 (.lit (.slice none 0 0))))) c4=some (.cells fF):=by rw[aa.ai _ _ (Ne.symm n64)];exact t4
 refine ab.loop mo (λi s=>∃env σ' la ha L H,s=⟨env,σ',[],.no⟩/\env 0=.ref c 0/\env 1=int cnt/\env 4=.ref c4 0/\env 6=.ref c6 0/\env 7=la/\env 8=ha/\env 9=int i/\bZ c nums (k+21+12*i) σ'/\σ' c4=some (.cells fF)/\σ' c6=some (.cells (A6 (.lit (.slice none 0 0))))/\bG (σ.del c) σ' la 6 (L.map dt)/\Tok (σ.del c) σ' ha 1 (H.map int)/\eh la≠some c/\eh la≠some c4/\eh la≠some c6/\L.length=i/\H.length=i/\(∀e∈L,vU f0.roads.length e)/\(∀x∈H,13<=x/\x<=16))
  ⟨_,σ2.set c6 (.cells (A6 (.lit (.slice none 0 0)))),.lit (.slice none 0 0),.lit (.slice none 0 0),[],[],by rw[hA6],by simp,by simp,by simp,by simp,by simp,by simp,by simp,hb3,t44,aa.ao _ _ _,⟨hle3,.inl ⟨rfl,.inl rfl⟩⟩,⟨hle3,.inl ⟨rfl,rfl⟩⟩,by simp[eh],by simp[eh],by simp[eh],rfl,rfl,by simp,by simp⟩ ?_
 clear hb3 hle3 t44
 rintro c0 i _ hi ⟨env,σ',la,ha,L,H,rfl,e0,e1,e4,e6,e7,e8,e9,hbi,q4,q6,hto,htk,nb0,nb4,nb6,hLl,hHl,hLe,hHe⟩ ih
 have htc:=hto.cells;have hhc:=htk.cells;have q6':σ' c6=some (.cells [.lit (.slice none 0 0),rows f0.roads,int f0.bM,int f0.jn,int f0.dR,int mo]):=by rw[q6,hA6]
 rcases Nat.lt_or_ge i mo with g1|g1
 . have g1':(i:Int)<mo:=by omega
   have f1:-9223372036854775808<=(i:Int)+1/\(i:Int)+1<=9223372036854775807:=by omega
   refine ab.run lay [] ?_;simp[e0,e1,e4,e6,e7,e8,e9,q6',htc.1,htc.2,hhc.1,hhc.2,g1];refine aq Tryz.func38 rfl rfl (nc (by omega) hn ⟨by omega,by omega⟩ hbi λe σ3 he hd3=>?_)
   have hbc3:∃l,σ' c=some (.cells l):=by obtain⟨_,_,_,q⟩:=hbi;exact⟨_,q⟩
   have hto3:=Ei hto hd0n nb0 hd3.2;have htk3:=rD htk hd0n hbc3 hd3.2;have q43:σ3 c4=some (.cells fF):=by rw[hd3.2 c4 n45];exact q4
   have q63:σ3 c6=some (.cells (A6 (.lit (.slice none 0 0)))):=by rw[hd3.2 c6 n6];exact q6
   refine ab.run lay [] ?_;simp[e0,e1,e4,e6,e7,e8,e9,q6',htc.1,htc.2,hhc.1,hhc.2];refine gf lay rfl rfl rfl sB rfl sB rfl CR (by decide) (by simp;omega) (σ0:=σ3.yz la) (es:=L.map dt) (xs:=[dt e]) (by simpa using hto3.here.1) (.inl (.inr ⟨_,by simp;rfl⟩)) (by simp) λla' σ4 hto4=>?_
   have k4:∀y l,eh la≠some y->σ3 y=some l->σ4 y=some l:=λy l hy hl=>hto4.1 _ _ (by rw[aa.oQ hy];exact hl)
   have htk4:=KW htk3 hto3 hto4;have hto4b:=hto4.base hto3.here.2
   have hb4:bZ c nums (k+21+12*i+11) σ4:=by obtain⟨n,z,g1,g2⟩:=hd3.1;exact⟨n,z,g1,k4 _ _ nb0 g2⟩
   have nb0':eh la'≠some c:=λq=>by obtain⟨g,_⟩:=hto4.kO q;obtain⟨_,_,_,g2⟩:=hd3.1;rw[aa.oQ nb0,g2]at g;cases g
   have nb4':eh la'≠some c4:=λq=>by obtain⟨g,_⟩:=hto4.kO q;rw[aa.oQ nb4,q43]at g;cases g
   have nb6':eh la'≠some c6:=λq=>by obtain⟨g,_⟩:=hto4.kO q;rw[aa.oQ nb6,q63]at g;cases g
   have htc':=hto4.cells;refine ab.run lay [] ?_;simp[e0,e8,htc'.1,htc'.2];refine aq Tryz.func17 rfl rfl (jQ (by omega) hn ⟨by omega,by omega⟩ ⟨by omega,by omega⟩ hb4 λx σ5 hx5 hd5=>?_)
   have hbc4:∃l,σ4 c=some (.cells l):=by obtain⟨_,_,_,q⟩:=hb4;exact⟨_,q⟩
   have htk5:=rD htk4 hd0n hbc4 hd5.2;have hto5:=Ei hto4b hd0n nb0' hd5.2;refine ab.run lay [] ?_;simp[e0,e8,htc'.1,htc'.2,hhc.1,hhc.2];refine aM lay rfl rfl rfl cA rfl cA rfl pQ (by decide) (by simp;omega) (σ0:=σ5.off ha) (es:=H.map int) (xs:=[int x]) (by simpa using htk5.here.1) (.inr ⟨_,by simp;rfl⟩) λha' σ6 htk6=>?_
   have hto6:=KX hto5 htk5 htk6;have htk6b:=htk6.base htk5.here.2;have hhc':=htk6.cells;have k6:∀y l,σ5 y=some (.cells l)->σ6 y=some (.cells l):=λy l hy=>htk6.1 _ _ (by rw[aa.fU (λe=>by obtain⟨_,_,q⟩:=htk5.aW e;rw[hy]at q;cases q)];exact hy)
   have q46:σ6 c4=some (.cells fF):=k6 _ _ (by rw[hd5.2 c4 n45];exact k4 _ _ nb4 q43)
   have q66:σ6 c6=some (.cells (A6 (.lit (.slice none 0 0)))):=k6 _ _ (by rw[hd5.2 c6 n6];exact k4 _ _ nb6 q63)
   have hb6:bZ c nums (k+21+12*(i+1)) σ6:=by obtain⟨n,z,g1,g2⟩:=hd5.1;exact⟨n,z,by omega,k6 _ _ g2⟩
   refine ab.run lay [] ?_;simp[e0,e9,f1.1,f1.2,htc'.1,htc'.2,hhc'.1,hhc'.2];refine ih _ g1 ⟨_,σ6,la',ha',L++[e],H++[x],rfl,by simp[e0],by simp[e1],by simp[e4],by simp[e6],by simp,by simp,by simp,hb6,q46,q66,by simpa using hto6,by simpa using htk6b,nb0',nb4',nb6',by simp[hLl],by simp[hHl],λy hy=>?_,λy hy=>?_⟩
   . rcases List.mem_append.1 hy with hy|hy
     . exact hLe y hy
     . simp at hy;subst hy;exact he
   . rcases List.mem_append.1 hy with hy|hy
     . exact hHe y hy
     . simp at hy;subst hy;omega
 . have him:i=mo:=by omega
   subst him;clear ih
   obtain⟨lb,cap,rest,rfl,r1,r2,r3,r4,r5⟩:∃lb cap rest,la=.fZ lb 0 i cap/\σ.del c lb=none/\i<=cap/\(∀e∈L.map dt,e.cells.length=6)/\σ' lb=some (.cells (flatten (L.map dt)++rest))/\rest.length=(cap-i)*6:=by
    have hel:(L.map dt).length=i:=by rw[List.length_map,hLl]
    rcases hto.2 with⟨e,_⟩|⟨b,cap,rest,g1,g2,g3,g4,g5,g6⟩
    . have:=congrArg List.length e
      rw[hel,List.length_nil]at this;omega
    . rw[hel]at g1 g3 g6
      exact⟨b,cap,rest,g1,g2,g3,g4,g5,g6⟩
   have nlc:lb≠c:=λe=>nb0 (by rw[e];rfl)
   have nl4:lb≠c4:=λe=>nb4 (by rw[e];rfl)
   have nl6:lb≠c6:=λe=>nb6 (by rw[e];rfl)
   have hlbn:σ lb=none:=by simpa[aa.del,nlc]using r1
   refine ab.yt 8 (a':=ints H) (by rw[e8];simpa using htk.W) ?_
   have hle7:=htk.1;clear hto htk htc hhc nb0 nb4 nb6 e8;refine ab.run lay [] ?_;simp[e0,e1,e4,e6,e7,e9,q6'];refine aq Tryz.func17 rfl rfl (jQ (by omega) hn ⟨by omega,by omega⟩ ⟨by omega,by omega⟩ hbi λq σ3 hq hd3=>?_)
   have q43:σ3 c4=some (.cells fF):=by rw[hd3.2 c4 n45];exact q4
   have q63:σ3 c6=some (.cells (A6 (.lit (.slice none 0 0)))):=by rw[hd3.2 c6 n6];exact q6
   have q6l:σ3 lb=some (.cells (flatten (L.map dt)++rest)):=by rw[hd3.2 lb nlc];exact r4
   have hle3:(σ.del c).Le σ3:=λy x hy=>by
    have y1:y≠c:=λe=>by subst e;rw[hd0n]at hy;cases hy
    rw[hd3.2 y y1];exact hle7 y x hy
   obtain⟨qn,rfl⟩:∃qn:Nat,q=(qn:Int):=⟨q.toNat,by omega⟩
   have hqn:1<=qn/\qn<=6:=by omega
   have hbi3:bZ c nums (k+60) σ3:=hd3.1.mono (by omega)
   obtain⟨C,hC⟩:∃C,C=L.map (·.cS):=⟨_,rfl⟩;obtain⟨f1,hf1⟩:∃f1:Fr,f1=⟨[],f0.roads,f0.bM,f0.jn,f0.dR,(i:Int)⟩:=⟨_,rfl⟩
   have hseen0:Seen f1 i C H [] [] L:=⟨rfl,by simp,by simp,λj hj=>by simp at hj,λj hj=>by simp at hj,λa b _ hb=>by simp at hb,λj hj=>by simp at hj,λj hj=>by
    rw[hC,List.getD_eq_getElem?_getD,List.getD_eq_getElem?_getD,List.getElem?_map];have:j<L.length:=by omega
    simp[this],hLl⟩
   have hES0:∀e∈L,Jt f0.roads.length e:=λe he=>by have:=hLe e he;exact⟨⟨this.hour.1,by have:=this.hour;omega⟩,this.place,this.cS,this.marks,⟨by have:=this.aX;omega,by have:=this.aX;omega⟩,this.iS⟩
   refine ab.run lay [] ?_;simp[e0,e1,e4,e6,e7,e9,q6'];have e0':=e0;have e4':=e4;have e6':=e6;have e7':=e7;clear e0 e1 e4 e6 e7 e9 q6' hLe r3
   refine ab.loop qn (λj s=>∃env σ' a hh lastL es ks,s=⟨env,σ',[],.no⟩/\env 0=.ref c 0/\env 4=.ref c4 0/\env 6=.ref c6 0/\env 7=.fZ lb 0 i cap/\env 8=ints H/\env 10=hh/\env 11=int ((qn:Int)-j)/\bZ c nums (k+60+16*j) σ'/\σ' c4=some (.cells fF)/\σ' c6=some (.cells (A6 a))/\σ' lb=some (.cells (flatten (lastL.map dt)++rest))/\Tok (σ.del c) σ' a 6 (es.map dt)/\Tok (σ.del c) σ' hh 1 (ks.map int)/\(∀b,bJ a=some b->bJ hh≠some b)/\Seen f1 i C H ks es lastL/\(∀e∈lastL,Jt f0.roads.length e)/\(∀e∈es,e.marks.length<=3)/\es.length<=j)
    ⟨_,σ3,.lit (.slice none 0 0),.lit (.slice none 0 0),L,[],[],rfl,by simp[e0'],by simp[e4'],by simp[e6'],by simp[e7'],by simp,by simp,by simp,hbi3,q43,q63,q6l,⟨hle3,.inl ⟨rfl,rfl⟩⟩,⟨hle3,.inl ⟨rfl,rfl⟩⟩,λb hb=>by simp[bJ]at hb,hseen0,hES0,by simp,by simp⟩ ?_
   clear e0' e4' e6' e7' hbi3 q43 q63 q6l hle3 hle7 hseen0 hES0 q4 q6 hbi hd3 r4
   rintro c1 j _ hj ⟨env,σ',a,hh,lastL,es,ks,rfl,e0,e4,e6,e7,e8,aJ,aI,hbj,q4,q6,ql,hta,hth,hdis,hseen,hES,hmk,hej⟩ ih
   have hac:=hta.cells;have hhc:=hth.cells;have q6':σ' c6=some (.cells [a,rows f0.roads,int f0.bM,int f0.jn,int f0.dR,int i]):=by rw[q6,hA6]
   rcases Nat.lt_or_ge j qn with g1|g1
   . have g1' : (0 : Int)<(qn:Int)-j:=by omega
     have ns:(j:Int)<qn:=by omega
     have f2:-9223372036854775808<=(i:Int)-1/\(i:Int)-1<=9223372036854775807:=by omega
     have f3:-9223372036854775808<=(qn:Int)-j-1/\(qn:Int)-j-1<=9223372036854775807:=by omega
     refine ab.run lay [] ?_;simp[e0,e4,e6,e7,e8,aJ,aI,hac.1,hac.2,hhc.1,hhc.2,g1',ns,g1,q6',f2.1,f2.2];refine aq Tryz.func16 rfl rfl (ia (by omega) hn ⟨by omega,by omega⟩ hbj λkk σ3 hx3 hd3=>?_)
     obtain⟨kn,rfl⟩:∃kn:Nat,kk=(kn:Int):=⟨kk.toNat,by omega⟩
     have hkn:kn<i:=by omega
     have w6:σ3 c6=some (.cells [a,rows f0.roads,int f0.bM,int f0.jn,int f0.dR,int i]):=by rw[hd3.2 c6 n6];exact q6'
     refine ab.run lay [] ?_;simp[e0,e4,e6,e7,e8,aJ,aI,hac.1,hac.2,hhc.1,hhc.2,w6];refine aq Tryz.func38 rfl rfl (nc (by omega) hn ⟨by omega,by omega⟩ hd3.1 λe σ4 he hd4=>?_)
     have hdA:∀y,y≠c->σ4 y=σ' y:=λy hy=>(hd4.2 y hy).trans (hd3.2 y hy)
     have w6:σ4 c6=some (.cells [a,rows f0.roads,int f0.bM,int f0.jn,int f0.dR,int i]):=by rw[hdA c6 n6];exact q6'
     have wl:σ4 lb=some (.cells (flatten (lastL.map dt)++rest)):=by rw[hdA lb nlc];exact ql
     have w4:σ4 c4=some (.cells fF):=by rw[hdA c4 n45];exact q4
     refine ab.run lay [] ?_;simp[e0,e4,e6,e7,e8,aJ,aI,hac.1,hac.2,hhc.1,hhc.2,w6];refine cT.intro λc13 h13=>?_
     have m0:c13≠c:=λe=>by subst e;obtain⟨_,_,_,q⟩:=hd4.1;rw[q]at h13;cases h13
     have m4:c13≠c4:=λe=>by subst e;rw[w4]at h13;cases h13
     have m6:c13≠c6:=λe=>by subst e;rw[w6]at h13;cases h13
     have ml:c13≠lb:=λe=>by subst e;rw[wl]at h13;cases h13
     have hkl:kn<lastL.length:=by rw[hseen.Mt];exact hkn
     obtain⟨el,hel⟩:∃el,el=lastL[kn]:=⟨_,rfl⟩;have helS:=hES el (by rw[hel];exact List.getElem_mem hkl)
     obtain⟨CL,hCL⟩:∃CL,CL=flatten (lastL.map dt)++rest:=⟨_,rfl⟩;rw[<-hCL]at wl;have hc6:∀x∈lastL.map dt,x.cells.length=6:=λx hx=>by obtain⟨y,_,rfl⟩:=List.mem_map.1 hx;rfl
     have hCLl:(flatten (lastL.map dt)).length=lastL.length*6:=by rw[bc (kk:=6) hc6,List.length_map]
     have hCLg:∀t,t<6->CL[kn*6+t]?=(dt el).cells[t]?:=λt ht=>by
      rw[hCL,List.getElem?_append_left (by rw[hCLl];omega)]
      exact lp (kk:=6) hc6 (by rw[List.getElem?_map,List.getElem?_eq_getElem hkl,hel];rfl) t ht
     have hC0:=hCLg 0 (by omega)
     have hC1:=hCLg 1 (by omega)
     have hC2:=hCLg 2 (by omega)
     have hC3:=hCLg 3 (by omega)
     simp at hC0 hC1 hC2 hC3;simp[e0,e4,e6,e7,e8,aJ,aI,hac.1,hac.2,hhc.1,hhc.2,wl,aa.ai,Ne.symm ml,hkn,hC2,aS]
     have hbS:∀x,bZ c nums (k+60+16*j+12) (σ4.set c13 x):=λx=>by obtain⟨n,z,g1,g2⟩:=hd4.1;exact⟨n,z,by omega,by rw[aa.ai _ _ (Ne.symm m0)];exact g2⟩
     refine aq Tryz.func16 rfl rfl (ia (by omega) hn ⟨by omega,by omega⟩ (hbS _) λsh σ5 hx5 hd5=>?_)
     have w13:σ5 c13=some (.cells [int e.hour,int e.place,int el.cS,ints e.marks,int e.aX,int e.iS]):=by rw[hd5.2 c13 m0,aa.ao]
     have hkH:kn<H.length:=by rw[hHl];exact hkn
     obtain⟨h0,hh0⟩:∃h0,h0=H[kn]:=⟨_,rfl⟩;have hh13:13<=h0/\h0<=16:=hHe _ (by rw[hh0];exact List.getElem_mem hkH)
     have hHg:(H.map int)[kn]?=some (int h0):=by rw[List.getElem?_map,List.getElem?_eq_getElem hkH,hh0];rfl
     have hshc:sh=0\/sh=1\/sh=2:=by omega
     have hsh2:0<=sh/\sh<=2:=by omega
     have hfto:f0.bM<=f0.jn:=hf0.to.1;have hfb:0<=f0.bM/\f0.jn<=2:=⟨hf0.fr.1,hf0.to.2⟩
     have hbE:∀x,bZ c nums (k+60+16*j+13) (σ5.set c13 x):=λx=>by obtain⟨n,z,g1,g2⟩:=hd5.1;exact⟨n,z,by omega,by rw[aa.ai _ _ (Ne.symm m0)];exact g2⟩
     have hS5:∀y,y≠c->y≠c13->σ5 y=σ' y:=λy y1 y2=>by rw[hd5.2 y y1,aa.ai _ _ y2,hdA y y1]
     have hksl:ks.length<1000000:=by rw[hseen.len];omega
     apply Dm (I:=λenv σ6=>∃b,env 0=.ref c 0/\env 4=.ref c4 0/\env 6=.ref c6 0/\env 7=.fZ lb 0 i cap/\env 8=ints H/\env 10=hh/\env 11=int ((qn:Int)-j)/\env 12=int kn/\env 13=.ref c13 0/\env 80=bool b/\bZ c nums (k+60+16*j+14) σ6/\σ6 c13=some (.cells [int e.hour,int e.place,int el.cS,ints e.marks,int h0,int sh])/\(∀y,y≠c->y≠c13->σ6 y=σ' y)/\(b=true->sh≠0)/\(b=false->sh≠1))
     . intro hrest
       rcases hshc with rfl|rfl|rfl
       . refine ab.runN lay [] 28 ?_
         simp[e0,e4,e6,e7,e8,aJ,aI,hac.1,hac.2,hhc.1,hhc.2,w13,hHg,hkH,aS,<-hh0]
         refine hrest _ _ ⟨false,by simp[e0,e4,e6,e7,e8,aJ,aI,hac.1,hac.2,hhc.1,hhc.2],by simp[e0,e4,e6,e7,e8,aJ,aI,hac.1,hac.2,hhc.1,hhc.2],by simp[e0,e4,e6,e7,e8,aJ,aI,hac.1,hac.2,hhc.1,hhc.2],by simp[e0,e4,e6,e7,e8,aJ,aI,hac.1,hac.2,hhc.1,hhc.2],by simp[e0,e4,e6,e7,e8,aJ,aI,hac.1,hac.2,hhc.1,hhc.2],by simp[e0,e4,e6,e7,e8,aJ,aI,hac.1,hac.2,hhc.1,hhc.2],by simp[e0,e4,e6,e7,e8,aJ,aI,hac.1,hac.2,hhc.1,hhc.2],by simp[e0,e4,e6,e7,e8,aJ,aI,hac.1,hac.2,hhc.1,hhc.2],by simp[e0,e4,e6,e7,e8,aJ,aI,hac.1,hac.2,hhc.1,hhc.2],by simp[e0,e4,e6,e7,e8,aJ,aI,hac.1,hac.2,hhc.1,hhc.2],(hbE _).mono (by omega),aa.ao _ _ _,λy y1 y2=>by rw[aa.ai _ _ y2];exact hS5 y y1 y2,by simp,by simp⟩
       . refine ab.runN lay [] 28 ?_
         simp[e0,e4,e6,e7,e8,aJ,aI,hac.1,hac.2,hhc.1,hhc.2,w13,hHg,hkH,aS,<-hh0]
         refine hrest _ _ ⟨true,by simp[e0,e4,e6,e7,e8,aJ,aI,hac.1,hac.2,hhc.1,hhc.2],by simp[e0,e4,e6,e7,e8,aJ,aI,hac.1,hac.2,hhc.1,hhc.2],by simp[e0,e4,e6,e7,e8,aJ,aI,hac.1,hac.2,hhc.1,hhc.2],by simp[e0,e4,e6,e7,e8,aJ,aI,hac.1,hac.2,hhc.1,hhc.2],by simp[e0,e4,e6,e7,e8,aJ,aI,hac.1,hac.2,hhc.1,hhc.2],by simp[e0,e4,e6,e7,e8,aJ,aI,hac.1,hac.2,hhc.1,hhc.2],by simp[e0,e4,e6,e7,e8,aJ,aI,hac.1,hac.2,hhc.1,hhc.2],by simp[e0,e4,e6,e7,e8,aJ,aI,hac.1,hac.2,hhc.1,hhc.2],by simp[e0,e4,e6,e7,e8,aJ,aI,hac.1,hac.2,hhc.1,hhc.2],by simp[e0,e4,e6,e7,e8,aJ,aI,hac.1,hac.2,hhc.1,hhc.2],(hbE _).mono (by omega),aa.ao _ _ _,λy y1 y2=>by rw[aa.ai _ _ y2];exact hS5 y y1 y2,by simp,by simp⟩
       . refine ab.runN lay [] 28 ?_
         simp[e0,e4,e6,e7,e8,aJ,aI,hac.1,hac.2,hhc.1,hhc.2,w13,hHg,hkH,aS,<-hh0];refine aq Tryz.func39 rfl rfl (Ef (by omega) hn ⟨by omega,by omega⟩ (hbE _) λb σ6 hd6=>?_)
         refine ab.runN lay [] 3 ?_;simp[e0,e4,e6,e7,e8,aJ,aI,hac.1,hac.2,hhc.1,hhc.2]
         refine hrest _ _ ⟨b,by simp[e0,e4,e6,e7,e8,aJ,aI,hac.1,hac.2,hhc.1,hhc.2],by simp[e0,e4,e6,e7,e8,aJ,aI,hac.1,hac.2,hhc.1,hhc.2],by simp[e0,e4,e6,e7,e8,aJ,aI,hac.1,hac.2,hhc.1,hhc.2],by simp[e0,e4,e6,e7,e8,aJ,aI,hac.1,hac.2,hhc.1,hhc.2],by simp[e0,e4,e6,e7,e8,aJ,aI,hac.1,hac.2,hhc.1,hhc.2],by simp[e0,e4,e6,e7,e8,aJ,aI,hac.1,hac.2,hhc.1,hhc.2],by simp[e0,e4,e6,e7,e8,aJ,aI,hac.1,hac.2,hhc.1,hhc.2],by simp[e0,e4,e6,e7,e8,aJ,aI,hac.1,hac.2,hhc.1,hhc.2],by simp[e0,e4,e6,e7,e8,aJ,aI,hac.1,hac.2,hhc.1,hhc.2],by simp[e0,e4,e6,e7,e8,aJ,aI,hac.1,hac.2,hhc.1,hhc.2],hd6.1,by rw[hd6.2 c13 m0,aa.ao],λy y1 y2=>by rw[hd6.2 y y1,aa.ai _ _ y2];exact hS5 y y1 y2,by simp,by simp⟩
     clear e0 e4 e6 e7 e8 aJ aI
     rintro env σ6 ⟨b,e0,e4,e6,e7,e8,aJ,aI,bh,e13,e80,hb6,v13,hS6,hbt,hbf⟩
     apply Dm (I:=λenv σ6=>∃ht,env 0=.ref c 0/\env 4=.ref c4 0/\env 6=.ref c6 0/\env 7=.fZ lb 0 i cap/\env 8=ints H/\env 10=hh/\env 11=int ((qn:Int)-j)/\env 12=int kn/\env 13=.ref c13 0/\env 95=int (nD ks kn)/\bZ c nums (k+60+16*j+15) σ6/\σ6 c13=some (.cells [int e.hour,int e.place,int el.cS,ints e.marks,int ht,int sh])/\(∀y,y≠c->y≠c13->σ6 y=σ' y)/\((sh≠1/\ht=h0)\/(sh≠0/\∃y,f0.bM<=y/\y<=f0.jn/\ht=h0+y)))
     . intro hrest
       have hW:Wl [hh,int kn] [ints ks,int kn]:=.cons (by simpa using hth.W) (.cons (.refl _) .nil)
       cases b
       . refine ab.run lay [] ?_
         simp[e0,e4,e6,e7,e8,aJ,aI,bh,e13,e80];refine bs Tryz.func34 rfl rfl hW (nO (by omega) ?_)
         refine hrest _ _ ⟨h0,by simp[e0,e4,e6,e7,e8,aJ,aI,bh,e13,e80],by simp[e0,e4,e6,e7,e8,aJ,aI,bh,e13,e80],by simp[e0,e4,e6,e7,e8,aJ,aI,bh,e13,e80],by simp[e0,e4,e6,e7,e8,aJ,aI,bh,e13,e80],by simp[e0,e4,e6,e7,e8,aJ,aI,bh,e13,e80],by simp[e0,e4,e6,e7,e8,aJ,aI,bh,e13,e80],by simp[e0,e4,e6,e7,e8,aJ,aI,bh,e13,e80],by simp[e0,e4,e6,e7,e8,aJ,aI,bh,e13,e80],by simp[e0,e4,e6,e7,e8,aJ,aI,bh,e13,e80],by simp[e0,e4,e6,e7,e8,aJ,aI,bh,e13,e80],hb6.mono (by omega),v13,hS6,.inl ⟨hbf rfl,rfl⟩⟩
       . have v6 : σ6 c6=some (.cells [a,rows f0.roads,int f0.bM,int f0.jn,int f0.dR,int i]):=by rw[hS6 c6 n6 (Ne.symm m6)];exact q6'
         have hfr:=hf0.fr;have hto:=hf0.to;refine ab.run lay [] ?_;simp[e0,e4,e6,e7,e8,aJ,aI,bh,e13,e80,v13,v6,aS]
         repeat' (first
                   |apply And.intro
                   | (refine aq Tryz.func17 rfl rfl (jQ (by omega) hn ⟨by omega,by omega⟩ ⟨by omega,by omega⟩ hb6 λy σ7 hy hd7=>?_)
                      have u13:σ7 c13=some (.cells [int e.hour,int e.place,int el.cS,ints e.marks,int h0,int sh]):=by rw[hd7.2 c13 m0];exact v13
                      have f4:-9223372036854775808<=h0+y/\h0+y<=9223372036854775807:=by omega
                      refine bm.go lay [] ?_;simp[e0,e4,e6,e7,e8,aJ,aI,bh,e13,u13,f4.1,f4.2,aS];refine ab.run lay [] ?_;simp[e0,e4,e6,e7,e8,aJ,aI,bh,e13];refine bs Tryz.func34 rfl rfl hW (nO (by omega) ?_)
                      refine hrest _ _ ⟨h0+y,by simp[e0],by simp[e4],by simp[e6],by simp[e7],by simp[e8],by simp[aJ],by simp[aI],by simp[bh],by simp[e13],by simp,?_,aa.ao _ _ _,λz y1 y2=>by rw[aa.ai _ _ y2,hd7.2 z y1];exact hS6 z y1 y2,.inr ⟨hbt rfl,y,by omega,by omega,rfl⟩⟩
                      obtain⟨n,z,g1,g2⟩:=hd7.1;exact⟨n,z,by omega,by rw[aa.ai _ _ (Ne.symm m0)];exact g2⟩))
     clear hb6 v13 hS6 e0 e4 e6 e7 e8 aJ aI bh e13 e80 hbt hbf
     rintro env σ6 ⟨ht,e0,e4,e6,e7,e8,aJ,aI,bh,e13,e95,hb6,v13,hS6,hht⟩
     have hht30:0<=ht/\ht<=30:=by rcases hht with⟨_,q⟩|⟨_,y,q1,q2,q3⟩<;>omega
     have hgd:=Fr.jw (hf0.fits (by omega)) (hf0.check (by omega))
     have hq7:∀x∈lastL,x.marks.length<=3:=λx hx=>(kJ (hES x hx).marks).2
     have hem:=(kJ he.marks).2;have helm:=(kJ helS.marks).2;have hepl:=he.place;have hell:=helS.place;have helh:=helS.hour;have hdye:=hf0.dR;apply Dm (I:=λenv σ7=>∃hr,env 0=.ref c 0/\env 4=.ref c4 0/\env 6=.ref c6 0/\env 7=.fZ lb 0 i cap/\env 8=ints H/\env 10=hh/\env 11=int ((qn:Int)-j)/\env 12=int kn/\env 13=.ref c13 0/\bZ c nums (k+60+16*j+16) σ7/\σ7 c13=some (.cells [int hr,int e.place,int el.cS,ints e.marks,int ht,int sh])/\(∀y,y≠c->y≠c13->σ7 y=σ' y)/\(0<=hr/\hr<=1000)/\((kn:Int)∈ks->Jq f1 el {e with hour:=hr}))
     . intro hrest
       by_cases hin:(kn:Int)∈ks
       . have q2:nD ks kn>=0:=(iR ks kn).2 hin
         obtain⟨rw,hrwe⟩:∃rw,rw=f0.roads[el.place.toNat]'(by omega):=⟨_,rfl⟩
         have hrow:=hgd.row (i:=el.place.toNat) (by omega)
         rw[<-hrwe]at hrow;have hpl3:e.place.toNat<rw.length:=by omega
         obtain⟨r,hre⟩:∃r,r=rw[e.place.toNat]:=⟨_,rfl⟩;have hr9:=hrow.2 r (by rw[hre];exact List.getElem_mem hpl3)
         have hplace:el.place.toNat<f0.roads.length:=by omega
         have hrw:(f0.roads.map ints)[el.place.toNat]?=some (ints rw):=by rw[List.getElem?_map,List.getElem?_eq_getElem hplace,hrwe];rfl
         have hr:(rw.map int)[e.place.toNat]?=some (int r):=by rw[List.getElem?_map,List.getElem?_eq_getElem hpl3,hre];rfl
         have hpl2:=hpl3;obtain⟨ch,hch⟩:∃ch,ch=OY el.marks e.marks:=⟨_,rfl⟩
         have hchb:0<=ch/\ch<=6:=by have q1:=mK el.marks e.marks;have q2:=mK e.marks el.marks;rw[hch];unfold OY;omega
         have hdc:0<=f0.dR*ch/\f0.dR*ch<=24:=⟨Int.mul_nonneg (by omega) hchb.1,Int.le_trans (Int.mul_le_mul hdye.2 hchb.2 hchb.1 (by omega)) (by omega)⟩
         have fr1:-9223372036854775808<=el.hour+r/\el.hour+r<=9223372036854775807:=by omega
         have fr2:-9223372036854775808<=f0.dR*ch/\f0.dR*ch<=9223372036854775807:=by omega
         have fr3:-9223372036854775808<=el.hour+r+f0.dR*ch/\el.hour+r+f0.dR*ch<=9223372036854775807:=by omega
         have hl6:σ6 lb=some (.cells CL):=by rw[hS6 lb nlc (Ne.symm ml),<-hdA lb nlc];exact wl
         have hc6':σ6 c6=some (.cells [a,rows f0.roads,int f0.bM,int f0.jn,int f0.dR,int i]):=by rw[hS6 c6 n6 (Ne.symm m6)];exact q6'
         refine ab.runN lay [] 3 ?_;simp[e0,e4,e6,e7,e8,aJ,aI,bh,e13,e95,q2]
         obtain⟨V,hV⟩:∃V:Nat->AV,V=λj=>([.fZ lb 0 i cap,int kn,.ref lb (kn*6),.ref lb (kn*6),int el.hour,.ref c6 1,rows f0.roads,.fZ lb 0 i cap,int kn,.ref lb (kn*6),.ref lb (kn*6+1),int el.place,.cp (ints rw) 0,ints rw,.ref c13 1,int e.place,.cp (int r) 0,int r,int (el.hour+r),.ref c6 4,int f0.dR,.fZ lb 0 i cap,int kn,.ref lb (kn*6),.ref lb (kn*6+3),ints el.marks,.ref c13 3,ints e.marks,int ch,int (f0.dR*ch),int (el.hour+r+f0.dR*ch),.ref c 0,.sl 1 (([0,0,1,3]:List Int).map int) .exact,int 0,int 0,.ref c13 0]:List AV).getD j (int 0):=⟨_,rfl⟩
         have hVj:∀j,V j=_:=λj=>congrFun hV j
         refine ab.KB (Ej V (env.upd 96 (bool true)) σ6 c c13 (k+60+16*j+16) nums (el.hour+r+f0.dR*ch) (λz=>[int z,int e.place,int el.cS,ints e.marks,int ht,int sh])) lay.mixed (by rfl) ⟨λ_ _=>rfl,by simp,λ_=>rfl,by simp,by simp,by simp,by simp,by simp⟩ ?_ ?_
         . intro done i env2 σ7 hed hni hlt hI
           have hlt:i<37:=hlt
           rcases(show i=0\/i=1\/i=2\/i=3\/i=4\/i=5\/i=6\/i=7\/i=8\/i=9\/i=10\/i=11\/i=12\/i=13\/i=14\/i=15\/i=16\/i=17\/i=18\/i=19\/i=20\/i=21\/i=22\/i=23\/i=24\/i=25\/i=26\/i=27\/i=28\/i=29\/i=30\/i=31\/i=32\/i=33\/i=34\/i=35\/i=36 by omega)with rfl|rfl|rfl|rfl|rfl|rfl|rfl|rfl|rfl|rfl|rfl|rfl|rfl|rfl|rfl|rfl|rfl|rfl|rfl|rfl|rfl|rfl|rfl|rfl|rfl|rfl|rfl|rfl|rfl|rfl|rfl|rfl|rfl|rfl|rfl|rfl|rfl
           . have b7:env2 7=.fZ lb 0 i cap:=(hI.base 7 (by omega)).trans e7
             refine aZ lay (mu:=[]) ?_;simp[b7];exact hI.next (i:=0) (by omega) hni (by omega) (by omega) ((hVj 0).symm)
           . have b12:env2 12=int kn:=(hI.base 12 (by omega)).trans bh
             refine aZ lay (mu:=[]) ?_;simp[b12];exact hI.next (i:=1) (by omega) hni (by omega) (by omega) ((hVj 1).symm)
           . have d0:env2 97=.fZ lb 0 i cap:=(hI.dp 0 (hed 0 (by rfl)) (by omega) (by omega) (by omega)).trans (hVj 0)
             have d1:env2 98=int kn:=(hI.dp 1 (hed 1 (by rfl)) (by omega) (by omega) (by omega)).trans (hVj 1)
             refine aZ lay (mu:=[]) ?_;simp[d0,d1,hkn];exact hI.next (i:=2) (by omega) hni (by omega) (by omega) ((hVj 2).symm)
           . have d2:env2 99=.ref lb (kn*6):=(hI.dp 2 (hed 2 (by rfl)) (by omega) (by omega) (by omega)).trans (hVj 2)
             refine aZ lay (mu:=[]) ?_;simp[d2];exact hI.next (i:=3) (by omega) hni (by omega) (by omega) ((hVj 3).symm)
           . have d3:env2 100=.ref lb (kn*6):=(hI.dp 3 (hed 3 (by rfl)) (by omega) (by omega) (by omega)).trans (hVj 3)
             have kl:=hI.keep (by omega) hni (y:=lb) nlc;rw[hl6]at kl
             refine aZ lay (mu:=[]) ?_;simp[kl,hC0,d3];exact hI.next (i:=4) (by omega) hni (by omega) (by omega) ((hVj 4).symm)
           . have b6:env2 6=.ref c6 0:=(hI.base 6 (by omega)).trans e6
             refine aZ lay (mu:=[]) ?_;simp[b6];exact hI.next (i:=5) (by omega) hni (by omega) (by omega) ((hVj 5).symm)
           . have d5:env2 102=.ref c6 1:=(hI.dp 5 (hed 5 (by rfl)) (by omega) (by omega) (by omega)).trans (hVj 5)
             have k6:=hI.keep (by omega) hni (y:=c6) n6;rw[hc6']at k6
             refine aZ lay (mu:=[]) ?_;simp[k6,d5];exact hI.next (i:=6) (by omega) hni (by omega) (by omega) ((hVj 6).symm)
           . have b7:env2 7=.fZ lb 0 i cap:=(hI.base 7 (by omega)).trans e7
             refine aZ lay (mu:=[]) ?_;simp[b7];exact hI.next (i:=7) (by omega) hni (by omega) (by omega) ((hVj 7).symm)
           . have b12:env2 12=int kn:=(hI.base 12 (by omega)).trans bh
             refine aZ lay (mu:=[]) ?_;simp[b12];exact hI.next (i:=8) (by omega) hni (by omega) (by omega) ((hVj 8).symm)
           . have d7:env2 104=.fZ lb 0 i cap:=(hI.dp 7 (hed 7 (by rfl)) (by omega) (by omega) (by omega)).trans (hVj 7)
             have d8:env2 105=int kn:=(hI.dp 8 (hed 8 (by rfl)) (by omega) (by omega) (by omega)).trans (hVj 8)
             refine aZ lay (mu:=[]) ?_;simp[d7,d8,hkn];exact hI.next (i:=9) (by omega) hni (by omega) (by omega) ((hVj 9).symm)
           . have d9:env2 106=.ref lb (kn*6):=(hI.dp 9 (hed 9 (by rfl)) (by omega) (by omega) (by omega)).trans (hVj 9)
             refine aZ lay (mu:=[]) ?_;simp[d9];exact hI.next (i:=10) (by omega) hni (by omega) (by omega) ((hVj 10).symm)
           . have d10:env2 107=.ref lb (kn*6+1):=(hI.dp 10 (hed 10 (by rfl)) (by omega) (by omega) (by omega)).trans (hVj 10)
             have kl:=hI.keep (by omega) hni (y:=lb) nlc;rw[hl6]at kl
             refine aZ lay (mu:=[]) ?_;simp[kl,hC1,d10];exact hI.next (i:=11) (by omega) hni (by omega) (by omega) ((hVj 11).symm)
           . have d6:env2 103=rows f0.roads:=(hI.dp 6 (hed 6 (by rfl)) (by omega) (by omega) (by omega)).trans (hVj 6)
             have d11:env2 108=int el.place:=(hI.dp 11 (hed 11 (by rfl)) (by omega) (by omega) (by omega)).trans (hVj 11)
             refine aZ lay (mu:=[]) ?_;simp[d6,d11,hrw,hplace];refine⟨hell.1,?_⟩;rw[<-hrwe];exact hI.next (i:=12) (by omega) hni (by omega) (by omega) ((hVj 12).symm)
           . have d12:env2 109=.cp (ints rw) 0:=(hI.dp 12 (hed 12 (by rfl)) (by omega) (by omega) (by omega)).trans (hVj 12)
             refine aZ lay (mu:=[]) ?_;simp[d12];exact hI.next (i:=13) (by omega) hni (by omega) (by omega) ((hVj 13).symm)
           . have b13:env2 13=.ref c13 0:=(hI.base 13 (by omega)).trans e13
             refine aZ lay (mu:=[]) ?_;simp[b13];exact hI.next (i:=14) (by omega) hni (by omega) (by omega) ((hVj 14).symm)
           . have d14:env2 111=.ref c13 1:=(hI.dp 14 (hed 14 (by rfl)) (by omega) (by omega) (by omega)).trans (hVj 14)
             have k13:=hI.keep (by omega) hni (y:=c13) m0;rw[v13]at k13
             refine aZ lay (mu:=[]) ?_;simp[k13,d14];exact hI.next (i:=15) (by omega) hni (by omega) (by omega) ((hVj 15).symm)
           . have d13:env2 110=ints rw:=(hI.dp 13 (hed 13 (by rfl)) (by omega) (by omega) (by omega)).trans (hVj 13)
             have d15:env2 112=int e.place:=(hI.dp 15 (hed 15 (by rfl)) (by omega) (by omega) (by omega)).trans (hVj 15)
             refine aZ lay (mu:=[]) ?_;simp[d13,d15,hr,hpl2];refine⟨hepl.1,?_⟩;rw[<-hre];exact hI.next (i:=16) (by omega) hni (by omega) (by omega) ((hVj 16).symm)
           . have d16:env2 113=.cp (int r) 0:=(hI.dp 16 (hed 16 (by rfl)) (by omega) (by omega) (by omega)).trans (hVj 16)
             refine aZ lay (mu:=[]) ?_;simp[d16];exact hI.next (i:=17) (by omega) hni (by omega) (by omega) ((hVj 17).symm)
           . have d4:env2 101=int el.hour:=(hI.dp 4 (hed 4 (by rfl)) (by omega) (by omega) (by omega)).trans (hVj 4)
             have d17:env2 114=int r:=(hI.dp 17 (hed 17 (by rfl)) (by omega) (by omega) (by omega)).trans (hVj 17)
             refine aZ lay (mu:=[]) ?_;simp[d4,d17,fr1.1,fr1.2];exact hI.next (i:=18) (by omega) hni (by omega) (by omega) ((hVj 18).symm)
           . have b6:env2 6=.ref c6 0:=(hI.base 6 (by omega)).trans e6
             refine aZ lay (mu:=[]) ?_;simp[b6];exact hI.next (i:=19) (by omega) hni (by omega) (by omega) ((hVj 19).symm)
           . have d19:env2 116=.ref c6 4:=(hI.dp 19 (hed 19 (by rfl)) (by omega) (by omega) (by omega)).trans (hVj 19)
             have k6:=hI.keep (by omega) hni (y:=c6) n6;rw[hc6']at k6
             refine aZ lay (mu:=[]) ?_;simp[k6,d19];exact hI.next (i:=20) (by omega) hni (by omega) (by omega) ((hVj 20).symm)
           . have b7:env2 7=.fZ lb 0 i cap:=(hI.base 7 (by omega)).trans e7
             refine aZ lay (mu:=[]) ?_;simp[b7];exact hI.next (i:=21) (by omega) hni (by omega) (by omega) ((hVj 21).symm)
           . have b12:env2 12=int kn:=(hI.base 12 (by omega)).trans bh
             refine aZ lay (mu:=[]) ?_;simp[b12];exact hI.next (i:=22) (by omega) hni (by omega) (by omega) ((hVj 22).symm)
           . have d21:env2 118=.fZ lb 0 i cap:=(hI.dp 21 (hed 21 (by rfl)) (by omega) (by omega) (by omega)).trans (hVj 21)
             have d22:env2 119=int kn:=(hI.dp 22 (hed 22 (by rfl)) (by omega) (by omega) (by omega)).trans (hVj 22)
             refine aZ lay (mu:=[]) ?_;simp[d21,d22,hkn];exact hI.next (i:=23) (by omega) hni (by omega) (by omega) ((hVj 23).symm)
           . have d23:env2 120=.ref lb (kn*6):=(hI.dp 23 (hed 23 (by rfl)) (by omega) (by omega) (by omega)).trans (hVj 23)
             refine aZ lay (mu:=[]) ?_;simp[d23];exact hI.next (i:=24) (by omega) hni (by omega) (by omega) ((hVj 24).symm)
           . have d24:env2 121=.ref lb (kn*6+3):=(hI.dp 24 (hed 24 (by rfl)) (by omega) (by omega) (by omega)).trans (hVj 24)
             have kl:=hI.keep (by omega) hni (y:=lb) nlc;rw[hl6]at kl
             refine aZ lay (mu:=[]) ?_;simp[kl,hC3,d24];exact hI.next (i:=25) (by omega) hni (by omega) (by omega) ((hVj 25).symm)
           . have b13:env2 13=.ref c13 0:=(hI.base 13 (by omega)).trans e13
             refine aZ lay (mu:=[]) ?_;simp[b13];exact hI.next (i:=26) (by omega) hni (by omega) (by omega) ((hVj 26).symm)
           . have d26:env2 123=.ref c13 3:=(hI.dp 26 (hed 26 (by rfl)) (by omega) (by omega) (by omega)).trans (hVj 26)
             have k13:=hI.keep (by omega) hni (y:=c13) m0;rw[v13]at k13
             refine aZ lay (mu:=[]) ?_;simp[k13,d26];exact hI.next (i:=27) (by omega) hni (by omega) (by omega) ((hVj 27).symm)
           . have d25:env2 122=ints el.marks:=(hI.dp 25 (hed 25 (by rfl)) (by omega) (by omega) (by omega)).trans (hVj 25)
             have d27:env2 124=ints e.marks:=(hI.dp 27 (hed 27 (by rfl)) (by omega) (by omega) (by omega)).trans (hVj 27)
             refine aZ lay (mu:=[]) ?_;simp[d25,d27];refine aq Tryz.func61 rfl rfl (Dd (by omega) (by omega) ?_)
             refine bm.go lay [] ?_;simp;exact hI.next (i:=28) (by omega) hni (by omega) (by omega) (by rw[hVj,hch];rfl)
           . have d20:env2 117=int f0.dR:=(hI.dp 20 (hed 20 (by rfl)) (by omega) (by omega) (by omega)).trans (hVj 20)
             have d28:env2 125=int ch:=(hI.dp 28 (hed 28 (by rfl)) (by omega) (by omega) (by omega)).trans (hVj 28)
             refine aZ lay (mu:=[]) ?_;simp[d20,d28,fr2.1,fr2.2];exact hI.next (i:=29) (by omega) hni (by omega) (by omega) ((hVj 29).symm)
           . have d18:env2 115=int (el.hour+r):=(hI.dp 18 (hed 18 (by rfl)) (by omega) (by omega) (by omega)).trans (hVj 18)
             have d29:env2 126=int (f0.dR*ch):=(hI.dp 29 (hed 29 (by rfl)) (by omega) (by omega) (by omega)).trans (hVj 29)
             refine aZ lay (mu:=[]) ?_;simp[d18,d29,fr3.1,fr3.2];exact hI.next (i:=30) (by omega) hni (by omega) (by omega) ((hVj 30).symm)
           . have b0:env2 0=.ref c 0:=(hI.base 0 (by omega)).trans e0
             refine aZ lay (mu:=[]) ?_;simp[b0];exact hI.next (i:=31) (by omega) hni (by omega) (by omega) ((hVj 31).symm)
           . refine aZ lay (mu:=[]) ?_
             simp;exact hI.next (i:=32) (by omega) hni (by omega) (by omega) ((hVj 32).symm)
           . have d31:env2 128=.ref c 0:=(hI.dp 31 (hed 31 (by rfl)) (by omega) (by omega) (by omega)).trans (hVj 31)
             have d32:env2 129=.sl 1 (([0,0,1,3]:List Int).map int) .exact:=(hI.dp 32 (hed 32 (by rfl)) (by omega) (by omega) (by omega)).trans (hVj 32)
             refine aZ lay (mu:=[]) ?_;simp[d31,d32];have e33:=hI.pre hni;subst e33;have n34:34∉done:=λq=>hni (hI.dep q)
             refine aq Tryz.func43 rfl rfl (o6 (l:=[0,0,1,3]) (by omega) hn ⟨by decide,by decide⟩ hb6 λp σ8 hp hd8=>?_)
             refine bm.go lay [] ?_;simp;exact hI.Mw hni n34 (p:=p) (by simp at hp;omega) (hd8.1.mono (by omega)) hd8.2
           . have d30:env2 127=int (el.hour+r+f0.dR*ch):=(hI.dp 30 (hed 30 (by rfl)) (by omega) (by omega) (by omega)).trans (hVj 30)
             have h33:=hed 33 (by rfl)
             obtain⟨p,hp,Cr,_⟩:=hI.pick h33;have fr4:-9223372036854775808<=el.hour+r+f0.dR*ch+p/\el.hour+r+f0.dR*ch+p<=9223372036854775807:=by omega
             refine aZ lay (mu:=[]) ?_;simp[d30,Cr,fr4.1,fr4.2];exact hI.summed hni h33 hp Cr
           . have b13:env2 13=.ref c13 0:=(hI.base 13 (by omega)).trans e13
             refine aZ lay (mu:=[]) ?_;simp[b13];exact hI.next (i:=35) (by omega) hni (by omega) (by omega) ((hVj 35).symm)
           . have d35:env2 132=.ref c13 0:=(hI.dp 35 (hed 35 (by rfl)) (by omega) (by omega) (by omega)).trans (hVj 35)
             have h33:=hed 33 (by rfl)
             have h34:=hed 34 (by rfl)
             obtain⟨p,hp,Cr,Cs⟩:=hI.pick h33;have Cs:=Cs h34;obtain⟨hbp,hsp⟩:=hI.post h33 hni;have k13:=(hsp c13 m0).trans v13;refine aZ lay (mu:=[]) ?_;simp[d35,Cs,k13,aS]
             refine⟨hI.base,λj hj g3 g4 g5=>hI.dp j ((List.mem_cons.1 hj).resolve_left (by omega)) g3 g4 g5,λq=>absurd (List.mem_cons_of_mem _ h33) q,λ_ q=>absurd (List.mem_cons_self ..) q,λ_=>⟨p,hp,Cr,λ_=>Cs⟩,λ_ j hj=>List.mem_cons_of_mem _ (hed j ((by decide:∀j:Fin 36,ib _ j.val 36=true) ⟨j,hj⟩)),λ_=>List.mem_cons_of_mem _ h33,λ_=>⟨p,hp,?_,aa.ao _ _ _,λy y1 y2=>by rw[aa.ai _ _ y2];exact hsp y y1⟩⟩
             obtain⟨n,z,g1,g2⟩:=hbp;exact⟨n,z,g1,by rw[aa.ai _ _ (Ne.symm m0)];exact g2⟩
         . intro done env' σ7 hall hI
           obtain⟨p,hp,g1,g2,g3⟩:=hI.fin (hall 36 (by decide))
           have hb:=λ(t:Nat) (ht:t<96)=>(hI.base t (by omega)).trans (jv (env:=env) (v:=bool true) (show t≠96 by omega))
           refine hrest _ _ ⟨el.hour+r+f0.dR*ch+p,(hb 0 (by omega)).trans e0,(hb 4 (by omega)).trans e4,(hb 6 (by omega)).trans e6,(hb 7 (by omega)).trans e7,(hb 8 (by omega)).trans e8,(hb 10 (by omega)).trans aJ,(hb 11 (by omega)).trans aI,(hb 12 (by omega)).trans bh,(hb 13 (by omega)).trans e13,g1,g2,λy y1 y2=>(g3 y y1 y2).trans (hS6 y y1 y2),by omega,λ_=>?_⟩
           have hrd:rd f1.roads el.place.toNat e.place.toNat=r:=by rw[hf1];unfold rd;rw[List.getD_eq_getElem?_getD,List.getD_eq_getElem?_getD,List.getElem?_eq_getElem hplace,Option.getD_some,<-hrwe,List.getElem?_eq_getElem hpl3,<-hre];rfl
           have hdy:f1.dR=f0.dR:=by rw[hf1]
           unfold Jq;rw[hrd,hdy,<-BG helS.marks he.marks,<-hch];show r+f0.dR*ch<=el.hour+r+f0.dR*ch+p-el.hour;omega
       . have q2:¬nD ks kn>=0:=λq=>hin ((iR ks kn).1 q)
         refine ab.runN lay [] 4 ?_;simp[e0,e4,e6,e7,e8,aJ,aI,bh,e13,e95,q2];refine hrest _ _ ⟨e.hour,by simp[e0,e4,e6,e7,e8,aJ,aI,bh,e13,e95],by simp[e0,e4,e6,e7,e8,aJ,aI,bh,e13,e95],by simp[e0,e4,e6,e7,e8,aJ,aI,bh,e13,e95],by simp[e0,e4,e6,e7,e8,aJ,aI,bh,e13,e95],by simp[e0,e4,e6,e7,e8,aJ,aI,bh,e13,e95],by simp[e0,e4,e6,e7,e8,aJ,aI,bh,e13,e95],by simp[e0,e4,e6,e7,e8,aJ,aI,bh,e13,e95],by simp[e0,e4,e6,e7,e8,aJ,aI,bh,e13,e95],by simp[e0,e4,e6,e7,e8,aJ,aI,bh,e13,e95],hb6.mono (by omega),v13,hS6,by have:=he.hour;omega,λq=>absurd q hin⟩
     clear hb6 v13 hS6 e0 e4 e6 e7 e8 aJ aI bh e13 e95
     rintro env σ7 ⟨hr,e0,e4,e6,e7,e8,aJ,aI,bh,e13,hb7,v13,hS7,hrb,hfit⟩
     have hcn:σ.del c c13=none:=by
      cases hx:σ.del c c13 with
      |none=>rfl
      |some x=>have:=hta.1 _ _ hx;rw[<-hdA c13 m0,h13]at this;cases this
     have hle7:(σ.del c).Le σ7:=λy x hy=>by
      have y1:y≠c:=λe=>by subst e;rw[hd0n]at hy;cases hy
      have y2:y≠c13:=λe=>by subst e;rw[hcn]at hy;cases hy
      rw[hS7 y y1 y2];exact hta.1 y x hy
     have htb:∀b x,σ' b=some x->(∀l,x≠.cells l)->σ7 b=σ' b:=λb x hb hx=>by
      refine hS7 b (λe=>?_) λe=>?_
      . rw[e]at hb;obtain⟨_,_,_,q⟩:=hbj;rw[q]at hb;cases hb;exact hx _ rfl
      . rw[e,<-hdA c13 m0,h13]at hb;cases hb
     have hta7:Tok (σ.del c) σ7 a 6 (es.map dt):=iQ hta hle7 λb hb=>by obtain⟨g1,l,g2⟩:=hta.aW hb;exact⟨htb b _ g2 (by simp),g1⟩
     have hth7:Tok (σ.del c) σ7 hh 1 (ks.map int):=iQ hth hle7 λb hb=>by obtain⟨g1,l,g2⟩:=hth.aW hb;exact⟨htb b _ g2 (by simp),g1⟩
     have t4:σ7 c4=some (.cells fF):=by rw[hS7 c4 n45 (Ne.symm m4)];exact q4
     have t6:σ7 c6=some (.cells (A6 a)):=by rw[hS7 c6 n6 (Ne.symm m6)];exact q6
     have tl:σ7 lb=some (.cells (flatten (lastL.map dt)++rest)):=by rw[hS7 lb nlc (Ne.symm ml)];exact ql
     clear hta hth q4 q6 ql q6' hS7 htb
     rcases Int.lt_or_le 72 hr with g72|g72
     . refine ab.run lay [] ?_
       simp[e0,e4,e6,e7,e8,aJ,aI,bh,e13,v13,g72,f3.1,f3.2];refine ih _ g1 ⟨_,σ7,a,hh,lastL,es,ks,rfl,by simp[e0,e4,e6,e7,e8,aJ,aI,bh,e13],by simp[e0,e4,e6,e7,e8,aJ,aI,bh,e13],by simp[e0,e4,e6,e7,e8,aJ,aI,bh,e13],by simp[e0,e4,e6,e7,e8,aJ,aI,bh,e13],by simp[e0,e4,e6,e7,e8,aJ,aI,bh,e13],by simp[e0,e4,e6,e7,e8,aJ,aI,bh,e13],by simp;omega,hb7.mono (by omega),t4,t6,tl,hta7,hth7,hdis,hseen,hES,hmk,by omega⟩
     . have g72':¬hr>72:=by omega
       obtain⟨n1,hn1⟩:∃n1:lP,n1=⟨hr,e.place,el.cS,e.marks,ht,sh⟩:=⟨_,rfl⟩;obtain⟨CL',hCL'⟩:∃CL',CL'=flatten ((lastL.set kn n1).map dt)++rest:=⟨_,rfl⟩;have hCLn:kn*6+6<=CL.length:=by rw[hCL,List.length_append,hCLl];omega
       have hspl:aS CL (kn*6) [int hr,int e.place,int el.cS,ints e.marks,int ht,int sh]=CL':=by
        have:=xZ (k:=6) (lastL.map dt) kn (dt n1) (by rw[List.length_map];exact hkl) hc6 rfl
        rw[hCL',List.map_set,<-this,hCL];unfold aS;rw[List.take_append_of_le_length (by rw[hCLl];omega),List.drop_append_of_le_length (by rw[hCLl];simp;omega),hn1]
        simp
       rw[<-hCL]at tl;have htc:=hta7.cells;have hhc7:=hth7.cells;have t6':σ7 c6=some (.cells [a,rows f0.roads,int f0.bM,int f0.jn,int f0.dR,int i]):=by rw[t6,hA6]
       have ml':=Ne.symm ml;refine ab.run lay [] ?_;simp[e0,e4,e6,e7,e8,aJ,aI,bh,e13,v13,g72',tl,hkn,hspl,hCLn,aa.ai,nl6.symm,ml,t6',htc.1,htc.2];subst hn1;have ntl:bJ a≠some lb:=λe=>by obtain⟨_,_,q⟩:=hta7.aW e;rw[tl]at q;cases q
       have ntl2:bJ hh≠some lb:=λe=>by obtain⟨_,_,q⟩:=hth7.aW e;rw[tl]at q;cases q
       have hta8:Tok (σ.del c) (σ7.set lb (.cells CL')) a 6 (es.map dt):=hta7.beside r1 ntl;have hth8:Tok (σ.del c) (σ7.set lb (.cells CL')) hh 1 (ks.map int):=hth7.beside r1 ntl2;have hel':(es.map dt).length<=6:=by rw[List.length_map];omega
       have hkl':(ks.map int).length<=6:=by rw[List.length_map,hseen.len];omega
       refine aM lay rfl rfl rfl sB rfl sB rfl CR (by decide) (by simp;omega) (σ0:=(σ7.set lb (.cells CL')).off a) (es:=es.map dt) (xs:=[dt ⟨hr,e.place,el.cS,e.marks,ht,sh⟩]) (by simpa using hta8.here.1) (.inr ⟨_,by simp;rfl⟩) λa' σ9 ht9=>?_
       obtain⟨hth9,hd9⟩:=Ek hth8 hta8 (λb hb q=>hdis b q hb) ht9
       have hta9:=ht9.base hta8.here.2;have k9:∀y l,(σ7.set lb (.cells CL')) y=some (.cells l)->σ9 y=some (.cells l):=λy l hy=>ht9.1 _ _ (by rw[aa.fU (λe=>by obtain⟨_,_,q⟩:=hta8.aW e;rw[hy]at q;cases q)];exact hy)
       have htc9:=hta9.cells;refine ab.run lay [] ?_;simp[e0,e4,e6,e7,e8,aJ,aI,bh,e13,htc9.1,htc9.2];refine aM lay rfl rfl rfl cA rfl cA rfl pQ (by decide) (by simp;omega) (σ0:=σ9.off hh) (es:=ks.map int) (xs:=[int kn]) (by simpa using hth9.here.1) (.inr ⟨_,by simp;rfl⟩) λhh' σ10 ht10=>?_
       obtain⟨hta10,hd10⟩:=Ek hta9 hth9 (λb hb q=>hd9 b q hb) ht10
       have hth10:=ht10.base hth9.here.2;have hhc10:=hth10.cells;have k10:∀y l,σ9 y=some (.cells l)->σ10 y=some (.cells l):=λy l hy=>ht10.1 _ _ (by rw[aa.fU (λe=>by obtain⟨_,_,q⟩:=hth9.aW e;rw[hy]at q;cases q)];exact hy)
       have z6:σ10 c6=some (.cells [a,rows f0.roads,int f0.bM,int f0.jn,int f0.dR,int i]):=k10 _ _ (k9 _ _ (by rw[aa.ai _ _ (Ne.symm nl6)];exact t6'))
       have z4:σ10 c4=some (.cells fF):=k10 _ _ (k9 _ _ (by rw[aa.ai _ _ (Ne.symm nl4)];exact t4))
       have zl:σ10 lb=some (.cells CL'):=k10 _ _ (k9 _ _ (aa.ao _ _ _));refine ab.run lay [] ?_;simp[e0,e4,e6,e7,e8,aJ,aI,bh,e13,z6,aS,htc9.1,htc9.2,hhc10.1,hhc10.2,f3.1,f3.2];have hnT:Jt f0.roads.length ⟨hr,e.place,el.cS,e.marks,ht,sh⟩:=⟨⟨hrb.1,by omega⟩,he.place,helS.cS,he.marks,hht30,hsh2⟩
       have hlg:lastL.getD kn qt=el:=by rw[List.getD_eq_getElem?_getD,List.getElem?_eq_getElem hkl,hel];rfl
       have hHg2:H.getD kn 0=h0:=by rw[List.getD_eq_getElem?_getD,List.getElem?_eq_getElem hkH,hh0];rfl
       have hseen':=hseen.push (k:=kn) (n:=⟨hr,e.place,el.cS,e.marks,ht,sh⟩) hkn (by rw[hf1];exact hnT.check) (by rw[hlg]) (by rw[hHg2,hf1];refine Ju hfto hsh2 ?_;exact hht) (λq=>by rw[hlg];exact hfit q)
       have fin6:∀{x:AV}{kk:Nat}{l:List AV},Tok (σ.del c) σ10 x kk l->Tok (σ.del c) (σ10.set c6 (.cells (A6 a'))) x kk l:=λ{x kk l} hx=>hx.beside h6d (λe=>by obtain⟨_,_,q⟩:=hx.aW e;rw[z6]at q;cases q)
       refine ih _ g1 ⟨_,σ10.set c6 (.cells (A6 a')),a',hh',lastL.set kn ⟨hr,e.place,el.cS,e.marks,ht,sh⟩,es++[⟨hr,e.place,el.cS,e.marks,ht,sh⟩],ks++[(kn:Int)],by rw[hA6],by simp[e0,e4,e6,e7,e8,aJ,aI,bh,e13],by simp[e0,e4,e6,e7,e8,aJ,aI,bh,e13],by simp[e0,e4,e6,e7,e8,aJ,aI,bh,e13],by simp[e0,e4,e6,e7,e8,aJ,aI,bh,e13],by simp[e0,e4,e6,e7,e8,aJ,aI,bh,e13],by simp[e0,e4,e6,e7,e8,aJ,aI,bh,e13],by simp;omega,?_,?_,aa.ao _ _ _,?_,by have:=fin6 hta10;simpa using this,by have:=fin6 hth10;simpa using this,λb hb=>hd10 b hb,hseen',λx hx=>?_,λx hx=>?_,by simp;omega⟩
       . obtain⟨n,z,g1,g2⟩:=hb7
         exact⟨n,z,by omega,by rw[aa.ai _ _ (Ne.symm n6)];exact k10 _ _ (k9 _ _ (by rw[aa.ai _ _ (Ne.symm nlc)];exact g2))⟩
       . rw[aa.ai _ _ (Ne.symm n64)];exact z4
       . rw[aa.ai _ _ nl6,zl,hCL']
       . rcases List.mem_or_eq_of_mem_set hx with hx|rfl
         . exact hES x hx
         . exact hnT
       . rcases List.mem_append.1 hx with hx|hx
         . exact hmk x hx
         . simp at hx;subst hx;exact hem
   . have hjq:j=qn:=by omega
     subst hjq;have n2':¬(j:Int)<j:=by omega
     refine ab.run lay [] ?_;simp[e0,e4,e6,e7,e8,aJ,aI,hac.1,hac.2,hhc.1,hhc.2,n2',q4,q6',aS];obtain⟨nb,zb,hb1,hb2⟩:=hbj;obtain⟨f,hf⟩:∃f:Fr,f=⟨es,f0.roads,f0.bM,f0.jn,f0.dR,(i:Int)⟩:=⟨_,rfl⟩;have hgd:=Fr.jw (hf0.fits (by omega)) (hf0.check (by omega))
     have hOK:zu cnt f ks:=by
      have hspots:=hf0.ew;subst hf1;subst hf;refine⟨⟨⟨by show es.length<1152921504606846976;omega,hgd.fits.roads,hgd.fits.row,λe he=>by have:=hmk e he;omega⟩,hgd.fr,hgd.to,hgd.le,hgd.dR,by show 1<=(i:Int)/\(i:Int)<=6;omega,by show es.length<=6;omega,λe he=>hseen.Bp e he,hgd.Lu⟩,by show(es.length:Int)<=cnt;omega,by show f0.roads.length<=3;omega,λr hr=>?_,hmk,by show(i:Int)<=3;omega,i,C,H,lastL,⟨hseen.len,hseen.Gh,hseen.Bp,hseen.cS,hseen.LH,hseen.fit,hseen.Qm,hseen.Eh,hseen.Mt⟩,rfl⟩
      obtain⟨t,ht,rfl⟩:=List.mem_iff_getElem.1 hr;exact Nat.le_trans (Nat.le_of_eq (hgd.row (i:=t) ht).1) hspots.2
     refine .nC (a':=.c9 [aF f,ints ks]) (yx rfl λi x y x1 x2=>?_) (.less (σ':=σ.set c (.cells [ints nums,int nb,.lit (.int .u64 zb)])) (λy x hy=>?_) (.done (h f ks _ hOK ⟨⟨nb,zb,by omega,aa.ao _ _ _⟩,λy hy=>aa.ai _ _ hy⟩)))
     . match i with
       | 0=>
         simp at x1 x2;subst x1;subst x2;refine rS (by subst hf;rfl) λi x y x1 x2=>?_
         subst hf
         match i with
         |0=>simp at x1 x2;subst x1;subst x2;exact hta.W
         |1=>simp at x1 x2;subst x1;subst x2;exact .refl _
         |2=>simp at x1 x2;subst x1;subst x2;exact .refl _
         |3=>simp at x1 x2;subst x1;subst x2;exact .refl _
         |4=>simp at x1 x2;subst x1;subst x2;exact .refl _
         |5=>simp at x1 x2;subst x1;subst x2;exact .refl _
         |i+6=>simp at x1
       |1=>simp at x1 x2;subst x1;subst x2;exact hth.W
       |i+2=>simp at x1
     . by_cases y1:y=c
       . subst y1
         rw[aa.ao]at hy;rw[aa.ai _ _ n4,hb2];exact hy
       . rw[aa.ai _ _ y1]at hy
         have y4:y≠c4:=λe=>by subst e;rw[h4]at hy;cases hy
         rw[aa.ai _ _ y4];exact hta.1 y x (by simpa[aa.del,y1]using hy)
end
end Go.Proofs.YtalogdafegmilaaGreatDoor
namespace Go.Proofs.YtalogdafegmilaaGreatDoor
open Go.aN Go.Conc
set_option maxHeartbeats 1000000
set_option maxRecDepth 4000
theorem Fr.Good.Ng{f:Fr}(h:f.Good):check f=0:=by
 have h1:=h.fr;have h2:=h.to;have h3:=h.le;have h4:=h.dR;have h5:=h.most;have h6:=h.pi;have e1:(dv f.bM 0 3 && dv f.jn 0 3)=true:=by simp[dv];omega
 have e2:(dv f.dR 1 6 && dv f.most 1 6)=true:=by simp[dv];omega
 unfold Go.Proofs.YtalogdafegmilaaGreatDoor.check;rw[if_neg (by simp[h.Lu]),e1,if_neg (by simp),if_neg (by omega),e2,if_neg (by simp),if_neg (by omega)]
 exact nf h.Bp
end Go.Proofs.YtalogdafegmilaaGreatDoor
namespace Go.Proofs.YtalogdafegmilaaGreatDoor
open Go.aN Go.Conc
set_option maxHeartbeats 2000000
set_option maxRecDepth 4000
variable{m:Mo}{σ:aa}{KF:cL->aa->Prop}
theorem zu.ways{cnt:Int}{f:Fr}{ks:List Int}(h:zu cnt f ks):ak f []≠[]:=by
 obtain⟨most,C,H,last,hs,hm⟩:=h.seen;obtain⟨w,s,_,hw⟩:=hs.cd h.jw (by omega);intro e;rw[e]at hw;cases hw
theorem qv{σ σ1 σ2:aa}{c d:Nat}{x:jy}(hc:σ c=none)(h1:∀y,y≠c->σ1 y=σ y)(h2:∀y,y≠c->σ2 y=σ1 y)(hd:σ2 d=none):σ.Le ((σ2.set d x).del d):=λy z hy=>by
 have y1:y≠c:=λe=>by subst e;rw[hc]at hy;cases hy
 have y0:σ2 y=some z:=by rw[h2 y y1,h1 y y1];exact hy
 have y2:y≠d:=λe=>by subst e;rw[hd]at y0;cases y0
 simp only[aa.del,y2,if_false,aa.ai _ _ y2];exact y0
end Go.Proofs.YtalogdafegmilaaGreatDoor

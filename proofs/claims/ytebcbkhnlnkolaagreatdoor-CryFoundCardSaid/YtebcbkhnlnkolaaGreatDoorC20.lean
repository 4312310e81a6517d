import Derived.Test.YtebcbkhnlnkolaaGreatDoorC19
set_option linter.all false
set_option maxHeartbeats 2000000
set_option maxRecDepth 4000
namespace Go.Proofs.YtebcbkhnlnkolaaGreatDoor
open Go.Proofs.Tryz (prog)
section
open Go.bU Go.Conc
def GS(L:adQ)(g g':Int)(v:adQ):Bool:=fL (L.idxOf g:Int) (L.idxOf g':Int) v
theorem tu{L:adQ}{g}(h:g∈L):L.getD (L.idxOf g) 0=g:=by grind
theorem m8.sub{f x y L M}(h:m8 f x L)(a:m8 f y M)(d:∀i∈M,i∈L)(b:x.aY<=y.aY):m8 x y (M.map λi=>(L.idxOf i:Int)):=by
 have c:∀i∈M,(L.idxOf i:Int)<L.length:=λi q=>by grind
 refine⟨by rw[a.roads,h.roads],by rw[a.fr,h.fr],by rw[a.to,h.to],by rw[a.cL,h.cL],b,λj q=>?_,?_⟩
 . obtain⟨i,e,rfl⟩:=aax.1 q
   rw[h.len];simp_all
 . rw[a.qB,acL]
   refine acA λi q=>?_
   have:=h.at (j:=(L.idxOf i:Int)) ⟨by omega,c i q⟩
   simp_all
theorem B9{f x y L M}(h:m8 f x L)(b:m8 f y M)(c:∀i∈M,i∈L)(d:x.aY<=y.aY)(j:x.Good)(k:y.Good){v}(l:v∈aI x []):∃u∈aI y [],∀g∈M,∀g'∈M,GS M g g' u=GS L g g' v:=by
 obtain⟨u,m,e⟩:=(h.sub b c d).de j k l;have a:∀g∈M,M.idxOf g<M.length/\(M.map λi=>(L.idxOf i:Int)).getD (M.idxOf g) 0=(L.idxOf g:Int):=λg q=>by grind
 refine⟨u,m,λg q g' n=>?_⟩;have o:=a g q;have p:=a g' n;have:=e (M.idxOf g) (M.idxOf g') (by simp_all) (by simp_all);unfold GS
 simp_all
theorem I7  f  (es cs:adQ)  x  (N:adQ) (a:cs.Nodup) (b:∀c∈cs,0<=c/\c<3) (g:3*(es.getD x 0).toNat+2<N.length)  q :∀n ,n<=cs.length ->
 ((List.range n).foldl (λN y=>N.set (3*(es.getD x 0).toNat+(cs.getD y 0).toNat) (oY f x ((es.length:Int)+y))) N).length=N.length/\
 (∀y<n,((List.range n).foldl (λN y=>N.set (3*(es.getD x 0).toNat+(cs.getD y 0).toNat) (oY f x ((es.length:Int)+y))) N).getD (3*(es.getD x 0).toNat+(cs.getD y 0).toNat) 0=oY f x ((es.length:Int)+y))/\
 ((∀y<n,q≠3*(es.getD x 0).toNat+(cs.getD y 0).toNat)->((List.range n).foldl (λN y=>N.set (3*(es.getD x 0).toNat+(cs.getD y 0).toNat) (oY f x ((es.length:Int)+y))) N).getD q 0=N.getD q 0)
 |0,_=>⟨rfl,λy d=>by omega,λ_=>rfl⟩
 | n + 1,o=>by
   obtain⟨p,r,j⟩:=I7 f es cs x N a b g q n (by omega);rw[abn,abC,abS,List.foldl_nil];generalize (List.range n).foldl _ N=R at *;have s:=b _ (iF (l:=cs) (i:=n) (by omega));refine⟨by simp_all,λy d=>?_,λh=>?_⟩
   . by_cases e:y=n
     . subst e
       rw[zD,abT (by omega)];rfl
     . have k:(cs.getD y 0).toNat≠(cs.getD n 0).toNat:=λq=>by
        have m:=b _ (iF (l:=cs) (i:=y) (by omega));have:cs.getD y 0=cs.getD n 0:=by omega
        rw[zD,zD,zR (show y<cs.length by omega),zR (show n<cs.length by omega)]at this;exact e (zW a this)
       grind
   . rw[zD,abL (λe=>h n (by omega) e.symm),<-List.getD_eq_getElem?_getD]
     exact j λy d=>h y (by omega)
theorem F7  f   es cs  (a:es.Nodup) (g:∀i∈es,0<=i/\i<6) (b:cs.Nodup) (d:∀c∈cs,0<=c/\c<3)  q :∀n ,n<=es.length ->
 ((List.range n).foldl (λN x=>xg f es cs x N) (List.replicate 18 0)).length=18/\
 (∀x<n,∀y<cs.length,((List.range n).foldl (λN x=>xg f es cs x N) (List.replicate 18 0)).getD (3*(es.getD x 0).toNat+(cs.getD y 0).toNat) 0=oY f x ((es.length:Int)+y))/\
 ((∀x<n,∀y<cs.length,q≠3*(es.getD x 0).toNat+(cs.getD y 0).toNat)->((List.range n).foldl (λN x=>xg f es cs x N) (List.replicate 18 0)).getD q 0=0)
 |0,_=>⟨by simp,λy j=>by omega,λ_=>by grind⟩
 | n + 1,w=>by
   obtain⟨o,p,r⟩:=F7 f es cs a g b d q n (by omega);rw[abn,abC,abS,List.foldl_nil];obtain⟨R,k⟩:∃R,R=(List.range n).foldl (λN x=>xg f es cs x N) (List.replicate 18 0):=⟨_,rfl⟩;rw[<-k]at o p r ⊢;have z:=g _ (iF (l:=es) (i:=n) (by omega));have s:3*(es.getD n 0).toNat+2<R.length:=by omega
   have key:=λq=>I7 f es cs n R b d s q cs.length (aaA _)
   refine⟨by unfold xg;exact(key 0).1.trans o,λx A y j=>?_,λh=>?_⟩
   . by_cases e:x=n
     . subst e;exact(key 0).2.1 y j
     . have t:=g _ (iF (l:=es) (i:=x) (by omega))
       have u:(es.getD x 0).toNat≠(es.getD n 0).toNat:=λq=>by
        have:es.getD x 0=es.getD n 0:=by omega
        rw[zD,zD,zR (show x<es.length by omega),zR (show n<es.length by omega)]at this;exact e (zW a this)
       have v:=d _ (iF j);unfold xg;rw[(key _).2.2 λB m=>by have:=d _ (iF m);omega]
       grind
   . unfold xg
     grind
section
variable{w:fA}
theorem B4  n :(oh n).Nodup:=by unfold oh;rw[List.Nodup,List.pairwise_map];exact(List.nodup_range (n:=n)).imp λh e=>h (by omega)
theorem ui  w   h :(bo w h).Nodup:=(B4 _).filter _
theorem DC  w   h :(bz w h).Nodup:=(B4 _).filter _
theorem uU{es cs i}(hi:i∈es):(oi w es cs).idxOf i=es.idxOf i:=by grind
theorem Rl{cs:adQ}{n c}:(cs.map fun  c=>c+n).idxOf (c+n)=cs.idxOf c:=by
 induction cs with
 |nil=>rfl
 |cons a l b=>grind
theorem uV{es cs:adQ}{c:Int}(a:∀i∈es,i<w.fair.au.length)(b:0<=c):(oi w es cs).idxOf (c+w.fair.au.length)=es.length+cs.idxOf c:=by unfold oi;rw[List.idxOf_append,aau λq=>by grind,Rl,Nat.add_comm]
abbrev B8(w:fA)(h i c:Int):Int:=qv (aI (gZ w h) []) ((eh w h).idxOf i) ((eh w h).idxOf (c+w.fair.au.length))
theorem xm(a:w.Valid){h i c}(hi:0<=i/\i<6)(b:0<=c/\c<3):dG w h i c=if i∈bo w h/\c∈bz w h then B8 w h i c else 0:=by
 have m:=a.lu;have n:=a.sa.1;obtain⟨_,d,f⟩:=F7 (gZ w h) (bo w h) (bz w h) (ui w h) (λi q=>by have:=eI q;omega) (DC w h) (λi q=>by have:=iG q;omega) (3*i.toNat+c.toNat) _ (aaA _)
 have e:dG w h i c=(BZ (gZ w h) (bo w h) (bz w h)).getD (3*i.toNat+c.toNat) 0:=by show(BZ (bE w (aD (kE w h)) (aD (kC w h))) (aD (kE w h)) (aD (kC w h))).getD (3*i.toNat+c.toNat) 0=_;rw[a.kE,a.kC]
 rw[e];unfold BZ;split
 . next q=>
   obtain⟨g,o⟩:=uJ q.1;obtain⟨j,p⟩:=uJ q.2;have:=d _ g _ j;rw[tu q.1,tu q.2]at this;rw[this];unfold B8 qv oY;rw[uU q.1,uV (λi q=>(eI q).2) b.1]
   simp_all
 . next q=>
   refine f λx k y l e=>q ?_
   have r:=eI (iF k);have s:=iG (iF l);have t:(bo w h).getD x 0=i:=by omega
   have u:(bz w h).getD y 0=c:=by omega
   grind
theorem uT(a:w.Valid)  h :0<(aI (gZ w h) []).length:=by
 have:=(a.open.bk h).some;simp only[a.kE,a.kC]at this
 grind
end
end
section
open Go Go.bU Go.Conc
variable{m:Mo}{σ:ab}{KF:adC}
theorem JK{P Q:Prop}(f:P->Q)(p:P):Q:=f p
end
section
open Go.bU Go.Conc
section
variable{w:fA}
theorem xn{h i c}(q:i∈bo w h/\c∈bz w h):i∈eh w h/\c+w.fair.au.length∈eh w h:=⟨List.mem_append_left _ q.1,List.mem_append_right _ (aax.2 ⟨c,q.2,rfl⟩)⟩
end
end
section
open Go.bU Go.Conc
variable{m:Mo}{σ:ab}{KF:adC}
def lq(a b:adQ):adQ:=a.filter λx=>decide (x∉b)
def WW(a b:adQ):Int:=((lq a b).length:Int)+((lq b a).length:Int)
theorem Af{a b:adQ}{i}  h :lq (a.take (i+1)) b=lq (a.take i) b++if a[i]∈b then[]else[a[i]]:=by
 unfold lq;rw[zG h,abQ]
 grind
theorem oZ  a b :(lq a b).length<=a.length:=abq _ _
def Ps:adw:=[[],[0],[1],[2],[0,1],[0,2],[1,2],[0,1,2]]
theorem F8{l}(h:l.Sublist [0,1,2]):l∈Ps:=by cases h<;>(rename_i h;cases h<;>(rename_i h;cases h<;>(rename_i h;cases h;decide)))
theorem Rm:∀a∈Ps,∀b∈Ps,WW a b=bI (aU a) (aU b):=by decide +kernel
theorem F9{a b}(c:a.Sublist [0,1,2])(hb:b.Sublist [0,1,2]):WW a b=bI (aU a) (aU b):=Rm _ (F8 c) _ (F8 hb)
theorem HU{a b}(x:a.length<1000000)(hb:b.length<1000000)(h:KF (.val (int (WW a b))) σ):aA prog m 62 [ints a,ints b] σ KF:=by
 refine fs [] Tryz.func62 rfl (by kernel_rfl) ?_
 simp[Tryz.f62];refine aa.loop a.length (λi s=>∃env,s=⟨env,σ,[],.no⟩/\env 0=ints a/\env 1=ints b/\env 5=int ((lq (a.take i) b).length:Int)/\env 6=int i) ⟨_,rfl,by simp[lq]⟩ ?_
 rintro u i _ v ⟨env,rfl,e,f,d,n⟩ r
 rcases abk i a.length with g1|g1
 . have t:(i:Int)<a.length:=by omega
   have j:=oZ (a.take i) b;rw[abP]at j;have f1:-9223372036854775808<=(i:Int)+1/\(i:Int)+1<=9223372036854775807:=by omega
   have o:-9223372036854775808<=((lq (a.take i) b).length:Int)+1/\((lq (a.take i) b).length:Int)+1<=9223372036854775807:=by omega
   have c:=Af (b:=b) g1;apply rn;simp[e,f,d,n,g1];refine cf Tryz.func21 rfl (fU (by omega) ?_)
   by_cases q:a[i]∈b
   . rw[aav q,abB]at c
     have k:¬iJ b a[i]<0:=by have:=(dP b a[i]).2 q;omega
     apply rn;simp[e,f,d,n,k,f1.1,f1.2]
     simp_all
   . rw[aau q]at c
     have k:iJ b a[i]<0:=by
      rcases Int.lt_or_le (iJ b a[i]) 0 with g|g
      . exact g
      . exact absurd ((dP b a[i]).1 g) q
     apply rn;simp[e,f,d,n,k,f1.1,f1.2,o.1,o.2]
     simp_all
 . have l:i=a.length:=by omega
   subst l;rw[aaD]at d;have w:=oZ a b;apply rn;simp[e,f,d,n];refine aa.loop b.length (λi s=>∃env,s=⟨env,σ,[],.no⟩/\env 0=ints a/\env 1=ints b/\env 5=int (((lq a b).length:Int)+((lq (b.take i) a).length:Int))/\env 7=int i) ⟨_,rfl,by simp[e,f,lq,d]⟩ ?_
   clear e f d n r
   rintro u i _ v ⟨env,rfl,e,f,d,p⟩ r
   rcases abk i b.length with g1|g1
   . have t:(i:Int)<b.length:=by omega
     have j:=oZ (b.take i) a;rw[abP]at j;have f1:-9223372036854775808<=(i:Int)+1/\(i:Int)+1<=9223372036854775807:=by omega
     have o:-9223372036854775808<=((lq a b).length:Int)+((lq (b.take i) a).length:Int)+1/\((lq a b).length:Int)+((lq (b.take i) a).length:Int)+1<=9223372036854775807:=by omega
     have c:=Af (b:=a) g1;apply rn;simp[e,f,d,p,g1];refine cf Tryz.func21 rfl (fU (by omega) ?_)
     by_cases q:b[i]∈a
     . rw[aav q,abB]at c
       have k:¬iJ a b[i]<0:=by have:=(dP a b[i]).2 q;omega
       apply rn;simp[e,f,d,p,k,f1.1,f1.2]
       simp_all
     . rw[aau q]at c
       have k:iJ a b[i]<0:=by
        rcases Int.lt_or_le (iJ a b[i]) 0 with g|g
        . exact g
        . exact absurd ((dP a b[i]).1 g) q
       apply rn;simp[e,f,d,p,k,f1.1,f1.2,o.1,o.2];refine r _ g1 ⟨_,rfl,by simp_all,by simp_all,by simp[c,Int.add_assoc]⟩
   . have l:i=b.length:=by omega
     subst l;rw[aaD]at d;apply rn;simp[e,f,d,p];exact .done h
theorem Ag{P m fid n ro hold K todo D rc}{G:Prop}(I:adA)
 (a:(∀env σ,I env σ->aa P m fid n ro hold todo ⟨env,σ,D,rc⟩ K)->G) (b:∀env σ,I env σ->aa P m fid n ro hold todo ⟨env,σ,D,rc⟩ K):G:=a b
structure Pt  eH  (e:xq):Prop where
 hour:0<=e.hour/\e.hour<=72
 place:0<=e.place/\e.place<eH
 ck:0<=e.ck/\e.ck<=1
 marks:e.marks.Sublist [0,1,2]
 bf:0<=e.bf/\e.bf<=30
 gK:0<=e.gK/\e.gK<=2
theorem Pt.check{eH e}(h:Pt eH e):bS eH e=0:=by
 obtain⟨b,c,d,a,f,g⟩:=h;have a:=(mr a).1;unfold bS bC
 grind
structure HV  cnt  (f:Fr)  ks :Prop where
 om:f.Good
 len:(f.au.length:Int)<=cnt
 eH:f.roads.length<=3
 row:∀r∈f.roads,r.length<=3
 marks:∀e∈f.au,e.marks.length<=3
 aY:f.aY<=3
 seen:∃  aY   C H   last ,Seen f aY C H ks f.au last/\(aY:Int)=f.aY
theorem B5{k}:∀  es   i   x ,i<es.length->(∀e∈es,e.cells.length=k)->x.cells.length=k->(flatten es).take (i*k)++x.cells++(flatten es).drop (i*k+k)=flatten (es.set i x)
 | e::es,0,x,_,a,b=>by
   have c:=a e (by simp);rw[List.set_cons_zero,flatten_cons,flatten_cons]
   grind
 | e::es,i+1,x,g,a,b=>by
   have c:=a e (by simp);have d:=B5 es i x (by simp_all) (λy f=>a y (by simp[f])) b;rw[List.set_cons_succ,flatten_cons,flatten_cons,<-d,acR,Nat.one_mul,adk,List.drop_append];rw[aca (by omega),List.drop_eq_nil_of_le (by omega),c,show i*k+k-k=i*k by omega,show i*k+k+k-k=i*k+k by omega];simp
theorem Pu{f n h}(g:f.aX<=f.fe)(i:0<=n.gK/\n.gK<=2)(hb:(n.gK≠1/\n.bf=h)\/(n.gK≠0/\∃y,f.aX<=y/\y<=f.fe/\n.bf=h+y)):h∈bQ f n:=by
 have a:n.gK≠1->n.bf∈bQ f n:=λc=>by
  unfold bQ
  grind
 have b:∀x,x∈iw f n->x∈bQ f n:=λx j=>by
  unfold bQ
  grind
 rcases hb with⟨c,rfl⟩|⟨d,y,k,l,e⟩
 . exact a c
 . refine b _ ?_
   unfold iw;rw[aav d];exact aax.2 ⟨(f.fe-y).toNat,LK.2 (by omega),by omega⟩
theorem uQ{σ0 σ c σ' a kk es}(h:Tok σ0 σ a kk es)(d:c.Le σ')(hb:∀b,br a=some b->σ' b=σ b/\c b=none):Tok c σ' a kk es:=by
 refine⟨d,?_⟩;rcases h.2 with q|q|⟨b,e,g,f,i⟩
 . exact .inl q
 . simp_all
 . obtain⟨j,k⟩:=hb b (by rw[f];rfl)
   grind
theorem I8{σ0 σ σ2 a kk es c}(h:cz σ0 σ a kk es)(i:σ0 c=none)(f:fI a≠some c)(d:∀y,y≠c->σ2 y=σ y):cz σ0 σ2 a kk es:=h.keep (λy x g=>by rw[d y (λe=>by simp_all)];exact h.1 y x g) λb hb=>⟨d b (λe=>f (e ▸ hb)),(h.mH hb).1⟩
theorem Rn{σ0 σ σ' a c j kk k m es n o}(h:Tok σ0 σ a kk es)(f:cz σ0 σ c k n)(g:cz (σ.CE c) σ' j m o):Tok σ0 σ' a kk es:=
 uQ h (ab.le_trans f.here.2 g.1) λb hb=>by
  obtain⟨p,e,i⟩:=h.aW hb;have d:fI c≠some b:=λq=>by obtain⟨_,l,r⟩:=f.mH q;simp_all
  exact⟨by rw[i];exact g.1 b _ (by rw[ab.rO d];exact i),p⟩
theorem Ro{σ0 σ σ' a c j kk k m es n o}(h:cz σ0 σ a kk es)(f:Tok σ0 σ c k n)(g:Tok (σ.off c) σ' j m o):cz σ0 σ' a kk es:=
 h.keep (ab.le_trans f.here.2 g.1) λb hb=>by
  obtain⟨p,l,i⟩:=h.mH hb;have d:br c≠some b:=λq=>by obtain⟨_,e,r⟩:=f.aW q;simp_all
  exact⟨by rw[i];exact g.1 b _ (by rw[ab.dQ d];exact i),p⟩
theorem lX{env:Env}{t u v}(h:u≠t):(env.upd t v) u=env u:=by simp_all
theorem Ux{env:Env}{t v}:(env.upd t v) t=v:=by simp_all
structure I9(V:Nat->AV)(AN:Env)  σ6   c c13 K   nums   T  (X:Int->adV) (done:adR) (env:Env)  σ :Prop where
 base:∀s,s<97->env s=AN s
 eo:∀i,i∈done->i≠33->i≠34->i<36->env (97+i)=V i
 pre:33∉done->σ=σ6
 post:33∈done->36∉done->bx c nums K σ/\∀y,y≠c->σ y=σ6 y
 pick:33∈done->∃p ,(0<=p/\p<=3)/\env 130=int p/\(34∈done->env 131=int (T+p))
 all:36∈done->∀j,j<36->j∈done
 dep:34∈done->33∈done
 fin:36∈done->∃p ,(0<=p/\p<=3)/\bx c nums K σ/\σ c13=some (.cells (X (T+p)))/\∀y,y≠c->y≠c13->σ y=σ6 y
section
variable{V:Nat->AV}{AN env:Env}{σ6:ab}{c c13 K:Nat}{nums:adQ}{T:Int}{X:Int->adV}{done:adR}
theorem I9.Rq(h:I9 V AN σ6 c c13 K nums T X done env σ){i}(hi:i<36)(b:i∉done):36∉done:=λa=>b (h.all a i hi)
theorem I9.keep(h:I9 V AN σ6 c c13 K nums T X done env σ){i}(hi:i<36)(a:i∉done){y}(b:y≠c):σ y=σ6 y:=by
 by_cases q:33∈done
 . exact(h.post q (h.Rq hi a)).2 y b
 . rw[h.pre q]
theorem I9.next(h:I9 V AN σ6 c c13 K nums T X done env σ){i}(hi:i<36)(m:i∉done)(w:i≠33)(x:i≠34){a}(y:a=V i):I9 V AN σ6 c c13 K nums T X (i::done) (env.upd (97+i) a) σ:=by
 have b:33∈i::done↔33∈done:=by grind
 have f:34∈i::done↔34∈done:=by grind
 have k:=h.Rq hi m;have d:36∉i::done:=by grind
 refine⟨λs n=>?_,λj o r t u=>?_,λq=>h.pre λl=>q (b.2 l),λq _=>h.post (b.1 q) k,λq=>?_,λq=>absurd q d,λq=>b.2 (h.dep (f.1 q)),λq=>absurd q d⟩
 . rw[lX (by omega)];exact h.base s n
 . by_cases e:j=i
   . simp_all
   . rw[lX (by omega)]
     exact h.eo j ((abp.1 o).resolve_left e) r t u
 . obtain⟨p,v,l,z⟩:=h.pick (b.1 q)
   exact⟨p,v,by rw[lX (by omega)];exact l,λg=>by rw[lX (by omega)];simp_all⟩
theorem I9.TA(h:I9 V AN σ6 c c13 K nums T X done env σ)(l:33∉done)(b:34∉done){p}(m:0<=p/\p<=3){σ'}(hb:bx c nums K σ')(d:∀y,y≠c->σ' y=σ6 y):I9 V AN σ6 c c13 K nums T X (33::done) (env.upd 130 (int p)) σ':=by
 have e:=h.Rq (i:=33) (by omega) l;have a:36∉33::done:=by simp[e]
 have f:34∉33::done:=by simp[b]
 refine⟨λs d=>?_,λj n k o r=>?_,λq=>absurd (by simp) q,λ_ _=>⟨hb,d⟩,λq=>⟨p,m,by simp_all,λg=>absurd g f⟩,λq=>absurd q a,λ_=>by simp,λq=>absurd q a⟩
 . rw[lX (by omega)];exact h.base s d
 . rw[lX (by omega)]
   exact h.eo j ((abp.1 n).resolve_left k) k o r
theorem I9.summed(h:I9 V AN σ6 c c13 K nums T X done env σ)(f:34∉done)(a:33∈done){p}(k:0<=p/\p<=3)(r:env 130=int p):I9 V AN σ6 c c13 K nums T X (34::done) (env.upd 131 (int (T+p))) σ:=by
 have b:=h.Rq (i:=34) (by omega) f;have d:36∉34::done:=by simp[b]
 refine⟨λs l=>?_,λj m n e o=>?_,λq=>absurd (by simp[a]) q,λ_ _=>h.post a b,λq=>⟨p,k,by simp_all,λg=>by simp_all⟩,λq=>absurd q d,λ_=>by simp[a],λq=>absurd q d⟩
 . rw[lX (by omega)];exact h.base s l
 . rw[lX (by omega)]
   exact h.eo j ((abp.1 m).resolve_left e) n e o
end
theorem DD{σ0 σ σ' a c f kk j k es l m}(h:Tok σ0 σ a kk es)(n:Tok σ0 σ c j l)(hd:∀b,br a=some b->br c≠some b)(d:Tok (σ.off c) σ' f k m):Tok σ0 σ' a kk es/\∀b,br a=some b->br f≠some b:=by
 have key:∀b,br a=some b->(σ.off c) b=σ b:=λb hb=>ab.dQ (hd b hb)
 refine⟨uQ h (ab.le_trans n.here.2 d.1) λb hb=>?_,λb hb q=>?_⟩
 . obtain⟨g,e,i⟩:=h.aW hb
   exact⟨by rw[i];exact d.1 b _ (by simp_all),g⟩
 . obtain⟨g,e,i⟩:=h.aW hb
   obtain⟨o,_,_⟩:=d.aW q
   simp_all
section
variable{c k:Nat}{nums:adQ}
theorem Lu{cnt}(hk:k+500<1000000)(hn:nums.length<1152921504606846976)(td:1<=cnt/\cnt<=6)(hb:bx c nums k σ)(h:∀  f   ks  σ',HV cnt f ks->qz c nums (k+500) σ σ'->KF (.val (.cI [bF f,ints ks])) σ'):aA prog m 32 [.ref c 0,int cnt] σ KF:=by
 obtain⟨n0,s0,_,oF⟩:=id hb;refine fs Yj Tryz.func32 rfl (by kernel_rfl) ?_
 simp[Tryz.f32];refine bV.intro λX h4=>?_
 have n4:c≠X:=λe=>by simp_all
 have hT:∀x,bx c nums k (σ.set X x):=λx=>⟨n0,s0,by assumption,by rw[ab.ah _ _ n4];exact oF⟩
 simp;refine cf Tryz.func60 rfl (HH (cnt:=0) (by omega) hn ⟨by omega,by omega⟩ (hT _) λf0 a0 hU Z eg oG=>?_)
 obtain rfl:=oG.1 (acG.1 (by have:=Z.len;omega))
 have bq:X≠c:=zs n4;have oK:hU X=some (.cells gQ):=by rw[eg.2 X bq,ab.ai]
 apply rn;simp;refine bV.intro λP h6=>?_
 have n6:P≠c:=λe=>by subst e;obtain⟨_,_,_,q⟩:=eg.1;simp_all
 have fi:P≠X:=λe=>by simp_all
 have oL:σ P=none:=by rw[eg.2 P n6,ab.ah _ _ fi]at h6;exact h6
 simp
 have gU:∀x,bx c nums (k+20) (hU.set P x):=λx=>by obtain⟨n,z,g1,g2⟩:=eg.1;exact⟨n,z,g1,by rw[ab.ah _ _ (zs n6)];exact g2⟩
 refine cf Tryz.func13 rfl (fG (by omega) hn ⟨by omega,by omega⟩ ⟨by omega,by omega⟩ (gU _) λaY dy vk fl=>?_)
 have t6:dy P=some (.cells [.lit (.slice none 0 0),rows f0.roads,int f0.aX,int f0.fe,int f0.cL,int f0.aY]):=by rw[fl.2 P n6,ab.ai]
 have t4:dy X=some (.cells gQ):=by rw[fl.2 X bq,ab.ah _ _ (zs fi)];exact oK
 apply rn;simp[t6,aK];obtain⟨mo,rfl⟩:∃mo:Nat,aY=(mo:Int):=⟨aY.toNat,by omega⟩
 have vx:1<=mo/\mo<=3:=by omega
 have h1:=Z.eH;obtain⟨A6,ei⟩:∃A6:AV->adV,A6=λa=>[a,rows f0.roads,int f0.aX,int f0.fe,int f0.cL,int mo]:=⟨_,rfl⟩
 have oM:∀a,(A6 a).length=6:=λa=>by grind
 have b4:σ.del c c=none:=by simp[ab.del]
 have hX:bx c nums (k+21) (dy.set P (.cells (A6 (.lit (.slice none 0 0))))):=by obtain⟨n,z,g1,g2⟩:=fl.1;exact⟨n,z,by omega,by rw[ab.ah _ _ (zs n6)];exact g2⟩
 have al:(σ.del c).Le (dy.set P (.cells (A6 (.lit (.slice none 0 0))))):=λy x hy=>by
  have Y:y≠c:=λe=>by simp_all
  have y0:σ y=some x:=by simpa[ab.del,Y]using hy
  have y6:y≠P:=λe=>by simp_all
  have y4:y≠X:=λe=>by simp_all
  rw[ab.ah _ _ y6,fl.2 y Y,ab.ah _ _ y6,eg.2 y Y,ab.ah _ _ y4];exact y0
 have oN:σ.del c P=none:=by simp[ab.del,oL]
 have vy:σ.del c X=none:=by simp[ab.del,h4]
 have hY:(dy.set P (.cells (A6 (.lit (.slice none 0 0))))) X=some (.cells gQ):=by rw[ab.ah _ _ (zs fi)];exact t4
 refine aa.loop mo (λi s=>∃env σ' la ha L H,s=⟨env,σ',[],.no⟩/\env 0=.ref c 0/\env 1=int cnt/\env 4=.ref X 0/\env 6=.ref P 0/\env 7=la/\env 8=ha/\env 9=int i/\bx c nums (k+21+12*i) σ'/\σ' X=some (.cells gQ)/\σ' P=some (.cells (A6 (.lit (.slice none 0 0))))/\cz (σ.del c) σ' la 6 (L.map aZ)/\Tok (σ.del c) σ' ha 1 (H.map int)/\fI la≠some c/\fI la≠some X/\fI la≠some P/\L.length=i/\H.length=i/\(∀e∈L,zO f0.roads.length e)/\(∀x∈H,13<=x/\x<=16))
  ⟨_,dy.set P (.cells (A6 (.lit (.slice none 0 0)))),.lit (.slice none 0 0),.lit (.slice none 0 0),[],[],by rw[ei],by simp,by simp,by simp,by simp,by simp,by simp,by simp,hX,hY,ab.ai _ _ _,⟨al,.inl ⟨rfl,.inl rfl⟩⟩,⟨al,.inl ⟨rfl,rfl⟩⟩,by simp[fI],by simp[fI],by simp[fI],rfl,rfl,by simp⟩ ?_
 clear hX al hY
 rintro c0 i _ hi ⟨env,σ',la,ha,L,H,rfl,D,e1,G,E,F,J,e9,fp,q4,q6,ej,ep,et,ft,fu,hZ,oS,h2,ic⟩ ih
 have b5:=ej.cells;have d:=ep.cells;have a7:σ' P=some (.cells [.lit (.slice none 0 0),rows f0.roads,int f0.aX,int f0.fe,int f0.cL,int mo]):=by rw[q6,ei]
 rcases abk i mo with g1|g1
 . have ie:(i:Int)<mo:=by omega
   have f1:-9223372036854775808<=(i:Int)+1/\(i:Int)+1<=9223372036854775807:=by omega
   apply rn;simp[D,e1,G,E,F,J,e9,a7,b5.1,b5.2,d.1,d.2,g1];refine cf Tryz.func61 rfl (pZ (by omega) hn ⟨by omega,by omega⟩ fp λe a8 he U=>?_)
   have ix:∃l,σ' c=some (.cells l):=by obtain⟨_,_,_,q⟩:=fp;exact⟨_,q⟩
   have ev:=I8 ej b4 et U.2;have k0:=rZ ep b4 ix U.2;have ey:a8 X=some (.cells gQ):=by rw[U.2 X bq];exact q4
   have ez:a8 P=some (.cells (A6 (.lit (.slice none 0 0)))):=by rw[U.2 P n6];exact q6
   apply rn;simp[D,e1,G,E,F,J,e9,a7,b5.1,b5.2,d.1,d.2];refine pq lay rfl rfl rfl lH rfl lH rfl xd (by decide) (by simp;omega) (σ0:=a8.CE la) (es:=L.map aZ) (xs:=[aZ e]) (by simpa using ev.here.1) (.inl (.inr ⟨_,by simp;rfl⟩)) (by simp) λfv aO av=>?_
   have k4:∀y l,fI la≠some y->a8 y=some l->aO y=some l:=λy l hy hl=>av.1 _ _ (by rw[ab.rO hy];exact hl)
   have k2:=Rn k0 ev av;have h3:=av.base ev.here.2
   have k3:bx c nums (k+21+12*i+11) aO:=by obtain⟨n,z,g1,g2⟩:=U.1;exact⟨n,z,g1,k4 _ _ et g2⟩
   have gp:fI fv≠some c:=λq=>by obtain⟨g,_⟩:=av.mH q;obtain⟨_,_,_,g2⟩:=U.1;rw[ab.rO et,g2]at g;cases g
   have k5:fI fv≠some X:=λq=>by obtain⟨g,_⟩:=av.mH q;rw[ab.rO ft,ey]at g;cases g
   have k7:fI fv≠some P:=λq=>by obtain⟨g,_⟩:=av.mH q;rw[ab.rO fu,ez]at g;cases g
   have aL:=av.cells;apply rn;simp[D,J,aL.1,aL.2];refine cf Tryz.func13 rfl (fG (by omega) hn ⟨by omega,by omega⟩ ⟨by omega,by omega⟩ k3 λx ea p0 b1=>?_)
   have k8:∃l,aO c=some (.cells l):=by obtain⟨_,_,_,q⟩:=k3;exact⟨_,q⟩
   have c7:=rZ k2 b4 k8 b1.2;have kt:=I8 h3 b4 gp b1.2;apply rn;simp[D,J,aL.1,aL.2,d.1,d.2];refine aR lay rfl rfl rfl dK rfl dK rfl sb (by decide) (by simp;omega) (σ0:=ea.off ha) (es:=H.map int) (xs:=[int x]) (by simpa using c7.here.1) (.inr ⟨_,by simp;rfl⟩) λp5 σ6 c9=>?_
   have kv:=Ro kt c7 c9;have h5:=c9.base c7.here.2;have gw:=c9.cells;have k6:∀y l,ea y=some (.cells l)->σ6 y=some (.cells l):=λy l hy=>c9.1 _ _ (by rw[ab.dQ (λe=>by obtain⟨_,_,q⟩:=c7.aW e;rw[hy]at q;cases q)];exact hy)
   have p6:σ6 X=some (.cells gQ):=k6 _ _ (by rw[b1.2 X bq];exact k4 _ _ ft ey)
   have p7:σ6 P=some (.cells (A6 (.lit (.slice none 0 0)))):=k6 _ _ (by rw[b1.2 P n6];exact k4 _ _ fu ez)
   have b2:bx c nums (k+21+12*(i+1)) σ6:=by obtain⟨n,z,g1,g2⟩:=b1.1;exact⟨n,z,by omega,k6 _ _ g2⟩
   apply rn;simp[D,e9,f1.1,f1.2,aL.1,aL.2,gw.1,gw.2];refine ih _ g1 ⟨_,σ6,fv,p5,L++[e],H++[x],rfl,by simp[D],by simp[e1],by simp[G],by simp[E],by simp,by simp,by simp,b2,p6,p7,by simpa using kv,by simpa using h5,gp,k5,k7,by simp[hZ],by simp[oS],λy hy=>?_,λy hy=>?_⟩
   . rcases aaC.1 hy with hy|hy
     . exact h2 y hy
     . simp at hy;subst hy;exact he
   . rcases aaC.1 hy with hy|hy
     . exact ic y hy
     . simp at hy;omega
 . have p8:i=mo:=by omega
   subst p8;clear ih
   obtain⟨Q,cap,rest,rfl,r1,r2,r3,r4,r5⟩:∃Q cap rest,la=.ga Q 0 i cap/\σ.del c Q=none/\i<=cap/\(∀e∈L.map aZ,e.cells.length=6)/\σ' Q=some (.cells (flatten (L.map aZ)++rest))/\rest.length=(cap-i)*6:=by
    have eA:(L.map aZ).length=i:=by simp_all
    rcases ej.2 with⟨e,_⟩|⟨b,cap,rest,g1,g2,g3,g4,g5,g6⟩
    . grind
    . rw[eA]at g1 g3 g6
      grind
   have ay:Q≠c:=λe=>et (by rw[e];rfl)
   have pa:Q≠X:=λe=>ft (by rw[e];rfl)
   have h7:Q≠P:=λe=>fu (by rw[e];rfl)
   have tf:σ Q=none:=by simpa[ab.del,ay]using r1
   refine aa.Gc 8 (a':=ints H) (by rw[J];simpa using ep.W) ?_
   have b8:=ep.1;clear ej ep b5 d et ft fu J;apply rn;simp[D,e1,G,E,F,e9,a7];refine cf Tryz.func13 rfl (fG (by omega) hn ⟨by omega,by omega⟩ ⟨by omega,by omega⟩ fp λq a8 hq U=>?_)
   have ey:a8 X=some (.cells gQ):=by rw[U.2 X bq];exact q4
   have ez:a8 P=some (.cells (A6 (.lit (.slice none 0 0)))):=by rw[U.2 P n6];exact q6
   have kx:a8 Q=some (.cells (flatten (L.map aZ)++rest)):=by rw[U.2 Q ay];exact r4
   have al:(σ.del c).Le a8:=λy x hy=>by
    have Y:y≠c:=λe=>by simp_all
    rw[U.2 y Y];exact b8 y x hy
   obtain⟨qn,rfl⟩:∃qn:Nat,q=(qn:Int):=⟨q.toNat,by omega⟩
   have wm:1<=qn/\qn<=6:=by omega
   have gx:bx c nums (k+60) a8:=U.1.mono (by omega)
   obtain⟨C,hC⟩:∃C,C=L.map (·.ck):=⟨_,rfl⟩;obtain⟨f1,eB⟩:∃f1:Fr,f1=⟨[],f0.roads,f0.aX,f0.fe,f0.cL,(i:Int)⟩:=⟨_,rfl⟩
   have ca:Seen f1 i C H [] [] L:=⟨rfl,by simp,by simp,λj hj=>by simp at hj,λj hj=>by simp at hj,λa b _ hb=>by simp at hb,λj hj=>by simp at hj,λj hj=>by simp_all,hZ⟩
   have gA:∀e∈L,Pt f0.roads.length e:=λe he=>by have:=h2 e he;exact⟨⟨this.hour.1,by have:=this.hour;omega⟩,this.place,this.ck,this.marks,⟨by have:=this.bf;omega,by have:=this.bf;omega⟩,this.gK⟩
   apply rn;simp[D,e1,G,E,F,e9,a7];have ky:=D;have l1:=G;have l2:=E;have l3:=F;clear D e1 G E F e9 a7 h2 r3
   refine aa.loop qn (λj s=>∃env σ' a hh M es ks,s=⟨env,σ',[],.no⟩/\env 0=.ref c 0/\env 4=.ref X 0/\env 6=.ref P 0/\env 7=.ga Q 0 i cap/\env 8=ints H/\env 10=hh/\env 11=int ((qn:Int)-j)/\bx c nums (k+60+16*j) σ'/\σ' X=some (.cells gQ)/\σ' P=some (.cells (A6 a))/\σ' Q=some (.cells (flatten (M.map aZ)++rest))/\Tok (σ.del c) σ' a 6 (es.map aZ)/\Tok (σ.del c) σ' hh 1 (ks.map int)/\(∀b,br a=some b->br hh≠some b)/\Seen f1 i C H ks es M/\(∀e∈M,Pt f0.roads.length e)/\(∀e∈es,e.marks.length<=3)/\es.length<=j)
    ⟨_,a8,.lit (.slice none 0 0),.lit (.slice none 0 0),L,[],[],rfl,by simp[ky],by simp[l1],by simp[l2],by simp[l3],by simp,by simp,by simp,gx,ey,ez,kx,⟨al,.inl ⟨rfl,rfl⟩⟩,⟨al,.inl ⟨rfl,rfl⟩⟩,λb hb=>by simp[br]at hb,ca,gA,by simp⟩ ?_
   clear ky l1 l2 l3 gx ey ez kx al b8 ca gA q4 q6 fp U r4
   rintro c1 j _ hj ⟨env,σ',a,hh,M,es,ks,rfl,D,G,E,F,J,aJ,aF,h8,q4,q6,ql,b9,eb,gB,O,fw,h9,wK⟩ ih
   have o:=b9.cells;have d:=eb.cells;have a7:σ' P=some (.cells [a,rows f0.roads,int f0.aX,int f0.fe,int f0.cL,int i]):=by rw[q6,ei]
   rcases abk j qn with g1|g1
   . have ie : (0 : Int)<(qn:Int)-j:=by omega
     have Cf:(j:Int)<qn:=by omega
     have f2:-9223372036854775808<=(i:Int)-1/\(i:Int)-1<=9223372036854775807:=by omega
     have f3:-9223372036854775808<=(qn:Int)-j-1/\(qn:Int)-j-1<=9223372036854775807:=by omega
     apply rn;simp[D,G,E,F,J,aJ,aF,o.1,o.2,d.1,d.2,ie,Cf,g1,a7,f2.1,f2.2];refine cf Tryz.func16 rfl (fC (by omega) hn ⟨by omega,by omega⟩ h8 λkk a8 wL U=>?_)
     obtain⟨R,rfl⟩:∃R:Nat,kk=(R:Int):=⟨kk.toNat,by omega⟩
     have bw:R<i:=by omega
     have w6:a8 P=some (.cells [a,rows f0.roads,int f0.aX,int f0.fe,int f0.cL,int i]):=by rw[U.2 P n6];exact a7
     apply rn;simp[D,G,E,F,J,aJ,aF,o.1,o.2,d.1,d.2,w6];refine cf Tryz.func61 rfl (pZ (by omega) hn ⟨by omega,by omega⟩ U.1 λe aO he ho=>?_)
     have bA:∀y,y≠c->aO y=σ' y:=λy hy=>(ho.2 y hy).trans (U.2 y hy)
     have w6:aO P=some (.cells [a,rows f0.roads,int f0.aX,int f0.fe,int f0.cL,int i]):=by rw[bA P n6];exact a7
     have wl:aO Q=some (.cells (flatten (M.map aZ)++rest)):=by rw[bA Q ay];exact ql
     have w4:aO X=some (.cells gQ):=by rw[bA X bq];exact q4
     apply rn;simp[D,G,E,F,J,aJ,aF,o.1,o.2,d.1,d.2,w6];refine bV.intro λc13 l4=>?_
     have m0:c13≠c:=λe=>by subst e;obtain⟨_,_,_,q⟩:=ho.1;simp_all
     have m4:c13≠X:=λe=>by subst e;simp_all
     have m6:c13≠P:=λe=>by subst e;simp_all
     have ml:c13≠Q:=λe=>by subst e;simp_all
     have fx:R<M.length:=by rw[O.Tt];exact bw
     obtain⟨el,eA⟩:∃el,el=M[R]:=⟨_,rfl⟩;have bb:=fw el (by rw[eA];exact zj fx)
     obtain⟨CL,eK⟩:∃CL,CL=flatten (M.map aZ)++rest:=⟨_,rfl⟩;rw[<-eK]at wl;have hv:∀x∈M.map aZ,x.cells.length=6:=λx hx=>by obtain⟨y,_,rfl⟩:=aax.1 hx;rfl
     have gC:(flatten (M.map aZ)).length=M.length*6:=by rw[bW (kk:=6) hv,abh]
     have cb:∀t,t<6->CL[R*6+t]?=(aZ el).cells[t]?:=λt ht=>by
      rw[eK,abN (by omega)]
      exact nu (kk:=6) hv (by rw[abx,zR fx,eA];rfl) t ht
     have l5:=cb 0 (by omega)
     have l6:=cb 1 (by omega)
     have l7:=cb 2 (by omega)
     have lj:=cb 3 (by omega)
     simp at l5 l6 l7 lj;simp[D,G,E,F,J,aJ,aF,o.1,o.2,d.1,d.2,wl,ab.ah,zs ml,bw,l7,aK]
     have pb:∀x,bx c nums (k+60+16*j+12) (aO.set c13 x):=λx=>by obtain⟨n,z,g1,g2⟩:=ho.1;exact⟨n,z,by omega,by rw[ab.ah _ _ (zs m0)];exact g2⟩
     refine cf Tryz.func16 rfl (fC (by omega) hn ⟨by omega,by omega⟩ (pb _) λsh ea p0 b1=>?_)
     have hz:ea c13=some (.cells [int e.hour,int e.place,int el.ck,ints e.marks,int e.bf,int e.gK]):=by rw[b1.2 c13 m0,ab.ai]
     have ec:R<H.length:=by omega
     obtain⟨h0,ed⟩:∃h0,h0=H[R]:=⟨_,rfl⟩;have tm:13<=h0/\h0<=16:=ic _ (by rw[ed];exact zj ec)
     have hA:(H.map int)[R]?=some (int h0):=by rw[abx,zR ec,ed];rfl
     have lp:sh=0\/sh=1\/sh=2:=by omega
     have gD:0<=sh/\sh<=2:=by omega
     have lA:f0.aX<=f0.fe:=Z.to.1;have wN:0<=f0.aX/\f0.fe<=2:=⟨Z.fr.1,Z.to.2⟩
     have hB:∀x,bx c nums (k+60+16*j+13) (ea.set c13 x):=λx=>by obtain⟨n,z,g1,g2⟩:=b1.1;exact⟨n,z,by omega,by rw[ab.ah _ _ (zs m0)];exact g2⟩
     have hD:∀y,y≠c->y≠c13->ea y=σ' y:=λy Y y2=>by rw[b1.2 y Y,ab.ah _ _ y2,bA y Y]
     have tr:ks.length<1000000:=by rw[O.len];omega
     apply Ag (I:=λenv σ6=>∃b,env 0=.ref c 0/\env 4=.ref X 0/\env 6=.ref P 0/\env 7=.ga Q 0 i cap/\env 8=ints H/\env 10=hh/\env 11=int ((qn:Int)-j)/\env 12=int R/\env 13=.ref c13 0/\env 80=bool b/\bx c nums (k+60+16*j+14) σ6/\σ6 c13=some (.cells [int e.hour,int e.place,int el.ck,ints e.marks,int h0,int sh])/\(∀y,y≠c->y≠c13->σ6 y=σ' y)/\(b=true->sh≠0)/\(b=false->sh≠1))
     . intro T
       rcases lp with rfl|rfl|rfl
       . refine aa.runN lay [] 28 ?_
         simp[D,G,E,F,J,aJ,aF,o.1,o.2,d.1,d.2,hz,hA,ec,aK,<-ed]
         refine T _ _ ⟨false,by simp[D,G,E,F,J,aJ,aF,o.1,o.2,d.1,d.2],by simp[D,G,E,F,J,aJ,aF,o.1,o.2,d.1,d.2],by simp[D,G,E,F,J,aJ,aF,o.1,o.2,d.1,d.2],by simp[D,G,E,F,J,aJ,aF,o.1,o.2,d.1,d.2],by simp[D,G,E,F,J,aJ,aF,o.1,o.2,d.1,d.2],by simp[D,G,E,F,J,aJ,aF,o.1,o.2,d.1,d.2],by simp[D,G,E,F,J,aJ,aF,o.1,o.2,d.1,d.2],by simp[D,G,E,F,J,aJ,aF,o.1,o.2,d.1,d.2],by simp[D,G,E,F,J,aJ,aF,o.1,o.2,d.1,d.2],by simp[D,G,E,F,J,aJ,aF,o.1,o.2,d.1,d.2],(hB _).mono (by omega),ab.ai _ _ _,λy Y y2=>by rw[ab.ah _ _ y2];exact hD y Y y2,by simp⟩
       . refine aa.runN lay [] 28 ?_
         simp[D,G,E,F,J,aJ,aF,o.1,o.2,d.1,d.2,hz,hA,ec,aK,<-ed]
         refine T _ _ ⟨true,by simp[D,G,E,F,J,aJ,aF,o.1,o.2,d.1,d.2],by simp[D,G,E,F,J,aJ,aF,o.1,o.2,d.1,d.2],by simp[D,G,E,F,J,aJ,aF,o.1,o.2,d.1,d.2],by simp[D,G,E,F,J,aJ,aF,o.1,o.2,d.1,d.2],by simp[D,G,E,F,J,aJ,aF,o.1,o.2,d.1,d.2],by simp[D,G,E,F,J,aJ,aF,o.1,o.2,d.1,d.2],by simp[D,G,E,F,J,aJ,aF,o.1,o.2,d.1,d.2],by simp[D,G,E,F,J,aJ,aF,o.1,o.2,d.1,d.2],by simp[D,G,E,F,J,aJ,aF,o.1,o.2,d.1,d.2],by simp[D,G,E,F,J,aJ,aF,o.1,o.2,d.1,d.2],(hB _).mono (by omega),ab.ai _ _ _,λy Y y2=>by rw[ab.ah _ _ y2];exact hD y Y y2,by simp⟩
       . refine aa.runN lay [] 28 ?_
         simp[D,G,E,F,J,aJ,aF,o.1,o.2,d.1,d.2,hz,hA,ec,aK,<-ed];refine cf Tryz.func33 rfl (xO (by omega) hn ⟨by omega,by omega⟩ (hB _) λb σ6 hE=>?_)
         refine aa.runN lay [] 3 ?_;simp[D,G,E,F,J,aJ,aF,o.1,o.2,d.1,d.2]
         refine T _ _ ⟨b,by simp[D,G,E,F,J,aJ,aF,o.1,o.2,d.1,d.2],by simp[D,G,E,F,J,aJ,aF,o.1,o.2,d.1,d.2],by simp[D,G,E,F,J,aJ,aF,o.1,o.2,d.1,d.2],by simp[D,G,E,F,J,aJ,aF,o.1,o.2,d.1,d.2],by simp[D,G,E,F,J,aJ,aF,o.1,o.2,d.1,d.2],by simp[D,G,E,F,J,aJ,aF,o.1,o.2,d.1,d.2],by simp[D,G,E,F,J,aJ,aF,o.1,o.2,d.1,d.2],by simp[D,G,E,F,J,aJ,aF,o.1,o.2,d.1,d.2],by simp[D,G,E,F,J,aJ,aF,o.1,o.2,d.1,d.2],by simp[D,G,E,F,J,aJ,aF,o.1,o.2,d.1,d.2],hE.1,by rw[hE.2 c13 m0,ab.ai],λy Y y2=>by rw[hE.2 y Y,ab.ah _ _ y2];exact hD y Y y2,by simp⟩
     clear D G E F J aJ aF
     rintro env σ6 ⟨b,D,G,E,F,J,aJ,aF,aT,K,fO,b2,a9,aC,lB,m1⟩
     apply Ag (I:=λenv σ6=>∃ht,env 0=.ref c 0/\env 4=.ref X 0/\env 6=.ref P 0/\env 7=.ga Q 0 i cap/\env 8=ints H/\env 10=hh/\env 11=int ((qn:Int)-j)/\env 12=int R/\env 13=.ref c13 0/\env 95=int (iJ ks R)/\bx c nums (k+60+16*j+15) σ6/\σ6 c13=some (.cells [int e.hour,int e.place,int el.ck,ints e.marks,int ht,int sh])/\(∀y,y≠c->y≠c13->σ6 y=σ' y)/\((sh≠1/\ht=h0)\/(sh≠0/\∃y,f0.aX<=y/\y<=f0.fe/\ht=h0+y)))
     . intro T
       have hW:Wl [hh,int R] [ints ks,int R]:=.cons (by simpa using eb.W) (.cons (.refl _) .nil)
       cases b
       . apply rn
         simp[D,G,E,F,J,aJ,aF,aT,K,fO];refine bK Tryz.func21 rfl rfl hW (fU (by omega) ?_)
         refine T _ _ ⟨h0,?_,?_,?_,?_,?_,?_,?_,?_,?_,?_,b2.mono (by omega),a9,aC,.inl ⟨m1 rfl,rfl⟩⟩<;>simp[D,G,E,F,J,aJ,aF,aT,K,fO]
       . have v6 : σ6 P=some (.cells [a,rows f0.roads,int f0.aX,int f0.fe,int f0.cL,int i]):=by rw[aC P n6 (zs m6)];exact a7
         have wS:=Z.fr;have ej:=Z.to;apply rn;simp[D,G,E,F,J,aJ,aF,aT,K,fO,a9,v6,aK]
         repeat' (first
                   |apply And.intro
                   | (refine cf Tryz.func13 rfl (fG (by omega) hn ⟨by omega,by omega⟩ ⟨by omega,by omega⟩ b2 λy S hy hF=>?_)
                      have pd:S c13=some (.cells [int e.hour,int e.place,int el.ck,ints e.marks,int h0,int sh]):=by rw[hF.2 c13 m0];exact a9
                      have f4:-9223372036854775808<=h0+y/\h0+y<=9223372036854775807:=by omega
                      apply pg;simp[D,G,E,F,J,aJ,aF,aT,K,pd,f4.1,f4.2,aK];apply rn;simp[D,G,E,F,J,aJ,aF,aT,K];refine bK Tryz.func21 rfl rfl hW (fU (by omega) ?_)
                      refine T _ _ ⟨h0+y,by simp[D],by simp[G],by simp[E],by simp[F],by simp[J],by simp[aJ],by simp[aF],by simp[aT],by simp[K],by simp,?_,ab.ai _ _ _,λz Y y2=>by rw[ab.ah _ _ y2,hF.2 z Y];exact aC z Y y2,.inr ⟨lB rfl,y,by omega,by omega,rfl⟩⟩
                      obtain⟨n,z,g1,g2⟩:=hF.1;exact⟨n,z,by omega,by rw[ab.ah _ _ (zs m0)];exact g2⟩))
     clear b2 a9 aC D G E F J aJ aF aT K fO lB m1
     rintro env σ6 ⟨ht,D,G,E,F,J,aJ,aF,aT,K,ad,b2,a9,aC,m2⟩
     have hG:0<=ht/\ht<=30:=by rcases m2 with⟨_,q⟩|⟨_,y,q1,q2,q3⟩<;>omega
     have aE:=Fr.om (Z.fits (by omega)) (Z.check (by omega))
     have x0:∀x∈M,x.marks.length<=3:=λx hx=>(mr (fw x hx).marks).2
     have pk:=(mr he.marks).2;have ts:=(mr bb.marks).2;have m3:=he.place;have md:=bb.place;have v3:=bb.hour;have mf:=Z.cL;apply Ag (I:=λenv S=>∃hr,env 0=.ref c 0/\env 4=.ref X 0/\env 6=.ref P 0/\env 7=.ga Q 0 i cap/\env 8=ints H/\env 10=hh/\env 11=int ((qn:Int)-j)/\env 12=int R/\env 13=.ref c13 0/\bx c nums (k+60+16*j+16) S/\S c13=some (.cells [int hr,int e.place,int el.ck,ints e.marks,int ht,int sh])/\(∀y,y≠c->y≠c13->S y=σ' y)/\(0<=hr/\hr<=1000)/\((R:Int)∈ks->OY f1 el {e with hour:=hr}))
     . intro T
       by_cases hH:(R:Int)∈ks
       . have q2:iJ ks R>=0:=(dP ks R).2 hH
         obtain⟨rw,cg⟩:∃rw,rw=f0.roads[el.place.toNat]'(by omega):=⟨_,rfl⟩
         have gG:=aE.row (i:=el.place.toNat) (by omega)
         rw[<-cg]at gG;have cm:e.place.toNat<rw.length:=by omega
         obtain⟨r,gd⟩:∃r,r=rw[e.place.toNat]:=⟨_,rfl⟩;have x3:=gG.2 r (by rw[gd];exact zj cm)
         have b3:el.place.toNat<f0.roads.length:=by omega
         have ps:(f0.roads.map ints)[el.place.toNat]?=some (ints rw):=by rw[abx,zR b3,cg];rfl
         have hr:(rw.map int)[e.place.toNat]?=some (int r):=by rw[abx,zR cm,gd];rfl
         have mg:=cm;obtain⟨ch,hK⟩:∃ch,ch=WW el.marks e.marks:=⟨_,rfl⟩
         have eN:0<=ch/\ch<=6:=by have q1:=oZ el.marks e.marks;have q2:=oZ e.marks el.marks;rw[hK];unfold WW;omega
         have x4:0<=f0.cL*ch/\f0.cL*ch<=24:=⟨Int.mul_nonneg (by omega) eN.1,Int.le_trans (acZ mf.2 eN.2 eN.1 (by omega)) (by omega)⟩
         have mi:-9223372036854775808<=el.hour+r/\el.hour+r<=9223372036854775807:=by omega
         have mj:-9223372036854775808<=f0.cL*ch/\f0.cL*ch<=9223372036854775807:=by omega
         have mm:-9223372036854775808<=el.hour+r+f0.cL*ch/\el.hour+r+f0.cL*ch<=9223372036854775807:=by omega
         have hL:σ6 Q=some (.cells CL):=by rw[aC Q ay (zs ml),<-bA Q ay];exact wl
         have gH:σ6 P=some (.cells [a,rows f0.roads,int f0.aX,int f0.fe,int f0.cL,int i]):=by rw[aC P n6 (zs m6)];exact a7
         refine aa.runN lay [] 3 ?_;simp[D,G,E,F,J,aJ,aF,aT,K,ad,q2]
         obtain⟨V,hV⟩:∃V:Nat->AV,V=λj=>([.ga Q 0 i cap,int R,.ref Q (R*6),.ref Q (R*6),int el.hour,.ref P 1,rows f0.roads,.ga Q 0 i cap,int R,.ref Q (R*6),.ref Q (R*6+1),int el.place,.cp (ints rw) 0,ints rw,.ref c13 1,int e.place,.cp (int r) 0,int r,int (el.hour+r),.ref P 4,int f0.cL,.ga Q 0 i cap,int R,.ref Q (R*6),.ref Q (R*6+3),ints el.marks,.ref c13 3,ints e.marks,int ch,int (f0.cL*ch),int (el.hour+r+f0.cL*ch),.ref c 0,.sl 1 (([0,0,1,3]:adQ).map int) .exact,int 0,int 0,.ref c13 0]:adV).getD j (int 0):=⟨_,rfl⟩
         have w:∀j,V j=_:=λj=>congrFun hV j
         refine aa.QY (I9 V (env.upd 96 (bool true)) σ6 c c13 (k+60+16*j+16) nums (el.hour+r+f0.cL*ch) (λz=>[int z,int e.place,int el.ck,ints e.marks,int ht,int sh])) lay.mixed (by rfl) ⟨λ_ _=>rfl,by simp,λ_=>rfl,by simp,by simp,by simp,by simp,by simp⟩ ?_ ?_
         . intro done i u S N B mw A
           have mw:i<37:=mw
           rcases(show i=0\/i=1\/i=2\/i=3\/i=4\/i=5\/i=6\/i=7\/i=8\/i=9\/i=10\/i=11\/i=12\/i=13\/i=14\/i=15\/i=16\/i=17\/i=18\/i=19\/i=20\/i=21\/i=22\/i=23\/i=24\/i=25\/i=26\/i=27\/i=28\/i=29\/i=30\/i=31\/i=32\/i=33\/i=34\/i=35\/i=36 by omega)with rfl|rfl|rfl|rfl|rfl|rfl|rfl|rfl|rfl|rfl|rfl|rfl|rfl|rfl|rfl|rfl|rfl|rfl|rfl|rfl|rfl|rfl|rfl|rfl|rfl|rfl|rfl|rfl|rfl|rfl|rfl|rfl|rfl|rfl|rfl|rfl|rfl
           . have b7:u 7=.ga Q 0 i cap:=(A.base 7 (by omega)).trans F
             refine bu lay (mu:=[]) ?_;simp[b7];exact A.next (i:=0) (by omega) B (by omega) (by omega) ((w 0).symm)
           . have eR:u 12=int R:=(A.base 12 (by omega)).trans aT
             refine bu lay (mu:=[]) ?_;simp[eR];exact A.next (i:=1) (by omega) B (by omega) (by omega) ((w 1).symm)
           . have d0:u 97=.ga Q 0 i cap:=(A.eo 0 (N 0 (by rfl)) (by omega) (by omega) (by omega)).trans (w 0)
             have d1:u 98=int R:=(A.eo 1 (N 1 (by rfl)) (by omega) (by omega) (by omega)).trans (w 1)
             refine bu lay (mu:=[]) ?_;simp[d0,d1,bw];exact A.next (i:=2) (by omega) B (by omega) (by omega) ((w 2).symm)
           . have d2:u 99=.ref Q (R*6):=(A.eo 2 (N 2 (by rfl)) (by omega) (by omega) (by omega)).trans (w 2)
             refine bu lay (mu:=[]) ?_;simp[d2];exact A.next (i:=3) (by omega) B (by omega) (by omega) ((w 3).symm)
           . have d3:u 100=.ref Q (R*6):=(A.eo 3 (N 3 (by rfl)) (by omega) (by omega) (by omega)).trans (w 3)
             have kl:=A.keep (by omega) B (y:=Q) ay;rw[hL]at kl
             refine bu lay (mu:=[]) ?_;simp[kl,l5,d3];exact A.next (i:=4) (by omega) B (by omega) (by omega) ((w 4).symm)
           . have b6:u 6=.ref P 0:=(A.base 6 (by omega)).trans E
             refine bu lay (mu:=[]) ?_;simp[b6];exact A.next (i:=5) (by omega) B (by omega) (by omega) ((w 5).symm)
           . have d5:u 102=.ref P 1:=(A.eo 5 (N 5 (by rfl)) (by omega) (by omega) (by omega)).trans (w 5)
             have k6:=A.keep (by omega) B (y:=P) n6;rw[gH]at k6
             refine bu lay (mu:=[]) ?_;simp[k6,d5];exact A.next (i:=6) (by omega) B (by omega) (by omega) ((w 6).symm)
           . have b7:u 7=.ga Q 0 i cap:=(A.base 7 (by omega)).trans F
             refine bu lay (mu:=[]) ?_;simp[b7];exact A.next (i:=7) (by omega) B (by omega) (by omega) ((w 7).symm)
           . have eR:u 12=int R:=(A.base 12 (by omega)).trans aT
             refine bu lay (mu:=[]) ?_;simp[eR];exact A.next (i:=8) (by omega) B (by omega) (by omega) ((w 8).symm)
           . have d7:u 104=.ga Q 0 i cap:=(A.eo 7 (N 7 (by rfl)) (by omega) (by omega) (by omega)).trans (w 7)
             have d8:u 105=int R:=(A.eo 8 (N 8 (by rfl)) (by omega) (by omega) (by omega)).trans (w 8)
             refine bu lay (mu:=[]) ?_;simp[d7,d8,bw];exact A.next (i:=9) (by omega) B (by omega) (by omega) ((w 9).symm)
           . have d9:u 106=.ref Q (R*6):=(A.eo 9 (N 9 (by rfl)) (by omega) (by omega) (by omega)).trans (w 9)
             refine bu lay (mu:=[]) ?_;simp[d9];exact A.next (i:=10) (by omega) B (by omega) (by omega) ((w 10).symm)
           . have pA:u 107=.ref Q (R*6+1):=(A.eo 10 (N 10 (by rfl)) (by omega) (by omega) (by omega)).trans (w 10)
             have kl:=A.keep (by omega) B (y:=Q) ay;rw[hL]at kl
             refine bu lay (mu:=[]) ?_;simp[kl,l6,pA];exact A.next (i:=11) (by omega) B (by omega) (by omega) ((w 11).symm)
           . have d6:u 103=rows f0.roads:=(A.eo 6 (N 6 (by rfl)) (by omega) (by omega) (by omega)).trans (w 6)
             have pB:u 108=int el.place:=(A.eo 11 (N 11 (by rfl)) (by omega) (by omega) (by omega)).trans (w 11)
             refine bu lay (mu:=[]) ?_;simp[d6,pB,ps,b3];refine⟨md.1,?_⟩;rw[<-cg];exact A.next (i:=12) (by omega) B (by omega) (by omega) ((w 12).symm)
           . have pO:u 109=.cp (ints rw) 0:=(A.eo 12 (N 12 (by rfl)) (by omega) (by omega) (by omega)).trans (w 12)
             refine bu lay (mu:=[]) ?_;simp[pO];exact A.next (i:=13) (by omega) B (by omega) (by omega) ((w 13).symm)
           . have eW:u 13=.ref c13 0:=(A.base 13 (by omega)).trans K
             refine bu lay (mu:=[]) ?_;simp[eW];exact A.next (i:=14) (by omega) B (by omega) (by omega) ((w 14).symm)
           . have q0:u 111=.ref c13 1:=(A.eo 14 (N 14 (by rfl)) (by omega) (by omega) (by omega)).trans (w 14)
             have bB:=A.keep (by omega) B (y:=c13) m0;rw[a9]at bB
             refine bu lay (mu:=[]) ?_;simp[bB,q0];exact A.next (i:=15) (by omega) B (by omega) (by omega) ((w 15).symm)
           . have q5:u 110=ints rw:=(A.eo 13 (N 13 (by rfl)) (by omega) (by omega) (by omega)).trans (w 13)
             have q7:u 112=int e.place:=(A.eo 15 (N 15 (by rfl)) (by omega) (by omega) (by omega)).trans (w 15)
             refine bu lay (mu:=[]) ?_;simp[q5,q7,hr,mg];refine⟨m3.1,?_⟩;rw[<-gd];exact A.next (i:=16) (by omega) B (by omega) (by omega) ((w 16).symm)
           . have q9:u 113=.cp (int r) 0:=(A.eo 16 (N 16 (by rfl)) (by omega) (by omega) (by omega)).trans (w 16)
             refine bu lay (mu:=[]) ?_;simp[q9];exact A.next (i:=17) (by omega) B (by omega) (by omega) ((w 17).symm)
           . have d4:u 101=int el.hour:=(A.eo 4 (N 4 (by rfl)) (by omega) (by omega) (by omega)).trans (w 4)
             have qb:u 114=int r:=(A.eo 17 (N 17 (by rfl)) (by omega) (by omega) (by omega)).trans (w 17)
             refine bu lay (mu:=[]) ?_;simp[d4,qb,mi.1,mi.2];exact A.next (i:=18) (by omega) B (by omega) (by omega) ((w 18).symm)
           . have b6:u 6=.ref P 0:=(A.base 6 (by omega)).trans E
             refine bu lay (mu:=[]) ?_;simp[b6];exact A.next (i:=19) (by omega) B (by omega) (by omega) ((w 19).symm)
           . have qi:u 116=.ref P 4:=(A.eo 19 (N 19 (by rfl)) (by omega) (by omega) (by omega)).trans (w 19)
             have k6:=A.keep (by omega) B (y:=P) n6;rw[gH]at k6
             refine bu lay (mu:=[]) ?_;simp[k6,qi];exact A.next (i:=20) (by omega) B (by omega) (by omega) ((w 20).symm)
           . have b7:u 7=.ga Q 0 i cap:=(A.base 7 (by omega)).trans F
             refine bu lay (mu:=[]) ?_;simp[b7];exact A.next (i:=21) (by omega) B (by omega) (by omega) ((w 21).symm)
           . have eR:u 12=int R:=(A.base 12 (by omega)).trans aT
             refine bu lay (mu:=[]) ?_;simp[eR];exact A.next (i:=22) (by omega) B (by omega) (by omega) ((w 22).symm)
           . have qj:u 118=.ga Q 0 i cap:=(A.eo 21 (N 21 (by rfl)) (by omega) (by omega) (by omega)).trans (w 21)
             have qq:u 119=int R:=(A.eo 22 (N 22 (by rfl)) (by omega) (by omega) (by omega)).trans (w 22)
             refine bu lay (mu:=[]) ?_;simp[qj,qq,bw];exact A.next (i:=23) (by omega) B (by omega) (by omega) ((w 23).symm)
           . have qs:u 120=.ref Q (R*6):=(A.eo 23 (N 23 (by rfl)) (by omega) (by omega) (by omega)).trans (w 23)
             refine bu lay (mu:=[]) ?_;simp[qs];exact A.next (i:=24) (by omega) B (by omega) (by omega) ((w 24).symm)
           . have r6:u 121=.ref Q (R*6+3):=(A.eo 24 (N 24 (by rfl)) (by omega) (by omega) (by omega)).trans (w 24)
             have kl:=A.keep (by omega) B (y:=Q) ay;rw[hL]at kl
             refine bu lay (mu:=[]) ?_;simp[kl,lj,r6];exact A.next (i:=25) (by omega) B (by omega) (by omega) ((w 25).symm)
           . have eW:u 13=.ref c13 0:=(A.base 13 (by omega)).trans K
             refine bu lay (mu:=[]) ?_;simp[eW];exact A.next (i:=26) (by omega) B (by omega) (by omega) ((w 26).symm)
           . have r9:u 123=.ref c13 3:=(A.eo 26 (N 26 (by rfl)) (by omega) (by omega) (by omega)).trans (w 26)
             have bB:=A.keep (by omega) B (y:=c13) m0;rw[a9]at bB
             refine bu lay (mu:=[]) ?_;simp[bB,r9];exact A.next (i:=27) (by omega) B (by omega) (by omega) ((w 27).symm)
           . have ra:u 122=ints el.marks:=(A.eo 25 (N 25 (by rfl)) (by omega) (by omega) (by omega)).trans (w 25)
             have rb:u 124=ints e.marks:=(A.eo 27 (N 27 (by rfl)) (by omega) (by omega) (by omega)).trans (w 27)
             refine bu lay (mu:=[]) ?_;simp[ra,rb];refine cf Tryz.func62 rfl (HU (by omega) (by omega) ?_)
             apply pg;simp;exact A.next (i:=28) (by omega) B (by omega) (by omega) (by rw[w,hK];rfl)
           . have rh:u 117=int f0.cL:=(A.eo 20 (N 20 (by rfl)) (by omega) (by omega) (by omega)).trans (w 20)
             have ri:u 125=int ch:=(A.eo 28 (N 28 (by rfl)) (by omega) (by omega) (by omega)).trans (w 28)
             refine bu lay (mu:=[]) ?_;simp[rh,ri,mj.1,mj.2];exact A.next (i:=29) (by omega) B (by omega) (by omega) ((w 29).symm)
           . have rj:u 115=int (el.hour+r):=(A.eo 18 (N 18 (by rfl)) (by omega) (by omega) (by omega)).trans (w 18)
             have rm:u 126=int (f0.cL*ch):=(A.eo 29 (N 29 (by rfl)) (by omega) (by omega) (by omega)).trans (w 29)
             refine bu lay (mu:=[]) ?_;simp[rj,rm,mm.1,mm.2];exact A.next (i:=30) (by omega) B (by omega) (by omega) ((w 30).symm)
           . have b0:u 0=.ref c 0:=(A.base 0 (by omega)).trans D
             refine bu lay (mu:=[]) ?_;simp[b0];exact A.next (i:=31) (by omega) B (by omega) (by omega) ((w 31).symm)
           . refine bu lay (mu:=[]) ?_
             simp;exact A.next (i:=32) (by omega) B (by omega) (by omega) ((w 32).symm)
           . have rr:u 128=.ref c 0:=(A.eo 31 (N 31 (by rfl)) (by omega) (by omega) (by omega)).trans (w 31)
             have rF:u 129=.sl 1 (([0,0,1,3]:adQ).map int) .exact:=(A.eo 32 (N 32 (by rfl)) (by omega) (by omega) (by omega)).trans (w 32)
             refine bu lay (mu:=[]) ?_;simp[rr,rF];have rG:=A.pre B;subst rG;have rM:34∉done:=λq=>B (A.dep q)
             refine cf Tryz.func63 rfl (nL (l:=[0,0,1,3]) (by omega) hn ⟨by decide,by decide⟩ b2 λp x5 hp mx=>?_)
             apply pg;simp;exact A.TA B rM (p:=p) (by simp at hp;omega) (mx.1.mono (by omega)) mx.2
           . have rT:u 127=int (el.hour+r+f0.cL*ch):=(A.eo 30 (N 30 (by rfl)) (by omega) (by omega) (by omega)).trans (w 30)
             have c5:=N 33 (by rfl)
             obtain⟨p,hp,GJ,_⟩:=A.pick c5;have mA:-9223372036854775808<=el.hour+r+f0.cL*ch+p/\el.hour+r+f0.cL*ch+p<=9223372036854775807:=by omega
             refine bu lay (mu:=[]) ?_;simp[rT,GJ,mA.1,mA.2];exact A.summed B c5 hp GJ
           . have eW:u 13=.ref c13 0:=(A.base 13 (by omega)).trans K
             refine bu lay (mu:=[]) ?_;simp[eW];exact A.next (i:=35) (by omega) B (by omega) (by omega) ((w 35).symm)
           . have s3:u 132=.ref c13 0:=(A.eo 35 (N 35 (by rfl)) (by omega) (by omega) (by omega)).trans (w 35)
             have c5:=N 33 (by rfl)
             have s4:=N 34 (by rfl)
             obtain⟨p,hp,GJ,GK⟩:=A.pick c5;have GK:=GK s4;obtain⟨s5,h1⟩:=A.post c5 B;have bB:=(h1 c13 m0).trans a9;refine bu lay (mu:=[]) ?_;simp[s3,GK,bB,aK]
             refine⟨A.base,λj hj g3 g4 g5=>A.eo j ((abp.1 hj).resolve_left (by omega)) g3 g4 g5,λq=>absurd (acd _ c5) q,λ_ q=>absurd (ada ..) q,λ_=>⟨p,hp,GJ,λ_=>GK⟩,λ_ j hj=>acd _ (N j ((by decide:∀j:Fin 36,jX _ j.val 36=true) ⟨j,hj⟩)),λ_=>acd _ c5,λ_=>⟨p,hp,?_,ab.ai _ _ _,λy Y y2=>by rw[ab.ah _ _ y2];exact h1 y Y⟩⟩
             obtain⟨n,z,g1,g2⟩:=s5;exact⟨n,z,g1,by rw[ab.ah _ _ (zs m0)];exact g2⟩
         . intro done v5 S mB A
           obtain⟨p,hp,g1,g2,g3⟩:=A.fin (mB 36 (by decide))
           have hb:=λ(t:Nat) (ht:t<96)=>(A.base t (by omega)).trans (lX (env:=env) (v:=bool true) (show t≠96 by omega))
           refine T _ _ ⟨el.hour+r+f0.cL*ch+p,(hb 0 (by omega)).trans D,(hb 4 (by omega)).trans G,(hb 6 (by omega)).trans E,(hb 7 (by omega)).trans F,(hb 8 (by omega)).trans J,(hb 10 (by omega)).trans aJ,(hb 11 (by omega)).trans aF,(hb 12 (by omega)).trans aT,(hb 13 (by omega)).trans K,g1,g2,λy Y y2=>(g3 y Y y2).trans (aC y Y y2),by omega,λ_=>?_⟩
           have s6:rd f1.roads el.place.toNat e.place.toNat=r:=by rw[eB];unfold rd;rw[zD,zD,zR b3,abV,<-cg,zR cm,<-gd];rfl
           have s7:f1.cL=f0.cL:=by rw[eB]
           unfold OY;rw[s6,s7,<-F9 bb.marks he.marks,<-hK];show r+f0.cL*ch<=el.hour+r+f0.cL*ch+p-el.hour;omega
       . have q2:¬iJ ks R>=0:=λq=>hH ((dP ks R).1 q)
         refine aa.runN lay [] 4 ?_;simp[D,G,E,F,J,aJ,aF,aT,K,ad,q2];refine T _ _ ⟨e.hour,by simp[D,G,E,F,J,aJ,aF,aT,K,ad],by simp[D,G,E,F,J,aJ,aF,aT,K,ad],by simp[D,G,E,F,J,aJ,aF,aT,K,ad],by simp[D,G,E,F,J,aJ,aF,aT,K,ad],by simp[D,G,E,F,J,aJ,aF,aT,K,ad],by simp[D,G,E,F,J,aJ,aF,aT,K,ad],by simp[D,G,E,F,J,aJ,aF,aT,K,ad],by simp[D,G,E,F,J,aJ,aF,aT,K,ad],by simp[D,G,E,F,J,aJ,aF,aT,K,ad],b2.mono (by omega),a9,aC,by have:=he.hour;omega,λq=>absurd q hH⟩
     clear b2 a9 aC D G E F J aJ aF aT K ad
     rintro env S ⟨hr,D,G,E,F,J,aJ,aF,aT,K,n2,a9,ee,s9,n3⟩
     have sg:σ.del c c13=none:=by
      cases hx:σ.del c c13 with
      |none=>rfl
      |some x=>have:=b9.1 _ _ hx;rw[<-bA c13 m0,l4]at this;cases this
     have b8:(σ.del c).Le S:=λy x hy=>by
      have Y:y≠c:=λe=>by subst e;rw[b4]at hy;cases hy
      have y2:y≠c13:=λe=>by subst e;rw[sg]at hy;cases hy
      rw[ee y Y y2];exact b9.1 y x hy
     have hO:∀b x,σ' b=some x->(∀l,x≠.cells l)->S b=σ' b:=λb x hb hx=>by
      refine ee b (λe=>?_) λe=>?_
      . rw[e]at hb;obtain⟨_,_,_,q⟩:=h8;rw[q]at hb;cases hb;exact hx _ rfl
      . rw[e,<-bA c13 m0,l4]at hb;cases hb
     have cv:Tok (σ.del c) S a 6 (es.map aZ):=uQ b9 b8 λb hb=>by obtain⟨g1,l,g2⟩:=b9.aW hb;exact⟨hO b _ g2 (by simp),g1⟩
     have dj:Tok (σ.del c) S hh 1 (ks.map int):=uQ eb b8 λb hb=>by obtain⟨g1,l,g2⟩:=eb.aW hb;exact⟨hO b _ g2 (by simp),g1⟩
     have t4:S X=some (.cells gQ):=by rw[ee X bq (zs m4)];exact q4
     have t6:S P=some (.cells (A6 a)):=by rw[ee P n6 (zs m6)];exact q6
     have tl:S Q=some (.cells (flatten (M.map aZ)++rest)):=by rw[ee Q ay (zs ml)];exact ql
     clear b9 eb q4 q6 ql a7 ee hO
     rcases Int.lt_or_le 72 hr with n5|n5
     . apply rn
       simp[D,G,E,F,J,aJ,aF,aT,K,a9,n5,f3.1,f3.2];refine ih _ g1 ⟨_,S,a,hh,M,es,ks,rfl,by simp[D,G,E,F,J,aJ,aF,aT,K],by simp[D,G,E,F,J,aJ,aF,aT,K],by simp[D,G,E,F,J,aJ,aF,aT,K],by simp[D,G,E,F,J,aJ,aF,aT,K],by simp[D,G,E,F,J,aJ,aF,aT,K],by simp[D,G,E,F,J,aJ,aF,aT,K],by simp;omega,n2.mono (by omega),t4,t6,tl,cv,dj,gB,O,fw,h9,by omega⟩
     . have n7:¬hr>72:=by omega
       obtain⟨n1,n9⟩:∃n1:xq,n1=⟨hr,e.place,el.ck,e.marks,ht,sh⟩:=⟨_,rfl⟩;obtain⟨bm,gI⟩:∃bm,bm=flatten ((M.set R n1).map aZ)++rest:=⟨_,rfl⟩;have nc:R*6+6<=CL.length:=by rw[eK,abg,gC];omega
       have nh:aK CL (R*6) [int hr,int e.place,int el.ck,ints e.marks,int ht,int sh]=bm:=by
        have:=B5 (k:=6) (M.map aZ) R (aZ n1) (by rw[abh];exact fx) hv rfl
        rw[gI,acM,<-this,eK];unfold aK;rw[List.take_append_of_le_length (by omega),List.drop_append_of_le_length (by rw[gC];simp;omega),n9]
        simp
       rw[<-eK]at tl;have b5:=cv.cells;have v9:=dj.cells;have nq:S P=some (.cells [a,rows f0.roads,int f0.aX,int f0.fe,int f0.cL,int i]):=by rw[t6,ei]
       have x6:=zs ml;apply rn;simp[D,G,E,F,J,aJ,aF,aT,K,a9,n7,tl,bw,nh,nc,ab.ah,h7.symm,ml,nq,b5.1,b5.2];subst n9;have si:br a≠some Q:=λe=>by obtain⟨_,_,q⟩:=cv.aW e;rw[tl]at q;cases q
       have nt:br hh≠some Q:=λe=>by obtain⟨_,_,q⟩:=dj.aW e;rw[tl]at q;cases q
       have dm:Tok (σ.del c) (S.set Q (.cells bm)) a 6 (es.map aZ):=cv.beside r1 si;have ob:Tok (σ.del c) (S.set Q (.cells bm)) hh 1 (ks.map int):=dj.beside r1 nt;have vc:(es.map aZ).length<=6:=by rw[abh];omega
       have vj:(ks.map int).length<=6:=by rw[abh,O.len];omega
       refine aR lay rfl rfl rfl lH rfl lH rfl xd (by decide) (by simp;omega) (σ0:=(S.set Q (.cells bm)).off a) (es:=es.map aZ) (xs:=[aZ ⟨hr,e.place,el.ck,e.marks,ht,sh⟩]) (by simpa using dm.here.1) (.inr ⟨_,by simp;rfl⟩) λa' hP hR=>?_
       obtain⟨dr,sj⟩:=DD ob dm (λb hb q=>gB b q hb) hR
       have gP:=hR.base dm.here.2;have k9:∀y l,(S.set Q (.cells bm)) y=some (.cells l)->hP y=some (.cells l):=λy l hy=>hR.1 _ _ (by rw[ab.dQ (λe=>by obtain⟨_,_,q⟩:=dm.aW e;rw[hy]at q;cases q)];exact hy)
       have dx:=gP.cells;apply rn;simp[D,G,E,F,J,aJ,aF,aT,K,dx.1,dx.2];refine aR lay rfl rfl rfl dK rfl dK rfl sb (by decide) (by simp;omega) (σ0:=hP.off hh) (es:=ks.map int) (xs:=[int R]) (by simpa using dr.here.1) (.inr ⟨_,by simp;rfl⟩) λso ax eX=>?_
       obtain⟨hS,oc⟩:=DD gP dr (λb hb q=>sj b q hb) eX
       have fc:=eX.base dr.here.2;have fg:=fc.cells;have gf:∀y l,hP y=some (.cells l)->ax y=some (.cells l):=λy l hy=>eX.1 _ _ (by rw[ab.dQ (λe=>by obtain⟨_,_,q⟩:=dr.aW e;rw[hy]at q;cases q)];exact hy)
       have z6:ax P=some (.cells [a,rows f0.roads,int f0.aX,int f0.fe,int f0.cL,int i]):=gf _ _ (k9 _ _ (by rw[ab.ah _ _ (zs h7)];exact nq))
       have z4:ax X=some (.cells gQ):=gf _ _ (k9 _ _ (by rw[ab.ah _ _ (zs pa)];exact t4))
       have zl:ax Q=some (.cells bm):=gf _ _ (k9 _ _ (ab.ai _ _ _));apply rn;simp[D,G,E,F,J,aJ,aF,aT,K,z6,aK,dx.1,dx.2,fg.1,fg.2,f3.1,f3.2];have oj:Pt f0.roads.length ⟨hr,e.place,el.ck,e.marks,ht,sh⟩:=⟨⟨s9.1,by omega⟩,he.place,bb.ck,he.marks,hG,gD⟩
       have ow:M.getD R tg=el:=by rw[zD,zR fx,eA];rfl
       have ox:H.getD R 0=h0:=by rw[zD,zR ec,ed];rfl
       have gj:=O.push (k:=R) (n:=⟨hr,e.place,el.ck,e.marks,ht,sh⟩) bw (by rw[eB];exact oj.check) (by rw[ow]) (by rw[ox,eB];refine Pu lA gD ?_;exact m2) (λq=>by rw[ow];exact n3 q)
       have gR:∀{x:AV}{kk:Nat}{l:adV},Tok (σ.del c) ax x kk l->Tok (σ.del c) (ax.set P (.cells (A6 a'))) x kk l:=λ{x kk l} hx=>hx.beside oN (λe=>by obtain⟨_,_,q⟩:=hx.aW e;rw[z6]at q;cases q)
       refine ih _ g1 ⟨_,ax.set P (.cells (A6 a')),a',so,M.set R ⟨hr,e.place,el.ck,e.marks,ht,sh⟩,es++[⟨hr,e.place,el.ck,e.marks,ht,sh⟩],ks++[(R:Int)],by rw[ei],by simp[D,G,E,F,J,aJ,aF,aT,K],by simp[D,G,E,F,J,aJ,aF,aT,K],by simp[D,G,E,F,J,aJ,aF,aT,K],by simp[D,G,E,F,J,aJ,aF,aT,K],by simp[D,G,E,F,J,aJ,aF,aT,K],by simp[D,G,E,F,J,aJ,aF,aT,K],by simp;omega,?_,?_,ab.ai _ _ _,?_,by have:=gR hS;simpa using this,by have:=gR fc;simpa using this,λb hb=>oc b hb,gj,λx hx=>?_,λx hx=>?_,by simp;omega⟩
       . obtain⟨n,z,g1,g2⟩:=n2
         exact⟨n,z,by omega,by rw[ab.ah _ _ (zs n6)];exact gf _ _ (k9 _ _ (by rw[ab.ah _ _ (zs ay)];exact g2))⟩
       . rw[ab.ah _ _ (zs fi)];exact z4
       . rw[ab.ah _ _ h7,zl,gI]
       . rcases acy hx with hx|rfl
         . exact fw x hx
         . exact oj
       . rcases aaC.1 hx with hx|hx
         . exact h9 x hx
         . simp at hx;subst hx;exact pk
   . have sr:j=qn:=by omega
     subst sr;have sy:¬(j:Int)<j:=by omega
     apply rn;simp[D,G,E,F,J,aJ,aF,o.1,o.2,d.1,d.2,sy,q4,a7,aK];obtain⟨nb,zb,hT,gU⟩:=h8;obtain⟨f,hf⟩:∃f:Fr,f=⟨es,f0.roads,f0.aX,f0.fe,f0.cL,(i:Int)⟩:=⟨_,rfl⟩;have aE:=Fr.om (Z.fits (by omega)) (Z.check (by omega))
     have tc:HV cnt f ks:=by
      have gl:=Z.eH;subst eB;subst hf;refine⟨⟨⟨by grind,aE.fits.roads,aE.fits.row,λe he=>by grind⟩,aE.fr,aE.to,aE.le,aE.cL,by grind,by grind,λe he=>O.qB e he,aE.Jd⟩,by grind,by grind,λr hr=>?_,h9,by grind,i,C,H,M,⟨O.len,O.Ts,O.qB,O.ck,O.Ru,O.fit,O.Yr,O.I1,O.Tt⟩,rfl⟩
      obtain⟨t,ht,rfl⟩:=abA.1 hr;exact aaE (Nat.le_of_eq (aE.row (i:=t) ht).1) gl.2
     refine .oo (a':=.cI [bF f,ints ks]) (GQ rfl λi x y x1 x2=>?_) (.less (σ':=σ.set c (.cells [ints nums,int nb,.lit (.int .u64 zb)])) (λy x hy=>?_) (.done (h f ks _ tc ⟨⟨nb,zb,by omega,ab.ai _ _ _⟩,λy hy=>ab.ah _ _ hy⟩)))
     . match i with
       | 0=>
         simp at x1 x2;subst x1;subst x2;refine rf (by grind) λi x y x1 x2=>?_
         subst hf
         match i with
         |0=>simp at x1 x2;subst x1;subst x2;exact b9.W
         |1=>simp at x1 x2;subst x1;subst x2;exact .refl _
         |2=>simp at x1 x2;subst x1;subst x2;exact .refl _
         |3=>simp at x1 x2;subst x1;subst x2;exact .refl _
         |4=>simp at x1 x2;subst x1;subst x2;exact .refl _
         |5=>simp at x1 x2;subst x1;subst x2;exact .refl _
         |i+6=>simp at x1
       |1=>simp at x1 x2;subst x1;subst x2;exact eb.W
       |i+2=>simp at x1
     . by_cases Y:y=c
       . subst Y
         rw[ab.ai]at hy;rw[ab.ah _ _ n4,gU];exact hy
       . rw[ab.ah _ _ Y]at hy
         have y4:y≠X:=λe=>by grind
         rw[ab.ah _ _ y4];exact b9.1 y x (by simpa[ab.del,Y]using hy)
end
end
section
open Go.bU Go.Conc
theorem ti{α g}:∀{l:List α},(∀x∈l,g x=0)->eL g l=0
 |[],_=>rfl
 |a::l,h=>by rw[eL,aav (h a (by simp))];exact ti λx q=>h x (by simp[q])
structure Pv  cnt  (w:fA) (own lost:adQ):Prop where
 valid:w.Valid
 xp:iS w=0
 len:(w.fair.au.length:Int)+w.aB.length<=cnt
 abf:w.ways.length<=5
 lo:own.length=w.fair.au.length
 ll:lost.length=w.aB.length
 aaq:∀e∈w.fair.au,e.marks.length<=3
 aar:∀c∈w.aB,c.lost.marks.length<=3
 rows:w.fair.roads.length<=3/\∀r∈w.fair.roads,r.length<=3
 aas:∃v∈aI (gJ w) [],∀i j ,i<w.fair.au.length+w.aB.length->j<w.fair.au.length+w.aB.length->fL i j v=decide ((own++lost).getD i 0=(own++lost).getD j 0)
theorem Rr{cnt f p}(t:HV cnt f p)(N:cnt<=6){w}{E C:adQ}(z:∀i∈E++C,0<=i/\i<f.au.length)(hn:(E.length:Int)+C.length<=cnt)
 (W:w.fair.au=E.map (aM f)) (O:w.aB.map (·.lost)=C.map (aM f)) (y:w.fair.roads=f.roads) (m:w.fair.aX=f.aX) (n:w.fair.fe=f.fe) (hd:w.fair.cL=f.cL) (X:f.aY<=w.fair.aY/\w.fair.aY<=6)
 (P:1<=w.bn/\w.bn<=4) (Y:∀x∈w.ways,pn w.bn x=0) (F:w.ways.length<=5) (Z:w.aB.length<=3) (G:∀c∈w.aB,(0<=c.town/\c.town<w.bn)/\(0<=c.hour/\c.hour<=72)/\c.lost.hour<=c.hour):
 Pv cnt w (E.map λi=>p.getD i.toNat 0) (C.map λi=>p.getD i.toNat 0):=by
 have d:=t.om;have l1:w.fair.au.length=E.length:=by simp_all
 have l2:w.aB.length=C.length:=by rw[<-List.length_map (f:=(·.lost)),O,abh]
 have A:∀e∈w.fair.au,e∈f.au:=λe q=>by rw[W]at q;obtain⟨i,I,rfl⟩:=aax.1 q;exact fS (z i (by simp[I]))
 have J:∀c∈w.aB,c.lost∈f.au:=λc q=>by have:c.lost∈w.aB.map (·.lost):=aax.2 ⟨c,q,rfl⟩;rw[O]at this;obtain⟨i,I,e⟩:=aax.1 this;rw[<-e];exact fS (z i (by simp[I]))
 have gen:∀es:List xq,(∀e∈es,e∈f.au)->es.length<=6->({w.fair with au:=es}:Fr).Good:=λes q ql=>by
  have K:=d.aY;refine⟨⟨by grind,by show w.fair.roads.length<_;rw[y];exact d.fits.roads,by show ∀r∈w.fair.roads,_;rw[y];exact d.fits.row,λe D=>d.fits.marks e (q e D)⟩,by rw[m];exact d.fr,by rw[n];exact d.to,by rw[m,n];exact d.le,by rw[hd];exact d.cL,?_,ql,λe D=>?_,by show fB w.fair.roads=0;rw[y];exact d.Jd⟩
  . grind
  . show bS w.fair.roads.length e=0
    rw[y];exact d.qB e (q e D)
 have Q:w.fair.Good:=gen w.fair.au A (by omega)
 have R:∀c∈w.aB,(lone w.fair c.lost).Good:=λc q=>gen [c.lost] (λe D=>by simp_all) (by simp)
 have S:w.og:=⟨Q.fits,Q.xp,λc q=>⟨(R c q).fits,(R c q).xp⟩,by omega,by omega⟩
 have h6:w.fair.au.length+w.aB.length<=6:=by omega
 have T:=jw S h6
 have B:m8 f (gJ w) (E++C):=⟨y,m,n,hd,X.1,z,by simp_all⟩
 obtain⟨mo,Cs,H,last,g,K⟩:=t.seen;obtain⟨v,s,h,hv⟩:=g.de d (by omega)
 obtain⟨u,U,o⟩:=B.de d T hv;have L:aI (gJ w) []≠[]:=acb U
 have V:iS w=0:=by
  unfold iS;have a1:bC w.bn 1 4=true:=by simp[bC,P.1,P.2]
  have a2:eL (wU w) w.aB=0:=ti λc q=>by
   have:=G c q;have e1:bC c.town 0 (w.bn-1)=true:=by simp only[bC,za,KD];omega
   have e2:bC c.hour 0 72=true:=by simp only[bC,za,KD];omega
   unfold wU
   simp_all
  have a3:=(uX T).2 L;rw[a1,ti Y,a2,aau (by simp),aau (by omega),aau (by simp),aau (by omega),aau (by simp),aau (by omega),aau (by omega)]
 have a7:p.length=f.au.length:=g.len;refine⟨fA.valid S V,V,by omega,F,by simp_all,by simp_all,λe q=>t.marks e (A e q),λc q=>t.marks _ (J c q),by rw[y];exact⟨t.eH,t.row⟩,u,U,λi j M hj=>?_⟩
 have hl:(E++C).length=w.fair.au.length+w.aB.length:=by simp_all
 rw[o i j (by omega) (by omega),<-List.map_append]
 have k:∀i:Nat,i<(E++C).length->((E++C).map λi=>p.getD i.toNat 0).getD i 0=p.getD ((E++C).getD i 0).toNat 0:=λi M=>by rw[zD,abx,zR M,zD (l:=E++C),zR M];rfl
 rw[k i (by omega),k j (by omega)]
 have ri:=z _ (iF (l:=E++C) (i:=i) (by omega))
 have rj:=z _ (iF (l:=E++C) (i:=j) (by omega))
 generalize (E++C).getD i 0=a at *;generalize (E++C).getD j 0=b at *;have ea:a=(a.toNat:Int):=by omega
 have eb:b=(b.toNat:Int):=by omega
 rw[aco,KD];constructor
 . intro q
   rw[ea,eb]at q;have:=zX h (by omega) (by omega) q
   omega
 . intro q
   have:=sL h (i:=a.toNat) (j:=b.toNat) (by omega) (by omega) q
   grind
end
section
open Go Go.bU Go.Conc
variable{m:Mo}{σ:ab}{KF:adC}
theorem o0{a b c d e l}(h:KF (.val (aZ ⟨a,b,c,l,d,e⟩)) σ):aA prog m 65 [int a,int b,int c,int d,int e,ints l] σ KF:=by
 refine fs [] Tryz.func65 rfl (by kernel_rfl) ?_;simp[Tryz.f65];refine bV.intro λk f=>?_
 simp;exact .less (by repeat (first|exact ab.le_refl _|assumption|refine ab.fX ?_ (by assumption)|refine ab.mG ?_ (by assumption))) (.done h)
theorem DF{a b c d e}(h:KF (.val (ku ⟨a,b,c,d,e⟩)) σ):aA prog m 66 [int a,int b,int c,int d,int e] σ KF:=by
 refine fs [] Tryz.func66 rfl (by kernel_rfl) ?_;simp[Tryz.f66];refine bV.intro λk f=>?_
 simp[aK];exact .less (by repeat (first|exact ab.le_refl _|assumption|refine ab.fX ?_ (by assumption)|refine ab.mG ?_ (by assumption))) (.done h)
def Pw:List xq:=[⟨10,0,1,[0],15,0⟩,⟨12,0,1,[],16,1⟩,⟨14,0,2,[],14,0⟩,⟨16,0,1,[],14,0⟩]
def Ah:List Way:=[⟨0,1,4,6,20⟩,⟨1,2,1,0,72⟩,⟨2,0,2,0,72⟩]
def WX:Fr:=⟨Pw,[[0,2],[2,0]],1,2,3,3⟩
def WZ:PN:=⟨⟨4,1,1,[0],15,0⟩,1,5⟩
def lW(n:Nat):fA:=⟨WX,3,Ah.take n,[WZ]⟩
theorem B6{n}(z:n<=3)(h:KF (.val (cA (lW n))) σ):aA prog m 37 [int n] σ KF:=by
 have v:∀a b c d e:Int,∀l:adQ,Wl [int a,int b,int c,int d,int e,.sl 1 (l.map int) .exact] [int a,int b,int c,int d,int e,ints l]:=λa b c d e l=>.cons (.refl _) (.cons (.refl _) (.cons (.refl _) (.cons (.refl _) (.cons (.refl _) (.cons (eY 1 _ .exact) .nil)))))
 have r:∀a b c d e:Int,Wl [int a,int b,int c,int d,int e,.lit (.slice none 0 0)] [int a,int b,int c,int d,int e,ints []]:=λa b c d e=>.cons (.refl _) (.cons (.refl _) (.cons (.refl _) (.cons (.refl _) (.cons (.refl _) (.cons (fy 1) .nil)))))
 refine fs Yk Tryz.func37 rfl (by kernel_rfl) ?_
 simp[Tryz.f37];refine bV.intro λwb t=>?_
 simp;refine bK Tryz.func65 rfl rfl (v 10 0 1 15 0 [0]) (o0 ?_);apply rn;simp;refine bK Tryz.func65 rfl rfl (r 12 0 1 16 1) (o0 ?_);apply rn;simp;refine bK Tryz.func65 rfl rfl (r 14 0 2 14 0) (o0 ?_);apply rn;simp;refine bK Tryz.func65 rfl rfl (r 16 0 1 14 0) (o0 ?_);refine aa.runN lay [] 9 ?_;simp[aK];refine bV.intro λfb j=>?_
 obtain⟨A,B,w⟩:=ab.aS j;simp[aK]
 change aa _ _ _ _ _ _ _ _ _
 refine aa.bg 3 (b:=fb) (.agg [.sl 6 (Pw.map aZ) .exact,.sl 1 [.sl 1 [int 0,int 2] .exact,.sl 1 [int 2,int 0] .exact] .exact,int 1,int 2,int 3,int 3]) (ab.ai _ _ _) (by simp) rfl ?_
 rw[du j];apply rn;simp;refine cf Tryz.func66 rfl (DF ?_);apply rn;simp;refine cf Tryz.func66 rfl (DF ?_);apply rn;simp;refine cf Tryz.func66 rfl (DF ?_);apply rn;simp;obtain⟨L,x⟩:∃L,L=(Ah.take n).map ku:=⟨_,rfl⟩;have u:((Ah.map ku).drop 0).take (n-0)=L:=by simp_all
 have hs0:(σ.set wb (.cells [.nil,.nil,int 0,int 0,int 0,int 0,int 0,.nil,.nil])) wb=some (.cells [.nil,.nil,int 0,int 0,int 0,int 0,int 0,.nil,.nil]):=ab.ai _ _ _;have k:n<=(Ah.map ku).length:=by simp[Ah];omega
 apply JK
 . intro key
   repeat' first
    |refine⟨?_,?_⟩
    | (refine yB lay rfl Te rfl V9 (es:=Ah.map ku) (sp:=.exact) (l:=0) (h:=n) (by simp[Ah]) (λcap o=>⟨rfl,⟨⟨.i64,by simp⟩,aaE k o⟩,rfl⟩) k ?_
       rw[u];apply pg;simp[aK])
    | (refine bK Tryz.func65 rfl rfl (v 4 1 1 15 0 [0]) (o0 ?_)
       apply pg;simp[aK])
   all_goals
    refine aa.ia (λe s=>e 2=.ref wb 0/\s=σ.set wb (.cells [.sl 6 (Pw.map aZ) .exact,.sl 1 [.sl 1 [int 0,int 2] .exact,.sl 1 [int 2,int 0] .exact] .exact,int 1,int 2,int 3,int 3,int 3,.sl 5 L .any,.sl 8 [iP WZ] .exact])) ⟨by simp,rfl⟩ ?_
    exact key
 rintro env _ ⟨y,rfl⟩
 apply rn;simp[y]
 have p:(AV.sl 1 [AV.sl 1 [int 0,int 2] .exact,.sl 1 [int 2,int 0] .exact] .exact).W (rows [[0,2],[2,0]]):=WM rfl (λa q=>by simp at q;rcases q with rfl|rfl<;>rfl) (λa q=>by simp at q;rcases q with rfl|rfl<;>rfl) (λi a a' f g=>by
  match i with
  |0=>simp at f g;subst f;subst g;exact eY 1 [int 0,int 2] .exact
  |1=>simp at f g;subst f;subst g;exact eY 1 [int 2,int 0] .exact
  |i+2=>simp at f)
 refine .less (ab.fX (ab.le_refl _) t) (.oo (a':=cA (lW n)) (rf rfl λi a a' f g=>?_) (.done h))
 match i with
 |0=>cases f;cases g;exact eY 6 _ .exact
 |1=>cases f;cases g;exact p
 |2=>cases f;cases g;exact .refl _
 |3=>cases f;cases g;exact .refl _
 |4=>cases f;cases g;exact .refl _
 |5=>cases f;cases g;exact .refl _
 |6=>cases f;cases g;exact .refl _
 |7=>cases f;cases g;rw[x];exact .refl _
 |8=>cases f;cases g;exact eY 8 _ .exact
 |i+9=>cases f
end
section
open Go Go.bU Go.Conc
def I'(f:Fr):Bool:=decide (f.au.length<100) && decide (f.roads.length<100) && f.roads.all (λr=>decide (r.length<100)) && f.au.all (λe=>decide (e.marks.length<100))
theorem Ai{f}(h:I' f=true):f.Fits:=by simp only[I',za,KD,aaw]at h;obtain⟨⟨⟨a,b⟩,c⟩,d⟩:=h;exact⟨by omega,by omega,λr g=>by grind,λe i=>by grind⟩
def Ga(f:Fr):Bool:=I' f && decide (check f=0)
theorem Px{f}(h:Ga f=true):f.Good:=by simp only[Ga,za,KD]at h;exact Fr.om (Ai h.1) h.2
def qf(h:Int):Int:=if h<0 then -1 else if 72<h then 72 else h
theorem Py  h :∃k:Nat,k<74/\qf h=(k:Int)-1:=by refine⟨(qf h+1).toNat,?_,?_⟩<;>(unfold qf;split<;>(try split)<;>omega)
def HW(w:fA):Bool:=(oh w.fair.au.length).all (λi=>decide (0<=(aM w.fair i).hour) && decide ((aM w.fair i).hour<=72)) && (oh w.aB.length).all λi=>decide (0<=iR w i.toNat)
theorem Gb{w}(a:HW w=true)  h :kE w h=kE w (qf h)/\kC w h=kC w (qf h):=by
 simp only[HW,za,aaw,KD]at a
 have c:bo w h=bo w (qf h):=ack λx b=>by
  have:=a.1 x b;unfold pE qf
  grind
 have d:bz w h=bz w (qf h):=ack λx b=>by
  have:=a.2 x b;unfold pC qf
  grind
 grind
def Yx(w:fA)(p:Int × Int):Bool:=(aD p.1).all (λi=>decide (0<=i) && decide (i<w.fair.au.length)) && (aD p.2).all (λi=>decide (0<=i) && decide (i<w.aB.length)) && Ga (bE w (aD p.1) (aD p.2)) && decide (aI (bE w (aD p.1) (aD p.2)) []≠[])
theorem W2{w p}(h:Yx w p=true):w.Bk p.1 p.2:=by simp only[Yx,za,aaw,KD]at h;exact⟨h.1.1.1,h.1.1.2,Px h.1.2,h.2⟩
def Sf(w:fA)(L:adu):Bool:=decide (w.fair.au.length<=6) && decide (w.aB.length<=3) && HW w && (List.range 74).all (λk=>L.contains (kE w ((k:Int)-1),kC w ((k:Int)-1))) && L.all (Yx w)
theorem DG{w L}(h:Sf w L=true):w.Open:=by
 simp only[Sf,za,aaw,KD]at h;refine⟨⟨h.1.1.1.1,h.1.1.1.2⟩,λt=>?_⟩;obtain⟨a,b⟩:=Gb h.1.1.2 t;obtain⟨k,c,ek⟩:=Py t;rw[a,b,ek];exact W2 (p:=(kE w ((k:Int)-1),kC w ((k:Int)-1))) (h.2 _ (by grind))
def Sg(w:fA):Bool:=Ga w.fair && w.aB.all (λc=>I' (lone w.fair c.lost) && decide (check (lone w.fair c.lost)=0)) && decide (w.ways.length<100) && decide (w.aB.length<100)
theorem Ja{w}(h:Sg w=true):w.og:=by simp only[Sg,Ga,za,aaw,KD]at h;obtain⟨⟨⟨⟨d,e⟩,a⟩,f⟩,g⟩:=h;exact⟨Ai d,e,λc b=>⟨Ai (a c b).1,(a c b).2⟩,by omega,by omega⟩
theorem Rs:(lW 2).og/\(lW 3).og:=⟨Ja (by decide +kernel),Ja (by decide +kernel)⟩
theorem Jb:(lW 2).Open/\(lW 3).Open:=⟨DG (L:=[(0,0),(0,1),(1,0),(1,1),(3,1),(7,1),(15,1)]) (by decide +kernel),DG (L:=[(0,0),(0,1),(1,1),(3,1),(7,1),(15,1)]) (by decide +kernel)⟩
end
open Go Go.bU Go.Conc
variable{m:Mo}{σ:ab}{KF:adC}
theorem TB:IT prog 28 3:=.of (by kernel_rfl) (by kernel_rfl) (by kernel_rfl) (by kernel_rfl)
namespace SR
abbrev Yy:adH:=[⟨4,.take [0,1,2,3,4,5,6,7] false (.one 8 (.done))⟩]
theorem AO{a b}(A:a.length<1152921504606846976)(hb:b.length<1152921504606846976)(h:KF (.val (bool (decide (a=b)))) σ):aA prog m 40 [qe a,qe b] σ KF:=by
 refine fs Yy Tryz.func40 rfl (by kernel_rfl) ?_;simp[Tryz.f40];refine aa.loop a.length (λk s=>∃env,s=⟨env,σ,[],.no⟩/\env 0=qe a/\env 1=qe b/\env 5=int k/\k<=b.length/\a.take k=b.take k) ⟨_,rfl,by simp⟩ ?_;rintro B k _ C ⟨env,rfl,g,l,i,r,o⟩ t;apply rn;simp[g,i];refine tj.intro (λf=>?_) (λf=>?_)<;>(try simp[-Nat.not_lt,-Nat.not_le]at f)<;>(try simp[g,l,i,f])
 . refine aG.intro (λj=>?_) (λj=>?_)<;>(try simp[-Nat.not_lt,-Nat.not_le]at j)<;>(try simp[g,l,i,j,f])
   . obtain⟨x,u⟩:∃x,x=a[k]:=⟨_,rfl⟩
     obtain⟨y,v⟩:∃y,y=b[k]:=⟨_,rfl⟩;simp only[<-u,<-v];refine Kc lay TB sb rfl rfl (a:=x.1) (b:=x.2) (c:=y.1) (d:=y.2) (by simp) (by simp) (.inr ⟨rfl,rfl⟩) ?_;have w:(!(x.1==y.1 && x.2==y.2))=!decide (x=y):=by grind
     rw[w];by_cases p:x=y
     . apply pg
       simp[p];apply rn;simp[i];have z:a[k]=b[k]:=by simp_all
       refine⟨by omega,t _ f ⟨_,rfl,by simp[g],by simp[l],by simp,by omega,?_⟩⟩;rw[zG f,zG j,o,z]
     . have:a≠b:=λe=>by simp_all
       simp[this]at h;apply pg;simp[p];apply rn;simp;exact .done h
   . have:a≠b:=λe=>by simp_all
     have n:((a.length:Int)==b.length)=false:=by grind
     rw[n];exact .done (by simp_all)
 . have:k=a.length:=by omega
   subst this;rw[aaD]at o;by_cases e:a.length=b.length
   . have:a=b:=by grind
     exact .done (by grind)
   . have:a≠b:=λq=>e (by rw[q])
     have n:((a.length:Int)==b.length)=false:=by grind
     rw[n];exact .done (by grind)
end SR
theorem Pz:dZ (lW 3) [] [] [0]=0/\dZ (lW 3) [14] [] []=0/\dZ (lW 3) [] [1] []=0/\dZ (lW 2) [] [] []=0/\dZ (lW 3) [] [] []=0:=by decide +kernel
theorem Rt:iR (lW 3) 0=8/\mZ (lW 3) 14=[0,1]/\cY (lW 3) 1=[(12,15)]/\jE (lW 2) (lW 2).fair.au.length=67/\I6 (lW 3)=[0]:=by decide +kernel
theorem PA:dG (lW 3) 16 0 0=1/\((List.range 16).all λh=>(List.range 4).all fun  i=>decide (dG (lW 3) (h:Nat) i 0≠1))=true:=by decide +kernel
theorem TC:∀l ,(∀c∈l,0<=c/\c<((lW 3).aB.length:Int))->l.length<=(lW 3).aB.length->((lW 3).only l).Open:=λl d g=>by
 have f:l=[]\/l=[0]:=by
  match l with
  |[]=>simp_all
  | [a]=>
    have:=d a (by simp);have e:(lW 3).aB.length=1:=rfl
    grind
  | a::b::t=>
    have e:(lW 3).aB.length=1:=rfl
    simp_all
 rcases f with rfl|rfl
 . exact DG (L:=[(0,0),(1,0),(3,0),(7,0),(15,0)]) (by decide +kernel)
 . exact Jb.2
theorem HX:(∀h i ,h<73->i<(lW 3).fair.au.length->foundAt (lW 3) 0 h i->h=16/\i=0)/\¬(∀a b:Nat,a<73->b<(lW 3).fair.au.length->dG (lW 3) a b 0≠1):=by
 obtain⟨f1,c⟩:=PA;have e:(lW 3).fair.au.length=4:=rfl;refine⟨λh i j k d=>?_,λq=>q 16 0 (by omega) (by omega) f1⟩;simp only[aaw,KD,LK]at c;by_cases f:h<16
 . exact absurd d.1 (c h f i (by omega))
 . by_cases g:h=16/\i=0
   . exact g
   . exact absurd f1 (d.2 16 0 (by omega) (by omega))
theorem yc(d:m.solo=true)(h:KF (.val (bool true)) σ):aA prog m 14 [] σ KF:=by
 have e:∀(σ:ab) (KF:adC),KF (.val (cA (lW 3))) σ->aA prog m 37 [int 3] σ KF:=λσ KF h=>B6 (n:=3) (by decide) h
 have k:∀(σ:ab) (KF:adC),KF (.val (cA (lW 2))) σ->aA prog m 37 [int 2] σ KF:=λσ KF h=>B6 (n:=2) (by decide) h
 obtain⟨j,l,o,p,r⟩:=Pz;obtain⟨s,t,u,v,w⟩:=Rt;obtain⟨f1,x⟩:=HX;obtain⟨y,f⟩:=Rs;obtain⟨z,g⟩:=Jb;have sub:=TC;generalize lW 3=A at *;generalize lW 2=B at *;refine fs [] Tryz.func14 rfl (by kernel_rfl) ?_;simp[Tryz.f14];refine cf Tryz.func37 rfl (e _ _ ?_);apply rn;simp;refine cf Tryz.func15 rfl (F1 d f (c:=0) (by decide) j ?_);rw[s,aau (by decide)];apply rn;simp;refine cf Tryz.func37 rfl (e _ _ ?_);apply rn;simp;refine cf Tryz.func17 rfl (Pm d f g (λq=>absurd l q) λ_=>?_);rw[t];apply rn;simp;refine cf Tryz.func37 rfl (e _ _ ?_);apply rn;simp;refine cf Tryz.func38 rfl (Ln d f g (by decide) (λq=>absurd o q) λ_=>?_);rw[u];apply rn;simp;refine cf Tryz.func37 rfl (e _ _ ?_);apply rn;simp;refine cf Tryz.func19 rfl (Bo d f g (by decide) j (λh i C D E=>?_) λq=>absurd q x)
 obtain⟨rfl,rfl⟩:=f1 h i C D E;apply rn;simp;refine cf Tryz.func37 rfl (k _ _ ?_);apply rn;simp;refine cf Tryz.func30 rfl (Lq d y z p ?_);rw[v];apply rn;simp;refine cf Tryz.func37 rfl (e _ _ ?_);apply rn;simp;refine cf Tryz.func39 rfl (HT d f g sub r ?_);rw[w];apply rn;simp;refine bK Tryz.func18 rfl rfl (.cons (.refl _) (.cons (eY 1 [int 0,int 1] .exact) .nil)) (qD (a:=[0,1]) (b:=[0,1]) (by simp) (by simp) ?_);apply rn;simp;refine bK Tryz.func40 rfl rfl (.cons (.refl _) (.cons (eY 2 [lJ (12,15)] .exact) .nil)) (SR.AO (a:=[(12,15)]) (b:=[(12,15)]) (by simp) (by simp) ?_);apply rn;simp;refine bK Tryz.func18 rfl rfl (.cons (.refl _) (.cons (eY 1 [int 0] .exact) .nil)) (qD (a:=[0]) (b:=[0]) (by simp) (by simp) ?_);apply rn;simp;exact .done h
section
variable{c k:Nat}{nums:adQ}
namespace WY
abbrev Yz:adH:=[⟨2,.take [0,2,3,4,7,9] false (.both 1 (.one 5 (.take [6,8] true (.one 10 (.done)))) (.one 5 (.take [1,6,8] true (.one 10 (.done)))))⟩]
theorem TD{a b t:Int}(c:2<=t/\t<=4)(d:0<=a/\a<t)(hb:1<=b/\b<t):0<=(a+b).tmod t/\(a+b).tmod t<t/\(a+b).tmod t≠a:=by
 rw[Int.tmod_eq_emod_of_nonneg (by omega)];have:t=2\/t=3\/t=4:=by omega
 grind
theorem PB{a t}(b:2<=t/\t<=4):nR .rem .i64 a t=some (.int .i64 (a.tmod t)):=by simp[nR];omega
theorem PC{t}(hk:k+7<1000000)(H:nums.length<1152921504606846976)(ht:2<=t/\t<=4)(hb:bx c nums k σ)(h:∀  x  σ',pn t x=0->qz c nums (k+7) σ σ'->KF (.val (ku x)) σ'):aA prog m 34 [.ref c 0,int t] σ KF:=by
 obtain⟨n0,s0,_,a7⟩:=id hb;refine fs Yz Tryz.func34 rfl (by kernel_rfl) ?_
 simp[Tryz.f34];refine bV.intro λi h4=>?_
 have v:c≠i:=λe=>by simp_all
 have P:∀x,bx c nums k (σ.set i x):=λx=>⟨n0,s0,by assumption,by rw[ab.ah _ _ v];exact a7⟩
 simp;have W:-9223372036854775808<=t-1/\t-1<=9223372036854775807:=by omega
 simp[W.1,W.2];refine cf Tryz.func16 rfl (fC (by omega) H ⟨by omega,by omega⟩ (P _) λd aC Q M=>?_)
 apply rn;simp;refine cf Tryz.func13 rfl (fG (by omega) H (by omega) (by omega) M.1 λr w aE A=>?_)
 apply rn;simp;refine bV.intro λf h5=>?_
 have B:f≠c:=λe=>by subst e;obtain⟨_,_,_,q⟩:=A.1;simp_all
 have aL:∀y,y≠c->y≠i->w y=σ y:=λy o Y=>by rw[A.2 y o,M.2 y o,ab.ah _ _ Y]
 have q4:w i=some (.cells [int 0,int 0,int 0,int 0,int 0]):=by rw[A.2 i (zs v),M.2 i (zs v),ab.ai]
 have s:f≠i:=λe=>by simp_all
 have Q:0<=d/\d<t:=by omega
 apply Ag (I:=λenv σ'=>∃b,(1<=b/\b<t)/\env 0=.ref c 0/\env 1=int t/\env 4=.ref i 0/\env 5=.ref f 0/\bx c nums (k+3) σ'/\σ' i=some (.cells [int 0,int 0,int 0,int 0,int 0])/\σ' f=some (.cells [int d,int ((d+b).tmod t),int r,int 0,int 0])/\∀y,y≠c->y≠i->y≠f->σ' y=σ y)
 . intro u
   simp[aK,W.1,W.2]
   have R:bx c nums (k+2) (w.set f (.cells [int d,int 0,int r,int 0,int 0])):=by obtain⟨n,z,C,S⟩:=A.1;exact⟨n,z,C,by rw[ab.ah _ _ (zs B)];exact S⟩
   have fin:∀(b:Int) (g:ab),1<=b/\(b<=t-1\/b=1)->qz c nums (k+2+1) (w.set f (.cells [int d,int 0,int r,int 0,int 0])) g->g f=some (.cells [int d,int 0,int r,int 0,int 0])/\(-9223372036854775808<=d+b/\d+b<=9223372036854775807)/\∀(env:Env) (X:qF),env 0=.ref c 0->env 1=int t->env 4=.ref i 0->env 5=.ref f 0->X=.cells [int d,int ((d+b).tmod t),int r,int 0,int 0]->(∃b,(1<=b/\b<t)/\env 0=.ref c 0/\env 1=int t/\env 4=.ref i 0/\env 5=.ref f 0/\bx c nums (k+3) (g.set f X)/\(g.set f X) i=some (.cells [int 0,int 0,int 0,int 0,int 0])/\(g.set f X) f=some (.cells [int d,int ((d+b).tmod t),int r,int 0,int 0])/\∀y,y≠c->y≠i->y≠f->(g.set f X) y=σ y):=λb g p j=>by
    refine⟨by rw[j.2 f B,ab.ai],by omega,λenv X N J K L eX=>⟨b,by omega,N,J,K,L,?_,?_,by rw[ab.ai,eX],λy o Y y3=>?_⟩⟩
    . obtain⟨n,z,C,S⟩:=j.1
      exact⟨n,z,by omega,by rw[ab.ah _ _ (zs B)];exact S⟩
    . rw[ab.ah _ _ (zs s),j.2 i (zs v),ab.ah _ _ (zs s)];exact q4
    . rw[ab.ah _ _ y3,j.2 y o,ab.ah _ _ y3];grind
   refine⟨?_,?_⟩
   . refine cf Tryz.func13 rfl (fG (by omega) H (by omega) (by omega) R λb g p j=>?_)
     obtain⟨g5,C,gI⟩:=fin b g p j;have Z:=PB (a:=d+b) ht;apply pg;simp[g5,C.1,C.2,Z,aK];exact u _ _ (gI _ _ (by simp) (by simp) (by simp) (by simp) rfl)
   . refine cf Tryz.func13 rfl (fG (by omega) H (by omega) (by omega) R λb g p j=>?_)
     obtain⟨g5,C,gI⟩:=fin b g p j;have Z:=PB (a:=d+b) ht;apply pg;simp[g5,C.1,C.2,Z,aK];exact u _ _ (gI _ _ (by simp) (by simp) (by simp) (by simp) rfl)
 rintro env g ⟨b,p,N,J,K,L,a8,u4,u5,a9⟩
 apply rn;simp[N,J,K,L];refine cf Tryz.func16 rfl (fC (by omega) H ⟨by omega,by omega⟩ a8 λo aO b0 D=>?_)
 apply rn;simp[N,J,K,L];refine cf Tryz.func63 rfl (nL (l:=[0,0,o]) (by omega) H (by simp) D.1 λfr T b1 E=>?_)
 have hf:0<=fr/\fr<=20:=by grind
 have v5:T f=some (.cells [int d,int ((d+b).tmod t),int r,int 0,int 0]):=by rw[E.2 f B,D.2 f B];exact u5
 have r2:-9223372036854775808<=fr+20/\fr+20<=9223372036854775807:=by omega
 apply rn;simp[N,J,K,L,v5,aK,r2.1,r2.2];obtain⟨hi,ad,ax⟩:∃hi:Int,hi=(if fr+20<72 then fr+20 else 72)/\fr<=hi/\hi<=72:=⟨_,rfl,by omega,by omega⟩
 rw[<-ad]
 have U:bx c nums (k+5) (T.set f (.cells [int d,int ((d+b).tmod t),int r,int fr,int 0])):=by obtain⟨n,z,C,S⟩:=E.1;exact⟨n,z,by omega,by rw[ab.ah _ _ (zs B)];exact S⟩
 refine cf Tryz.func13 rfl (fG (by omega) H (by omega) (by omega) U λY σ6 b2 F=>?_)
 apply rn;simp[N,J,K,L];refine cf Tryz.func63 rfl (nL (l:=[72,72,Y]) (by omega) H (by simp) F.1 λtt V al G=>?_)
 have b3:fr<=tt/\tt<=72:=by simp at al;omega
 have w5:V f=some (.cells [int d,int ((d+b).tmod t),int r,int fr,int 0]):=by rw[G.2 f B,F.2 f B,ab.ai]
 have w4:V i=some (.cells [int 0,int 0,int 0,int 0,int 0]):=by rw[G.2 i (zs v),F.2 i (zs v),ab.ah _ _ (zs s),E.2 i (zs v),D.2 i (zs v)];exact u4
 apply rn;simp[N,J,K,L,w5,w4,s,zs s,ab.ah,aK];obtain⟨nb,zb,P,av⟩:=G.1;have ay:=TD ht Q p
 have hw:pn t ⟨d,(d+b).tmod t,r,fr,tt⟩=0:=by
  have J:bC d 0 (t-1)=true:=by simp only[bC,za,KD];omega
  have Z:bC ((d+b).tmod t) 0 (t-1)=true:=by simp only[bC,za,KD];omega
  have e3:bC r 1 12=true:=by simp only[bC,za,KD];omega
  have K:bC fr 0 72=true:=by simp only[bC,za,KD];omega
  have L:bC tt 0 72=true:=by simp only[bC,za,KD];omega
  unfold pn
  grind
 refine .less (σ':=σ.set c (.cells [ints nums,int nb,.lit (.int .u64 zb)])) (λy x O=>?_) (.done (h ⟨d,(d+b).tmod t,r,fr,tt⟩ _ hw ⟨⟨nb,zb,by omega,ab.ai _ _ _⟩,λy O=>ab.ah _ _ O⟩))
 have s5:σ f=none:=by simp_all
 by_cases o:y=c
 . subst o
   rw[ab.ai]at O;rw[ab.ah _ _ v,ab.ah _ _ (zs B),av];exact O
 . rw[ab.ah _ _ o]at O
   have y4:y≠i:=λe=>by simp_all
   have y5:y≠f:=λe=>by simp_all
   rw[ab.ah _ _ y4,ab.ah _ _ y5,G.2 y o,F.2 y o,ab.ah _ _ y5,E.2 y o,D.2 y o,a9 y o y4 y5];exact O
end WY
end

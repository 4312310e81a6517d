import Derived.Test.YtkcceaplmgdnfaaGreatDoorC20
set_option linter.all false
set_option maxHeartbeats 1000000
set_option maxRecDepth 4000
namespace Go.Proofs.YtkcceaplmgdnfaaGreatDoor
open Go.Proofs.Tryz (prog)
section
open Go.cG Go.Conc
theorem yZ(p:Int->Bool):∀n:Nat,n<=6->(0<=aT ((pQ n).filter p)/\aT ((pQ n).filter p)<64)/\aB (aT ((pQ n).filter p))=(pQ n).filter p
 | 0,_=>by
   show(0<=aT []/\aT []<64)/\aB (aT [])=[];decide
 | n + 1,h=>by
   obtain⟨a,b⟩:=yZ p n (by omega);rw[ui];split
   . rw[nE]
     exact⟨(GA a (by omega)).1,by rw[AW a (by omega) λe c=>by grind,b]⟩
   simp_all
section
variable{w:bY}
abbrev E0(w:bY)(es cs:adG):adG:=es++cs.map λ(c:Int)=>c+(w.fair.aD.length:Int)
theorem Ow{i:Int}(h:0<=i/\i<w.fair.aD.length):aS (jl w) i=aS w.fair i:=by
 have:i.toNat<w.fair.aD.length:=by omega
 unfold aS jl
 grind
theorem Ox{c:Int}(h:0<=c/\c<w.aF.length):aS (jl w) (c+w.fair.aD.length)=(Cw w c).lost:=by
 have a:c.toNat<w.aF.length:=by omega
 have e:(c+w.fair.aD.length).toNat=w.fair.aD.length+c.toNat:=by omega
 unfold aS jl Cw
 simp_all
theorem V2:(jl w).aD.length=w.fair.aD.length+w.aF.length:=by simp_all
theorem E1{es cs:adG}(b:∀i∈es,0<=i/\i<w.fair.aD.length)(d:∀i∈cs,0<=i/\i<w.aF.length):pv (jl w) (dk w es cs) (E0 w es cs):=
 ⟨rfl,rfl,rfl,rfl,abF _,λi a=>by
   grind,by
   show _=(es++cs.map λ(c:Int)=>c+(w.fair.aD.length:Int)).map (aS (jl w));rw[aaN,acI];show es.map (aS w.fair)++_=_;rw[abU (g:=aS (jl w)) λi a=>(Ow (b i a)).symm];congr 1
   . exact abU λi a=>(Ox (d i a)).symm⟩
theorem Ku(b:w.Valid){es cs:adG}(f:∀i∈es,0<=i/\i<w.fair.aD.length)(g:∀i∈cs,0<=i/\i<w.aF.length)(j:es.length+cs.length<=6):(dk w es cs).Good:=by
 have a:=mC b.wD b.pJ;have c:=E1 f g
 have d:∀e∈(dk w es cs).aD,e∈(jl w).aD:=λe q=>by rw[c.sJ]at q;obtain⟨i,h,rfl⟩:=aaL.1 q;exact ga (c.SA i h)
 have hlen:(dk w es cs).aD.length=es.length+cs.length:=by grind
 exact⟨⟨by omega,a.fits.roads,a.fits.row,λe q=>a.fits.marks e (d e q)⟩,a.fr,a.to,a.le,a.cP,a.aR,by omega,λe q=>a.sJ e (d e q),a.KJ⟩
theorem j8{h i:Int}(hi:i∈dS w h):0<=i/\i<w.fair.aD.length:=ry (aaZ.1 hi).1
theorem om{h i:Int}(hi:i∈cR w h):0<=i/\i<w.aF.length:=ry (aaZ.1 hi).1
theorem GY(w:bY)(h:Int):(dS w h).length<=w.fair.aD.length:=by
 have:=abo (pE w h) (pQ w.fair.aD.length)
 rwa [rz]at this
theorem GZ(w:bY)(h:Int):(cR w h).length<=w.aF.length:=by
 have:=abo (pC w h) (pQ w.aF.length)
 rwa [rz]at this
theorem bY.Valid.kE(a:w.Valid)(h:Int):aB (kE w h)=dS w h:=(yZ _ _ (by have:=a.pJ;omega)).2
theorem bY.Valid.kC(a:w.Valid)(h:Int):aB (kC w h)=cR w h:=(yZ _ _ (by have:=a.pJ;omega)).2
abbrev jW(w:bY)(h:Int):Fr:=dk w (dS w h) (cR w h)
abbrev iA(w:bY)(h:Int):adG:=E0 w (dS w h) (cR w h)
theorem oo(w:bY)(h:Int):pv (jl w) (jW w h) (iA w h):=E1 (λ_=>j8) λ_=>om
theorem mE(a:w.Valid)(h:Int):(jW w h).Good:=Ku a (λ_=>j8) (λ_=>om) (by have:=GY w h;have:=GZ w h;have:=a.pJ;omega)
theorem bY.Valid.open(a:w.Valid):w.Open:=by
 have c:=a.pJ;refine⟨⟨by omega,a.EM.1⟩,λh=>?_⟩;have hb:=mE a h;obtain⟨v,b⟩:=abS _ a.some;obtain⟨u,d,_⟩:=(oo w h).way (mC a.wD c) hb b;refine⟨?_,?_,?_,?_⟩<;>simp only[a.kE,a.kC]
 . exact λ_=>j8
 . exact λ_=>om
 . exact hb
 grind
end
def GS(L:adG)(g g':Int)(v:adG):Bool:=gM (L.idxOf g:Int) (L.idxOf g':Int) v
theorem E2{L:adG}{g:Int}(h:g∈L):L.getD (L.idxOf g) 0=g:=by grind
theorem pv.sub{f x y:Fr}{L M:adG}(h:pv f x L)(h':pv f y M)(c:∀i∈M,i∈L)(a:x.aR<=y.aR):pv x y (M.map λi=>(L.idxOf i:Int)):=by
 have b:∀i∈M,(L.idxOf i:Int)<L.length:=λi q=>by grind
 refine⟨by rw[h'.roads,h.roads],by rw[h'.fr,h.fr],by rw[h'.to,h.to],by rw[h'.cP,h.cP],a,λj q=>?_,?_⟩
 . obtain⟨i,d,rfl⟩:=aaL.1 q
   rw[h.len];simp_all
 . rw[h'.sJ,acI]
   refine abU λi q=>?_
   have:=h.at (j:=(L.idxOf i:Int)) ⟨by omega,b i q⟩
   simp_all
theorem Qx{f x y:Fr}{L M:adG}(h:pv f x L)(h':pv f y M)(b:∀i∈M,i∈L)(c:x.aR<=y.aR)(d:x.Good)(j:y.Good){v:adG}(k:v∈aI x []):∃u∈aI y [],∀g∈M,∀g'∈M,GS M g g' u=GS L g g' v:=by
 obtain⟨u,l,e⟩:=(h.sub h' b c).way d j k;have a:∀g∈M,M.idxOf g<M.length/\(M.map λi=>(L.idxOf i:Int)).getD (M.idxOf g) 0=(L.idxOf g:Int):=λg q=>by grind
 refine⟨u,l,λg q g' m=>?_⟩;have n:=a g q;have o:=a g' m;have:=e (M.idxOf g) (M.idxOf g') (by simp_all) (by simp_all);unfold GS
 simp_all
theorem Ig(f:Fr)(es cs:adG)(x:Nat)(N:adG)(a:cs.Nodup)(b:∀c∈cs,0<=c/\c<3)(g:3*(es.getD x 0).toNat+2<N.length)(q:Nat):∀n:Nat,n<=cs.length ->
 ((List.range n).foldl (λN y=>N.set (3*(es.getD x 0).toNat+(cs.getD y 0).toNat) (oi f x ((es.length:Int)+y))) N).length=N.length/\
 (∀y<n,((List.range n).foldl (λN y=>N.set (3*(es.getD x 0).toNat+(cs.getD y 0).toNat) (oi f x ((es.length:Int)+y))) N).getD (3*(es.getD x 0).toNat+(cs.getD y 0).toNat) 0=oi f x ((es.length:Int)+y))/\
 ((∀y<n,q≠3*(es.getD x 0).toNat+(cs.getD y 0).toNat)->((List.range n).foldl (λN y=>N.set (3*(es.getD x 0).toNat+(cs.getD y 0).toNat) (oi f x ((es.length:Int)+y))) N).getD q 0=N.getD q 0)
 |0,_=>⟨rfl,λy d=>by omega,λ_=>rfl⟩
 | n + 1,o=>by
   obtain⟨p,r,j⟩:=Ig f es cs x N a b g q n (by omega);rw[aaO,abf,abr,List.foldl_nil];generalize (List.range n).foldl _ N=R at *;have s:=b _ (gZ (l:=cs) (i:=n) (by omega));refine⟨by simp_all,λy d=>?_,λh=>?_⟩
   . by_cases e:y=n
     . subst e
       rw[zA,abB (by omega)];rfl
     . have k:(cs.getD y 0).toNat≠(cs.getD n 0).toNat:=λq=>by
        have m:=b _ (gZ (l:=cs) (i:=y) (by omega));have:cs.getD y 0=cs.getD n 0:=by omega
        rw[zA,zA,zU (show y<cs.length by omega),zU (show n<cs.length by omega)]at this;exact e (yK a this)
       grind
   . rw[zA,abp (λe=>h n (by omega) e.symm),<-List.getD_eq_getElem?_getD]
     exact j λy d=>h y (by omega)
theorem E3(f:Fr)(es cs:adG)(a:es.Nodup)(g:∀i∈es,0<=i/\i<6)(b:cs.Nodup)(d:∀c∈cs,0<=c/\c<3)(q:Nat):∀n:Nat,n<=es.length ->
 ((List.range n).foldl (λN x=>wE f es cs x N) (List.replicate 18 0)).length=18/\
 (∀x<n,∀y<cs.length,((List.range n).foldl (λN x=>wE f es cs x N) (List.replicate 18 0)).getD (3*(es.getD x 0).toNat+(cs.getD y 0).toNat) 0=oi f x ((es.length:Int)+y))/\
 ((∀x<n,∀y<cs.length,q≠3*(es.getD x 0).toNat+(cs.getD y 0).toNat)->((List.range n).foldl (λN x=>wE f es cs x N) (List.replicate 18 0)).getD q 0=0)
 |0,_=>⟨by simp,λy j=>by omega,λ_=>by grind⟩
 | n + 1,w=>by
   obtain⟨o,p,r⟩:=E3 f es cs a g b d q n (by omega);rw[aaO,abf,abr,List.foldl_nil];obtain⟨R,k⟩:∃R,R=(List.range n).foldl (λN x=>wE f es cs x N) (List.replicate 18 0):=⟨_,rfl⟩;rw[<-k]at o p r ⊢;have z:=g _ (gZ (l:=es) (i:=n) (by omega));have s:3*(es.getD n 0).toNat+2<R.length:=by omega
   have key:=λq=>Ig f es cs n R b d s q cs.length (aaE _)
   refine⟨by unfold wE;exact(key 0).1.trans o,λx A y j=>?_,λh=>?_⟩
   . by_cases e:x=n
     . subst e;exact(key 0).2.1 y j
     . have t:=g _ (gZ (l:=es) (i:=x) (by omega))
       have u:(es.getD x 0).toNat≠(es.getD n 0).toNat:=λq=>by
        have:es.getD x 0=es.getD n 0:=by omega
        rw[zA,zA,zU (show x<es.length by omega),zU (show n<es.length by omega)]at this;exact e (yK a this)
       have v:=d _ (gZ j);unfold wE;rw[(key _).2.2 λB m=>by have:=d _ (gZ m);omega]
       grind
   . unfold wE
     grind
section
variable{w:bY}
theorem Bg(n:Nat):(pQ n).Nodup:=by unfold pQ;rw[List.Nodup,List.pairwise_map];exact(List.nodup_range (n:=n)).imp λh e=>h (by omega)
theorem CC(w:bY)(h:Int):(dS w h).Nodup:=(Bg _).filter _
theorem CD(w:bY)(h:Int):(cR w h).Nodup:=(Bg _).filter _
theorem Bh{es cs:adG}{i:Int}(hi:i∈es):(E0 w es cs).idxOf i=es.idxOf i:=by grind
theorem Qy{cs:adG}{n c:Int}:(cs.map λ(c:Int)=>c+n).idxOf (c+n)=cs.idxOf c:=by
 induction cs with
 |nil=>rfl
 |cons a l b=>grind
theorem Bi{es cs:adG}{c:Int}(a:∀i∈es,i<w.fair.aD.length)(b:0<=c):(E0 w es cs).idxOf (c+w.fair.aD.length)=es.length+cs.idxOf c:=by unfold E0;rw[List.idxOf_append,aay λq=>by grind,Qy,Nat.add_comm]
abbrev Oy(w:bY)(h i c:Int):Int:=zN (aI (jW w h) []) ((iA w h).idxOf i) ((iA w h).idxOf (c+w.fair.aD.length))
theorem Ih(a:w.Valid){h i c:Int}(hi:0<=i/\i<6)(b:0<=c/\c<3):gg w h i c=if i∈dS w h/\c∈cR w h then Oy w h i c else 0:=by
 have m:=a.pJ;have n:=a.EM.1;obtain⟨_,d,f⟩:=E3 (jW w h) (dS w h) (cR w h) (CC w h) (λi q=>by have:=j8 q;omega) (CD w h) (λi q=>by have:=om q;omega) (3*i.toNat+c.toNat) _ (aaE _)
 have e:gg w h i c=(Bb (jW w h) (dS w h) (cR w h)).getD (3*i.toNat+c.toNat) 0:=by show(Bb (dk w (aB (kE w h)) (aB (kC w h))) (aB (kE w h)) (aB (kC w h))).getD (3*i.toNat+c.toNat) 0=_;rw[a.kE,a.kC]
 rw[e];unfold Bb;split
 . next q=>
   obtain⟨g,o⟩:=oe q.1;obtain⟨j,p⟩:=oe q.2;have:=d _ g _ j;rw[E2 q.1,E2 q.2]at this;rw[this];unfold Oy zN oi;rw[Bh q.1,Bi (λi q=>(j8 q).2) b.1]
   simp_all
 . next q=>
   refine f λx k y l e=>q ?_
   have r:=j8 (gZ k);have s:=om (gZ l);have t:(dS w h).getD x 0=i:=by omega
   have u:(cR w h).getD y 0=c:=by omega
   grind
theorem vr(a:w.Valid)(h:Int):0<(aI (jW w h) []).length:=by
 have:=(a.open.bk h).some;simp only[a.kE,a.kC]at this
 grind
theorem Qz(a:w.Valid){h i c:Int}(hi:0<=i/\i<6)(d:0<=c/\c<3):vn (gg w h i c)=true↔(i∈dS w h/\c∈cR w h)/\∃v∈aI (jW w h) [],GS (iA w h) i (c+w.fair.aD.length) v=true:=by
 have b:=vr a h;rw[Ih a hi d];split
 . next q=>
   have f:=GJ b (x:=(iA w h).idxOf i) (y:=(iA w h).idxOf (c+w.fair.aD.length))
   have g:vn (Oy w h i c)=true↔Oy w h i c≠2:=by rcases Kf (aI (jW w h) []) ((iA w h).idxOf i) ((iA w h).idxOf (c+w.fair.aD.length)) b with e|e|e<;>simp[Oy,e,vn]
   rw[g,Ne,f];unfold GS
   simp_all
 . next q=>exact⟨λz=>(by cases z),λz=>absurd z.1 q⟩
theorem E4(a:w.Valid){h i c:Int}(hi:0<=i/\i<6)(d:0<=c/\c<3):gg w h i c=1↔(i∈dS w h/\c∈cR w h)/\∀v∈aI (jW w h) [],GS (iA w h) i (c+w.fair.aD.length) v=true:=by
 have b:=vr a h;rw[Ih a hi d];split
 . next q=>exact⟨λz=>⟨q,(AX b).1 z⟩,λz=>(AX b).2 z.2⟩
 simp_all
end
end
section
open Go Go.cG Go.Conc
variable{m:Mo}{σ:aa}{KF:adl}
def sG(way:adG)(k:Int)(x:Int):Bool:=way[x.toNat]?.getD 0==k
def jL(way:adG)(k:Int):adG:=(pQ way.length).filter (sG way k)
theorem Kv{way:adG}{k x:Int}(b:0<=x/\x<way.length)(h:KF (.val (bool (sG way k x))) σ):aA prog m 145 [int x,.cp (ints way) 0,.cp (int k) 0] σ KF:=by
 have a:x.toNat<way.length:=by omega
 unfold sG at h;rw[zU a]at h;refine fs VA Tryz.func145 rfl (by kernel_rfl) ?_;simp[Tryz.f145];simp[b];apply rn;simp;exact .done h
theorem Kw{gb:Nat}{X:adL}(b:σ gb=some (.cells X)){way:adG}{k:Int}(j:way.length<=100)(h:∀σ',σ.Le σ'->KF (.val (ints (jL way k))) σ'):aA prog m 109 [ints way,int k] σ KF:=by
 refine fs [] Tryz.func109 rfl (by kernel_rfl) ?_;simp[Tryz.f109];refine cf Tryz.func49 rfl (rv (by omega) ?_);apply rn;simp;refine cf Tryz.func86 rfl (On (I:=λσ'=>σ' gb=some (.cells X)) (mb:=gb) ⟨λh d=>d _ _ h (λ_ q=>by cases q),λh e q=>by simp_all⟩ (by grind) rfl (λx a σ K f g=>dp Tryz.func145 rfl rfl rfl (Kv (k:=k) (ry a) (g σ f (.refl _ _)))) b λσ' l i=>?_);apply rn;simp;refine .done (h σ' λc x a=>?_);by_cases e:c=gb
 . simp_all
 . exact i c x a e
def E5(f:Fr)(way:adG)(k:Int):Bool:=decide (jJ f (jL way k)=0)
def hQ(f:Fr):Nat->adG->Nat->acW
 |0,way,_=>[way]
 |n+1,way,many=>(List.range (min (many+1) f.aR.toNat)).flatMap λ(k:Nat)=>if E5 f (way++[(k:Int)]) k then hQ f n (way++[(k:Int)]) (max many (k+1))else[]
theorem Kx{f:Fr}{way:adG}{k:Int}(g:way.length+1<=f.aD.length)(i:f.aD.length<=6):Sm f (jL (way++[k]) k)/\(jL (way++[k]) k).length<20:=by
 have a:(jL (way++[k]) k).length<20:=by
  unfold jL
  grind
 refine⟨⟨?_,by omega⟩,a⟩
 have b:jL (way++[k]) k≠[]:=λe=>by
  have:(way.length:Int)∈jL (way++[k]) k:=aaZ.2 ⟨aaL.2 ⟨way.length,aax.2 (by simp),rfl⟩,by simp[sG]⟩
  simp_all
 have j:=tZ f (jL (way++[k]) k) none (λx c=>by
  have:=ry (aaZ.1 c).1
  grind) ((List.pairwise_map.2 (List.pairwise_lt_range.imp λh=>by omega)).filter _) (λq d=>by cases d)
 unfold u'
 simp_all
abbrev Oz(f:Fr)(y:AV)(gb:Nat):AV:=.fn (.func 107) [] [.cp (cz f) 0,.cp y 0,.ref gb 0]
theorem OA{f:Fr}(E:f.Good){y:AV}(G:y.cells=[y]/\y.flat=true){gb:Nat}{Wn:acW}{I:Nat->adJ}(H:∀k σ σ',I k σ->σ.Le σ'->I k σ')(v:∀k σ,I k σ->σ gb=some (.cells [Oz f y gb]))
 (hy:∀k (w:k<Wn.length) (σ:aa) (K:adl),I k σ->(∀σ',I (k+1) σ'->K (.val (bool true)) σ')->bI prog m y [ints Wn[k]] σ K):
 ∀(n:Nat) (way:adG) (many:Nat) (pre post:acW) (σ:aa) (KF:adl),way.length+n=f.aD.length->many<=6->Wn=pre++hQ f n way many++post->I pre.length σ->(∀σ',I (pre.length+(hQ f n way many).length) σ'->KF (.val (bool true)) σ')->aA prog m 107 [ints way,int many,.cp (cz f) 0,.cp y 0,.ref gb 0] σ KF:=by
 have h6:=E.pJ;intro n
 induction n with
 | zero=>
   intro way many pre post σ KF hn hm F J h;have p:way.length=f.aD.length:=by omega
   refine fs Rg Tryz.func107 rfl (by kernel_rfl) ?_
   simp[Tryz.f107];simp[p,aH,G];have w:pre.length<Wn.length:=by rw[F];simp[hQ]
   have he:Wn[pre.length]=way:=by subst F;simp[hQ]
   rw[<-he];refine hy _ w _ _ J λσ' q=>?_
   apply rn;simp;exact .done (h σ' (by simpa[hQ]using q))
 | succ n L=>
   intro way many pre post σ KF hn hm F J h;have p:((way.length:Int)==f.aD.length)=false:=by simp;omega
   have a8:=E.aR;obtain⟨B,hB⟩:∃B:Nat,(if f.aR<(many:Int)+1 then f.aR else(many:Int)+1)=(B:Int):=⟨min (many+1) f.aR.toNat,by omega⟩
   have M:min (many+1) f.aR.toNat=B:=by omega
   obtain⟨d,b⟩:∃d:Nat->acW,∀k,d k=(List.range k).flatMap λ(k:Nat)=>if E5 f (way++[(k:Int)]) k then hQ f n (way++[(k:Int)]) (max many (k+1))else[]:=⟨_,λk=>rfl⟩
   have N:hQ f (n+1) way many=d B:=by rw[b,<-M];rfl
   have O:∀k:Nat,d (k+1)=d k++if E5 f (way++[(k:Int)]) k then hQ f n (way++[(k:Int)]) (max many (k+1))else[]:=λk=>by rw[b,b,aaO,abN,acH]
   have x:∀k:Nat,k<=B->∃t,d B=d k++t:=λk w=>by
    refine⟨(List.range' k (B-k)).flatMap λ(k:Nat)=>if E5 f (way++[(k:Int)]) k then hQ f n (way++[(k:Int)]) (max many (k+1))else[],?_⟩
    rw[b,b,<-List.flatMap_append,abQ,abQ];congr 1;rw[show List.range' k (B-k)=List.range' (0+k) (B-k)by grind,List.range'_append_1,Nat.add_sub_cancel' w]
   rw[N]at F h;refine fs Rg Tryz.func107 rfl (by kernel_rfl) ?_
   simp[Tryz.f107];simp[p,aH,hB];refine⟨by omega,?_⟩
   refine af.loop B (λk s=>∃env σ',s=⟨env,σ',[],.no⟩/\(env 0=ints way/\env 1=int many/\env 2=.cp (cz f) 0/\env 3=.cp y 0/\env 4=.ref gb 0/\env 25=int B/\env 26=int k)/\I (pre.length+(d k).length) σ') ⟨_,_,rfl,by simp,by simpa[b]using J⟩ ?_
   rintro c0 k _ w ⟨env,σ',rfl,⟨P,Q,R,e3,S,r,g⟩,u⟩ ih
   apply rn;simp[r,g];apply aH.intro<;>intro g1<;>simp at g1<;>simp[P,g,g1]
   . have T:=v _ _ u
     refine pX lay rfl dD rfl rD (es:=way.map int) (sp:=.any) (l:=0) (h:=way.length) (by simp) (λcap a7=>⟨⟨⟨.i64,by simp⟩,by grind⟩,⟨⟨.i64,by simp⟩,aaE _⟩,rfl⟩) (by simp) λb2 z=>?_
     have A:Tok σ' σ' b2 1 (way.map int):=by
      rw[acg,abt (by simp)]at z
      rcases z with rfl|⟨e,rfl⟩
      . exact .exact _ _ _
      . rw[e];exact .nil _ _
     apply rn;simp;refine aN lay rfl rfl rfl dD rfl dD rfl rD (by decide) (by simp only[aaP,aaW,abx];omega) (σ0:=σ') (es:=way.map int) (xs:=[int k]) (by simpa using A) (.inr ⟨_,rfl⟩) λa2 a9 i=>?_
     have U:way.map int++[int k]=(way++[(k:Int)]).map int:=by rw[aaN];rfl
     rw[U]at i;refine af.Jb 37 (a':=ints (way++[(k:Int)])) (show AV.W a2 _ from i.W) ?_
     obtain⟨nx,C⟩:∃nx,nx=way++[(k:Int)]:=⟨_,rfl⟩;have c:=Kx (f:=f) (way:=way) (k:=(k:Int)) (by omega) h6
     have ab:nx.length=way.length+1:=by rw[C];simp
     have j:=O k;rw[<-C]at c j ⊢;apply rn;simp[R];refine cf Tryz.func109 rfl (Kw (i.1 _ _ T) (by omega) λD q5=>?_)
     apply pg;simp;refine cf Tryz.func108 rfl (Sv E.fits E.C7 c.1 c.2 ?_);apply pg;simp;have V:=H _ _ _ u (aa.le_trans i.1 q5);have X:=v _ _ V;cases o:E5 f nx k with
     |false=>have a:=o;unfold E5 at a;rw[o]at j;rw[a];apply rn;simp[g,aH];refine⟨by omega,ih _ (by omega) ⟨_,D,rfl,by simp[P,Q,R,e3,S,r],by grind⟩⟩
     | true=>
       have a:=o;unfold E5 at a;rw[o,aaB rfl]at j;rw[a];apply rn;simp[Q,S,X];refine⟨by omega,?_⟩
       have Y:(if(many:Int)<(k:Int)+1 then(k:Int)+1 else(many:Int))=((max many (k+1):Nat):Int):=by omega
       rw[Y];obtain⟨t,ht⟩:=x (k+1) (by omega)
       refine dp Tryz.func107 rfl rfl rfl (L nx (max many (k+1)) (pre++d k) (t++post) D _ (by omega) (by omega) (by grind) (by grind) λZ q6=>?_)
       apply rn;simp[g,aH];refine⟨by omega,ih _ (by omega) ⟨_,Z,rfl,by simp[P,Q,R,e3,S,r],by rw[j];simpa[Nat.add_assoc]using q6⟩⟩
   . have ek:k=B:=by omega
     subst ek;exact .done (h σ' u)
theorem Ky{f:Fr}(n:f.Good){y:AV}(g:y.cells=[y]/\y.flat=true){I:Nat->adJ}(b:∀k σ σ',I k σ->σ.Le σ'->I k σ')
 (o:∀k (j:k<(hQ f f.aD.length [] 0).length) (a:aa) (K:adl),I k a->(∀σ',I (k+1) σ'->(∀d x,σ d=none->a d=some x->σ' d=some x)->K (.val (bool true)) σ')->bI prog m y [ints (hQ f f.aD.length [] 0)[k]] a K)
 (p:I 0 σ) (h:∀σ',I (hQ f f.aD.length [] 0).length σ'->KF (.val (.ck [])) σ'):aA prog m 106 [y,.cp (cz f) 0] σ KF:=by
 refine fs [] Tryz.func106 rfl (by kernel_rfl) ?_;simp[Tryz.f106];refine⟨by simp_all,?_⟩;refine bK.intro λgb i=>?_
 simp;refine dp Tryz.func107 rfl rfl rfl (aA.xD (OA n g (gb:=gb) (Wn:=hQ f f.aD.length [] 0) (I:=λk σ'=>I k σ'/\σ' gb=some (.cells [Oz f y gb])) (λk σ σ' q l=>⟨b _ _ _ q.1 l,l _ _ q.2⟩) (λk σ q=>q.2) (λk j a K q r=>o k j a K q.1 λσ' s t=>r σ' ⟨s,t _ _ i q.2⟩) f.aD.length [] 0 [] [] _ _ (by simp) (by omega) (by simp) ⟨b _ _ _ p ?_,aa.an _ _ _⟩ λσ' q=>?_) (.cons (fa 1) (.refl _)))
 . exact λc x u=>(aa.ai _ _ λe=>by simp_all).trans u
 . apply rn
   simp;exact .done (h σ' (by simp_all))
theorem OB{f:Fr}(h:KF (.val (.fn (.func 106) [] [.cp (cz f) 0])) σ):aA prog m 64 [cz f] σ KF:=by
 refine fs [] Tryz.func64 rfl (by kernel_rfl) ?_;simp[Tryz.f64];exact .done h
def oq(w:bY):Fr:=dk w (aB (kE w 72)) (aB (kC w 72))
def eE(w:bY):acW:=hQ (oq w) (oq w).aD.length [] 0
def ia(w:bY)(c:Int):Int:=w.fair.aD.length+mJ (aB (kC w 72)) c
def zT(w:bY)(at_:Int)(x:adG):Bool:=decide (x[at_.toNat]?.getD 0∈x.take w.fair.aD.length)
def eS(w:bY)(c:Int):Int:=if(eE w).any (zT w (ia w c)) && (eE w).any (λx=>!zT w (ia w c) x)then 3 else if(eE w).any (zT w (ia w c))then 1 else 2
theorem E6(f:Fr):∀(n:Nat) (way:adG) (many:Nat),∀x∈hQ f n way many,x.length=way.length+n
 | 0,way,many,x,a=>by
   have:x=way:=by simpa[hQ]using a
   simp_all
 | n + 1,way,many,x,a=>by
   simp only[hQ,abC]at a;obtain⟨k,_,h⟩:=a;split at h
   . have:=E6 f n _ _ x h
     grind
   . cases h
theorem Kz{P Q:Prop}(f:P->Q)(p:P):Q:=f p
theorem v8(hs:m.solo=true){w:bY}(hw:w.qG)(hO:w.Open){c:Nat}(v:c<3)(ax:cd w c<=72->0<=mJ (aB (kC w 72)) c/\ia w c<(oq w).aD.length/\w.fair.aD.length<=(oq w).aD.length)(he:fh w [] [] [(c:Int)]=0)
 (N:if 72<cd w c then KF (.val (.ck [int 0,int 11])) σ else KF (.val (.ck [int (eS w c),int 0])) σ):aA prog m 30 [dB w,int c] σ KF:=by
 have hW:Wl [dB w,nF,nF,.sl 1 [int c] .exact] [dB w,ints [],ints [],ints [(c:Int)]]:=Rt (.refl _) (fa 1) (fa 1) (gy 1 _ _);have h6:=hO.pJ;have C:=hO.bk 72;refine fs Vw Tryz.func30 rfl (by kernel_rfl) ?_
 simp[Tryz.f30];refine bP Tryz.func41 rfl rfl hW (kH hs hw (by simp) (λq=>absurd he q) λq D fb mb hk=>?_)
 have g:=hk.less (.refl mb D);apply rn;simp;refine cf Tryz.func55 rfl (qI v ?_)
 by_cases E:72<cd w c
 . rw[aaB E]at N
   simp only[E,aaA];apply rn;simp;refine dU lay rfl AI rfl (isNil:=false) (.inr ⟨⟨_,_,rfl⟩,rfl⟩) (.inr ⟨rfl,rfl⟩) ?_;apply rn;simp[aH];exact .less g (.done N)
 . rw [aay E]at N
   simp only[E,Rp];apply rn;simp;refine dU lay rfl AI rfl (isNil:=true) (.inl ⟨rfl,rfl⟩) (.inr ⟨rfl,rfl⟩) ?_;apply rn;simp[aH];refine cf Tryz.func59 rfl (CK.A9 h6.1 h6.2 ?_);refine af.runN lay [] 3 ?_;simp;refine bK.intro λeb ay=>?_
   simp
   change af _ _ _ _ _ _ _ _ _
   refine af.bq 10 (b:=eb) (GP w 72) (aa.an _ _ _) (by simp) rfl ?_
   rw[ew ay];have aC:(AV.lit (.int .u8 (aT (cR w 72))))=u8 (kC w 72):=rfl;apply rn;simp[aC];have J:=ax (by omega)
   have b8:=mq (kC w 72);have b9:(oq w).aD.length<=6:=C.n8.pJ;obtain⟨A,hA⟩:∃A:Nat,ia w c=(A:Int):=⟨(ia w c).toNat,by unfold ia at J ⊢;omega⟩
   rw[hA]at J;have U:=hA;unfold ia at U;have aE:(A:Int)<=9223372036854775807/\-9223372036854775808<=(A:Int):=by omega
   have V:(aB (kC w 72)).length<1152921504606846976:=by omega
   apply Kz
   . intro key
     repeat' first
      |refine⟨?_,?_⟩
      |(refine cf Tryz.func60 rfl (nf ?_);apply pg;simp)
      |(refine cf Tryz.func63 rfl (Eh V ?_);apply pg;simp[U,aE])
      |(refine uG.intro λab aL=>?_;simp)
     iterate 3
      refine af.bq 11 (b:=ab) (int A) (aa.an _ _ _) (by simp) rfl ?_
      rw[ew aL];refine af.gX (λe s=>(e 2=.cp (dB w) 0/\e 6=uw fb mb w 0/\e 10=.cp (GP w 72) 0/\e 11=.cp (int A) 0)/\s=D) ⟨by simp,rfl⟩ ?_
      exact key
   rintro env D ⟨⟨e2,e6,cS,cQ⟩,rfl⟩
   apply rn;simp;refine bK.intro λi B=>?_
   simp;refine bK.intro λn o=>?_
   obtain⟨n2,n1,o⟩:=aa.aP o;simp[e6,cS,n1,n2,aa.ai];have aO:(AV.agg [AV.lit (.int .u8 (aT (dS w 72))),AV.lit (.int .u8 (aT (cR w 72)))])=.agg [u8 (kE w 72),u8 (kC w 72)]:=rfl;rw[aO];refine cf Tryz.func65 rfl (CF.EP C.hx C.hy ?_)
   change af _ _ _ _ _ _ _ _ _
   apply rn;simp;refine cf Tryz.func64 rfl (OB ?_);apply rn;simp
   have L:∀X Y Z T,σ.Le ((((D.set i X).set n Y).set i Z).set n T):=λX Y Z T c x hc=>by
    have f:=g c x hc;have F:c≠i:=λe=>by simp_all
    have M:c≠n:=λe=>by simp_all
    rw[aa.ai _ _ M,aa.ai _ _ F,aa.ai _ _ M,aa.ai _ _ F];exact f
   refine af.gX (λe s=>(e 2=.cp (dB w) 0/\e 11=.cp (int A) 0/\e 12=.ref i 0/\e 13=.ref n 0/\e 48=.fn (.func 106) [] [.cp (cz (oq w)) 0])/\σ.Le s/\s i=some (.cells [bool false])/\s n=some (.cells [bool false])) ⟨⟨by simp[e2],by simp[cQ],by simp,by simp,rfl⟩,L _ _ _ _,(aa.ai _ _ n1).trans (aa.an _ _ _),aa.an _ _ _⟩ ?_
   have f1:∀d x,σ d=some x->d≠i:=λd x h e=>by rw[<-e,g d x h]at B;cases B
   have f2:∀d x,σ d=some x->d≠n:=λd x h e=>by rw[<-e,g d x h]at o;cases o
   clear L e2 e6 cS cQ B o g hk
   rintro env s ⟨⟨e2,cQ,eL,W,b0⟩,g,B,o⟩
   refine af.rangeFunc rfl λb5 r l hr E O=>?_
   change s r=none at hr
   change s l=none at E
   have P:i≠l:=λe=>by simp_all
   have Q:n≠l:=λe=>by simp_all
   have r1:i≠r:=λe=>by simp_all
   have r2:n≠r:=λe=>by simp_all
   obtain⟨p,hp⟩:∃p,p=zT w A:=⟨_,rfl⟩
   change bI _ _ (env 48) _ _ _
   rw[b0];generalize a7:nG.mk _ _ _ _ _ _ _ _ _=al;refine dp Tryz.func106 rfl rfl rfl (Ky C.n8 (y:=.fn (.yield l) [] []) ⟨rfl,rfl⟩ (I:=λk a=>a l=some (.loop al)/\a i=some (.cells [bool (((eE w).take k).any p)])/\a n=some (.cells [bool (((eE w).take k).any λx=>!p x)])/\∀d x,(s.set r (.raw (.deferred (some [])))) d=some x->d≠i->d≠n->a d=some x) (λk a bm q h=>⟨h _ _ q.1,h _ _ q.2.1,h _ _ q.2.2.1,λd x f t v=>h _ _ (q.2.2.2 d x f t v)⟩) ?_ ?_ ?_)
   . rintro j hj a K ⟨b1,b2,b3,b4⟩ a8
     change j<(eE w).length at hj
     change bI _ _ _ [ints (eE w)[j]] _ _
     have bw:=E6 (oq w) _ _ _ _ (zG hj);have G:w.fair.aD.length<=(eE w)[j].length/\A<(eE w)[j].length:=by omega
     have R:∀q:adG->Bool,((eE w).take (j+1)).any q=(((eE w).take j).any q||q (eE w)[j]):=λq=>by rw[zD hj,List.any_append];simp
     obtain⟨x,hx⟩:∃x,x=(eE w)[j]:=⟨_,rfl⟩;have S:p x=decide (x[A]?.getD 0∈x.take w.fair.aD.length):=by rw[hp];rfl
     rw[<-hx]at R G ⊢;subst a7;refine bI.uF (hold:=Vw) b5 Tryz.func30 b1 rfl ?_;apply rn;simp[lO];refine af.beginRound b1 rfl ?_;have bA:w.fair.aD.length<=x.length:=G.1;apply rn;simp[e2,cQ,G.2];rw[zU G.2,abn]at S;refine sd lay rfl dD rfl rD (es:=x.map int) (sp:=.any) (l:=0) (h:=w.fair.aD.length) (by simp) (λcap b6=>⟨rfl,⟨⟨.i64,by simp⟩,by grind⟩,rfl⟩) (by simp;omega) ?_
     obtain⟨z,hz⟩:∃z,z=x.take w.fair.aD.length:=⟨_,rfl⟩;have ez:List.take w.fair.aD.length (x.map int)=z.map int:=by rw[hz,List.map_take]
     have bB:z.length<=6:=by grind
     rw[<-hz]at S;simp only[acg,Nat.sub_zero,ez];apply pg;simp;refine cf Tryz.func66 rfl (kF (by omega) ?_)
     apply pg;simp;rw[<-S];have k1:∀X,(a.set l X) i=some (.cells [bool (((eE w).take j).any p)]):=λX=>(aa.ai _ _ P).trans b2
     have k2:∀X,(a.set l X) n=some (.cells [bool (((eE w).take j).any λx=>!p x)]):=λX=>(aa.ai _ _ Q).trans b3
     have b7:=eL
     have H:∀X Y Z e,e=i\/e=n->∀d x,d≠l->d≠i->d≠n->a d=some x->(((a.set l X).set e Y).set l Z) d=some x:=λX Y Z e he d x f t v h=>by rw[aa.ai _ _ f,aa.ai _ _ (by omega),aa.ai _ _ f];exact h
     have a9:∀d x,(((s.set r (.raw (.deferred (some [])))).set l x) d=none)->d≠l/\d≠i/\d≠n:=λd x h=>by
      refine⟨λe=>?_,λe=>?_,λe=>?_⟩
      . rw[e,aa.an]at h;cases h
      . rw[e,aa.ai _ _ P,aa.ai _ _ r1,B]at h;cases h
      . rw[e,aa.ai _ _ Q,aa.ai _ _ r2,o]at h;cases h
     have ad:∀d x,(s.set r (.raw (.deferred (some [])))) d=some x->d≠l:=λd x h e=>by rw[e,aa.ai _ _ (za O),E]at h;cases h
     cases av:p x
     . apply rn
       simp[W,aH,k2];refine⟨rfl,rfl,_,(aa.ai _ _ (za Q)).trans (aa.an _ _ _),?_⟩;refine a8 _ ⟨aa.an _ _ _,(aa.ai _ _ P).trans ((aa.ai _ _ n1).trans ((k1 _).trans (by rw[R p,av,Bool.or_false]))),(aa.ai _ _ Q).trans ((aa.an _ _ _).trans (by grind)),λd y f t v=>H _ _ _ _ (.inr rfl) d y (ad d y f) t v (b4 d y f t v)⟩ λd y f t=>?_
       obtain⟨F,M,m3⟩:=a9 d _ f;exact H _ _ _ _ (.inr rfl) d y F M m3 t
     . apply rn
       simp[eL,aH,k1];refine⟨rfl,rfl,_,(aa.ai _ _ (za P)).trans (aa.an _ _ _),?_⟩;refine a8 _ ⟨aa.an _ _ _,(aa.ai _ _ P).trans ((aa.an _ _ _).trans (by grind)),(aa.ai _ _ Q).trans ((aa.ai _ _ n2).trans ((k2 _).trans (by rw[R λx=>!p x,av,Bool.not_true,Bool.or_false]))),λd y f t v=>H _ _ _ _ (.inl rfl) d y (ad d y f) t v (b4 d y f t v)⟩ λd y f t=>?_
       obtain⟨F,M,m3⟩:=a9 d _ f;exact H _ _ _ _ (.inl rfl) d y F M m3 t
   . exact⟨aa.an _ _ _,(aa.ai _ _ P).trans ((aa.ai _ _ r1).trans (by simp_all)),(aa.ai _ _ Q).trans ((aa.ai _ _ r2).trans (by simp_all)),λd x f t v=>(aa.ai _ _ λe=>by rw[e,aa.ai _ _ (za O),E]at f;cases f).trans f⟩
   . rintro a ⟨b1,b2,b3,b4⟩
     change a i=some (.cells [bool (((eE w).take (eE w).length).any p)])at b2
     change a n=some (.cells [bool (((eE w).take (eE w).length).any _)])at b3
     rw[aaJ]at b2 b3;subst a7;refine⟨_,b1,by simp,rfl,?_⟩
     have u:∀d x,d≠l->a d=some x->(a.del l) d=some x:=λd x f t=>by simp only[aa.del,f,Rp];exact t
     have c1:=u _ _ P b2;have c2:=u _ _ Q b3;have cr:=u _ _ O (b4 _ _ (aa.an _ _ _) (za r1) (za r2));have hv:eS w c=if(eE w).any p && (eE w).any (λx=>!p x)then 3 else if(eE w).any p then 1 else 2:=by rw[hp,<-hA];rfl
     rw[hv]at N;cases ha:(eE w).any p<;>cases hb:(eE w).any (λx=>!p x)<;>rw[ha]at c1 N<;>rw[hb]at c2 N
     all_goals
      apply rn;simp[eL,W,c1,c2,uu,aH];refine⟨cr,.less (λd x h=>?_) (.done (by simpa using N))⟩
      have q1:=g d x h;have F:d≠r:=λe=>by rw[e,hr]at q1;cases q1
      have M:d≠l:=λe=>by rw[e,E]at q1;cases q1
      rw[aa.ai _ _ F];exact u _ _ M (b4 d x ((aa.ai _ _ F).trans q1) (f1 d x h) (f2 d x h))
end
section
open Go.cG Go.Conc
theorem G1(way:adG)(x k:Int):jL (way++[x]) k=jL way k++if x=k then[(way.length:Int)]else[]:=by
 unfold jL;rw[aaF,abw,ui]
 have a:sG (way++[x]) k (way.length:Int)=decide (x=k):=by
  unfold sG
  grind
 rw[a];congr 1
 . refine abK λy b=>?_
   have:=ry b;unfold sG
   grind
 simp_all
theorem wh(way:adG)(k:Int):jL way k=ba way k:=by
 have key:∀n (w:adG),w.length=n->jL w k=ba w k:=λn=>by
  induction n with
  |zero=>intro w h;rw[acd.1 h];rfl
  | succ n b=>
    intro w h;have a:w≠[]:=λe=>by simp_all
    rw[<-List.dropLast_concat_getLast a,G1,cZ,b _ (by simp_all)]
 simp_all
theorem E7{f:Fr}(h:f.Good):∀(n:Nat) (way:adG) (many:Nat),way.length+n=f.aD.length->bu way=many->(many:Int)<=f.aR->(∀x∈way,0<=x)->(∀k:Nat,k<many->jJ f (ba way k)=0)->∀x,x∈hQ f n way many↔x∈sC n way/\na f x=true
 | 0,way,many,o,g,i,p,q,x=>by
   rw[hQ,sC,lb];constructor
   . rintro rfl
     refine⟨rfl,?_⟩;unfold na
     grind
   simp_all
 | n + 1,way,many,o,g,i,p,q,x=>by
   have r:=h.aR
   have step:∀k:Nat,k<many+1->(k:Int)<f.aR->jJ f (ba (way++[(k:Int)]) k)=0->(x∈hQ f n (way++[(k:Int)]) (max many (k+1))↔x∈sC n (way++[(k:Int)])/\na f x=true):=λk l u v=>by
    refine E7 h n _ _ (by simp;omega) (by rw[bF,g];omega) (by omega) (λy w=>?_) (λj z=>?_) x
    . grind
    . by_cases e:j=k
      . simp_all
      . rw[cZ,aay (by omega),abh];grind
   rw[hQ,sC,abC,abC,g];constructor
   . rintro⟨k,b,c⟩
     have b:=aax.1 b;split at c
     . next a=>
       have a:=abM a;rw[wh]at a;have:=(step k (by omega) (by omega) a).1 c;exact⟨⟨k,aax.2 (by omega),this.1⟩,this.2⟩
     . cases c
   . rintro⟨⟨k,b,c⟩,m⟩
     have b:=aax.1 b;obtain⟨t,rfl,A⟩:=ub n _ x c;have l:=iw (way++[(k:Int)]) t;have d:=m;unfold na at d;rw[zj,KD]at d;rw[bF,g]at l;have s:(k:Int)<f.aR:=by omega
     have a:jJ f (ba (way++[(k:Int)]) k)=0:=EA h (t:=t) (by simp;omega) (by rw[bF];omega) (by rw[cZ,aaB rfl];simp) m;refine⟨k,aax.2 (by omega),?_⟩;unfold E5;rw[wh,a,aaB (by simp)]
     simp_all
theorem KA{f:Fr}(a:f.Good)(x:adG):x∈hQ f f.aD.length [] 0↔x∈aI f []:=by
 rw[E7 a f.aD.length [] 0 (by simp) rfl (by have:=a.aR;omega) (by simp) (λk b=>by omega),<-mr a,aaZ];have:=vg f.aD.length 0;rw[show jd 0=[[]]from rfl,abL,acH]at this;rw[this]
section
variable{w:bY}
theorem rB(a:w.Valid)(x:adG):x∈eE w↔x∈aI (jW w 72) []:=by
 have e:oq w=jW w 72:=by unfold oq;rw[a.kE,a.kC]
 unfold eE;rw[e];exact KA (mE a 72) x
theorem OC(a:w.Valid){i:Int}(h:0<=i/\i<w.fair.aD.length):0<=(aS w.fair i).hour/\(aS w.fair i).hour<=72:=(oa ((Fr.n8 a.wD.fits a.wD.C7).sJ _ (ga h))).1
theorem lL(a:w.Valid){h:Int}(b:72<=h):dS w h=pQ w.fair.aD.length:=List.filter_eq_self.2 λi q=>decide_eq_true (by have:=OC a (ry q);omega)
theorem QA{n:Nat}{i:Int}(h:0<=i/\i<n):(pQ n).idxOf i=i.toNat:=by
 have a:i∈pQ n:=aaL.2 ⟨i.toNat,aax.2 (by omega),by omega⟩;obtain⟨b,c⟩:=oe a
 grind
theorem XF{n:Nat}{i:Int}(h:0<=i/\i<n):i∈pQ n:=aaL.2 ⟨i.toNat,aax.2 (by omega),by omega⟩
theorem sH(v:Int):∀(l:adG) (i:Int),v∈l->iI i l v=i+l.idxOf v
 |[],_,h=>by cases h
 | a ::l,i,h=>by
   rw[iI,List.idxOf_cons];by_cases e:a=v
   . simp[e]
   . have:(a==v)=false:=by grind
     rw[aay e,this,sH v l (i+1) ((aaQ.1 h).resolve_left λq=>e q.symm)];simp;omega
theorem qL(a:w.Valid){c:Nat}(b:c<w.aF.length){h:Int}:(c:Int)∈cR w h↔cd w c<=72/\cd w c<=h:=by
 unfold cR pC;rw[aaZ,zj,KD,KD,abA]
 grind
theorem G2(a:w.Valid){c:Nat}(k:c<w.aF.length)(g:cd w c<=72){x:adG}(l:x∈aI (jW w 72) []):zT w (ia w c) x=true↔∃i:Nat,i<w.fair.aD.length/\GS (iA w 72) i ((c:Int)+w.fair.aD.length) x=true:=by
 have m:(c:Int)∈cR w 72:=(qL a k).2 ⟨g,g⟩
 have d:x.length=(jW w 72).aD.length:=by have:=yN (mE a 72) l;exact(od _ _ this).1
 rw[(oo w 72).len,aaF,lL a (abF _),rz,aaP]at d
 have e:ia w c=((iA w 72).idxOf ((c:Int)+w.fair.aD.length):Nat):=by
  unfold ia mJ;rw[a.kC,sH _ _ _ m,Bi (λi q=>(j8 q).2) (by omega),lL a (abF _),rz]
  omega
 have j:∀i:Nat,i<w.fair.aD.length->(iA w 72).idxOf (i:Int)=i:=λi h=>by rw[Bh (by rw[lL a (abF _)];grind),lL a (abF _),QA ⟨by omega,by omega⟩];rfl
 unfold zT;rw[e,KD,abA];unfold GS;obtain⟨p,n⟩:∃p,p=(iA w 72).idxOf ((c:Int)+w.fair.aD.length):=⟨_,rfl⟩;rw[<-n];constructor
 . intro h
   obtain⟨i,f,b⟩:=aaV.1 h;rw[abz]at f;rw[List.getElem_take]at b;refine⟨i,by omega,?_⟩
   unfold gM;simp only[j i (by omega),KD,abA]
   grind
 . rintro⟨i,f,b⟩
   unfold gM at b;simp only[j i f,KD,abA]at b;rw[<-List.getD_eq_getElem?_getD,<-b,zA,zU (show i<x.length by omega)]
   exact aaV.2 ⟨i,by simp_all,List.getElem_take⟩
theorem Ii(a:w.Valid){h i:Int}{c:Nat}(hi:0<=i/\i<6)(b:c<w.aF.length):(c:Int)∈vp w h i↔(i∈dS w h/\(c:Int)∈cR w h)/\∃v∈aI (jW w h) [],GS (iA w h) i ((c:Int)+w.fair.aD.length) v=true:=by
 have:=a.EM.1;unfold vp;rw[aaZ,Qz a hi ⟨by omega,by omega⟩]
 grind
theorem E8(w:bY)(c:Int):eS w c≠2↔∃x∈eE w,zT w (ia w c) x=true:=by
 rw[<-List.any_eq_true];unfold eS
 grind
theorem CE(a:w.Valid){c:Nat}(b:c<w.aF.length):(∃i:Nat,i<w.fair.aD.length/\(c:Int)∈vp w 72 i)↔cd w c<=72/\eS w c≠2:=by
 have l:=a.pJ;rw[E8];constructor
 . rintro⟨i,g,h⟩
   obtain⟨⟨_,j⟩,v,e,k⟩:=(Ii a ⟨by omega,by omega⟩ b).1 h;have d:=((qL a b).1 j).1;exact⟨d,v,(rB a v).2 e,(G2 a b d e).2 ⟨i,g,k⟩⟩
 . rintro⟨d,x,f,j⟩
   have f:=(rB a x).1 f;obtain⟨i,g,e⟩:=(G2 a b d f).1 j;exact⟨i,g,(Ii a ⟨by omega,by omega⟩ b).2 ⟨⟨by rw[lL a (abF _)];grind,(qL a b).2 ⟨d,d⟩⟩,x,f,e⟩⟩
theorem y7{h h':Int}(c:h<=h'):(∀i∈dS w h,i∈dS w h')/\∀i∈cR w h,i∈cR w h':=by
 refine⟨λi q=>?_,λi q=>?_⟩
 . obtain⟨b,a⟩:=aaZ.1 q
   have a:=abM a;exact aaZ.2 ⟨b,decide_eq_true (by omega)⟩
 . obtain⟨b,a⟩:=aaZ.1 q
   unfold pC at a;rw[zj,KD,KD]at a;refine aaZ.2 ⟨b,?_⟩;unfold pC
   grind
theorem G3{h h':Int}(a:h<=h'):∀g∈iA w h,g∈iA w h':=λg q=>by
 obtain⟨b,c⟩:=y7 (w:=w) a
 grind
theorem OD(a:w.Valid){h h':Int}(b:h<=h'){v:adG}(c:v∈aI (jW w h') []):∃u∈aI (jW w h) [],∀g∈iA w h,∀g'∈iA w h,GS (iA w h) g g' u=GS (iA w h') g g' v:=Qx (oo w h') (oo w h) (G3 b) (abF _) (mE a h') (mE a h) c
theorem QB{h i:Int}{c:Int}(q:i∈dS w h/\c∈cR w h):i∈iA w h/\c+w.fair.aD.length∈iA w h:=⟨List.mem_append_left _ q.1,List.mem_append_right _ (aaL.2 ⟨c,q.2,rfl⟩)⟩
theorem KB(b:w.Valid){h h' i c:Int}(d:h<=h')(hi:0<=i/\i<6)(f:0<=c/\c<3)(a:gg w h i c=1):gg w h' i c=1:=by
 rw[E4 b hi f]at a ⊢;obtain⟨g,j⟩:=y7 (w:=w) d;obtain⟨l,m⟩:=QB a.1;refine⟨⟨g _ a.1.1,j _ a.1.2⟩,λv k=>?_⟩;obtain⟨u,n,e⟩:=OD b d k
 grind
theorem zV(a:w.Valid){c:Nat}(e:c<w.aF.length){h i:Nat}(g:h<73)(hi:i<w.fair.aD.length)(d:gg w h i c=1):cd w c<=72/\eS w c=1:=by
 have j:=a.pJ;have k:=a.EM.1;have d:=KB a (h':=72) (by omega) ⟨by omega,by omega⟩ ⟨by omega,by omega⟩ d
 rw[E4 a ⟨by omega,by omega⟩ ⟨by omega,by omega⟩]at d
 have f:=((qL a e).1 d.1.2).1
 have hold:∀x∈eE w,zT w (ia w c) x=true:=λx b=>by have b:=(rB a x).1 b;exact(G2 a e f b).2 ⟨i,hi,d.2 x b⟩
 obtain⟨x,b⟩:=List.exists_mem_of_length_pos (vr a 72);have b:=(rB a x).2 b;have l:(eE w).any (zT w (ia w c))=true:=aba.2 ⟨x,b,hold x b⟩
 have m:(eE w).any (λx=>!zT w (ia w c) x)=false:=by simp_all
 refine⟨f,?_⟩;unfold eS
 simp_all
end
end
section
open Go Go.cG Go.Conc
variable{m:Mo}{σ:aa}{KF:adl}
theorem ot{a b c d e:Int}{l:adG}(h:KF (.val (bs ⟨a,b,c,l,d,e⟩)) σ):aA prog m 37 [int a,int b,int c,int d,int e,ints l] σ KF:=by
 refine fs [] Tryz.func37 rfl (by kernel_rfl) ?_;simp[Tryz.f37];refine bK.intro λk f=>?_
 simp;exact .less (by repeat (first|exact aa.le_refl _|assumption|refine aa.fC ?_ (by assumption)|refine aa.lR ?_ (by assumption))) (.done h)
theorem CG{a b c d e:Int}(h:KF (.val (jR ⟨a,b,c,d,e⟩)) σ):aA prog m 68 [int a,int b,int c,int d,int e] σ KF:=by
 refine fs [] Tryz.func68 rfl (by kernel_rfl) ?_;simp[Tryz.f68];refine bK.intro λk f=>?_
 simp[aK];exact .less (by repeat (first|exact aa.le_refl _|assumption|refine aa.fC ?_ (by assumption)|refine aa.lR ?_ (by assumption))) (.done h)
def OE:adR:=[⟨10,0,1,[0],15,0⟩,⟨12,0,1,[],16,1⟩,⟨14,0,2,[],14,0⟩,⟨16,0,1,[],14,0⟩]
def y8:List Way:=[⟨0,1,4,6,20⟩,⟨1,2,1,0,72⟩,⟨2,0,2,0,72⟩]
def V3:Fr:=⟨OE,[[0,2],[2,0]],1,2,3,3⟩
def V4:Kg:=⟨⟨4,1,1,[0],15,0⟩,1,5⟩
def lW(n:Nat):bY:=⟨V3,3,y8.take n,[V4]⟩
theorem Bj{n:Nat}(z:n<=3)(h:KF (.val (dB (lW n))) σ):aA prog m 32 [int n] σ KF:=by
 have v:∀a b c d e:Int,∀l:adG,Wl [int a,int b,int c,int d,int e,.sl 1 (l.map int) .exact] [int a,int b,int c,int d,int e,ints l]:=λa b c d e l=>.cons (.refl _) (.cons (.refl _) (.cons (.refl _) (.cons (.refl _) (.cons (.refl _) (.cons (gy 1 _ .exact) .nil)))))
 have r:∀a b c d e:Int,Wl [int a,int b,int c,int d,int e,.lit (.slice none 0 0)] [int a,int b,int c,int d,int e,ints []]:=λa b c d e=>.cons (.refl _) (.cons (.refl _) (.cons (.refl _) (.cons (.refl _) (.cons (.refl _) (.cons (fa 1) .nil)))))
 refine fs Xq Tryz.func32 rfl (by kernel_rfl) ?_
 simp[Tryz.f32];refine bK.intro λwb t=>?_
 simp;refine bP Tryz.func37 rfl rfl (v 10 0 1 15 0 [0]) (ot ?_);apply rn;simp;refine bP Tryz.func37 rfl rfl (r 12 0 1 16 1) (ot ?_);apply rn;simp;refine bP Tryz.func37 rfl rfl (r 14 0 2 14 0) (ot ?_);apply rn;simp;refine bP Tryz.func37 rfl rfl (r 16 0 1 14 0) (ot ?_);refine af.runN lay [] 9 ?_;simp[aK];refine bK.intro λfb j=>?_
 obtain⟨A,B,w⟩:=aa.aP j;simp[aK]
 change af _ _ _ _ _ _ _ _ _
 refine af.bq 3 (b:=fb) (.agg [.sl 6 (OE.map bs) .exact,.sl 1 [.sl 1 [int 0,int 2] .exact,.sl 1 [int 2,int 0] .exact] .exact,int 1,int 2,int 3,int 3]) (aa.an _ _ _) (by simp) rfl ?_
 rw[ew j];apply rn;simp;refine cf Tryz.func68 rfl (CG ?_);apply rn;simp;refine cf Tryz.func68 rfl (CG ?_);apply rn;simp;refine cf Tryz.func68 rfl (CG ?_);apply rn;simp;obtain⟨L,x⟩:∃L,L=(y8.take n).map jR:=⟨_,rfl⟩;have u:((y8.map jR).drop 0).take (n-0)=L:=by simp_all
 have ZF:(σ.set wb (.cells [.nil,.nil,int 0,int 0,int 0,int 0,int 0,.nil,.nil])) wb=some (.cells [.nil,.nil,int 0,int 0,int 0,int 0,int 0,.nil,.nil]):=aa.an _ _ _;have k:n<=(y8.map jR).length:=by simp[y8];omega
 apply Kz
 . intro key
   repeat' first
    |refine⟨?_,?_⟩
    | (refine sd lay rfl Sl rfl Vn (es:=y8.map jR) (sp:=.exact) (l:=0) (h:=n) (by simp[y8]) (λcap o=>⟨rfl,⟨⟨.i64,by simp⟩,aaG k o⟩,rfl⟩) k ?_
       rw[u];apply pg;simp[aK])
    | (refine bP Tryz.func37 rfl rfl (v 4 1 1 15 0 [0]) (ot ?_)
       apply pg;simp[aK])
   all_goals
    refine af.gX (λe s=>e 2=.ref wb 0/\s=σ.set wb (.cells [.sl 6 (OE.map bs) .exact,.sl 1 [.sl 1 [int 0,int 2] .exact,.sl 1 [int 2,int 0] .exact] .exact,int 1,int 2,int 3,int 3,int 3,.sl 5 L .any,.sl 8 [iy V4] .exact])) ⟨by simp,rfl⟩ ?_
    exact key
 rintro env _ ⟨y,rfl⟩
 apply rn;simp[y]
 have p:(AV.sl 1 [AV.sl 1 [int 0,int 2] .exact,.sl 1 [int 2,int 0] .exact] .exact).W (rows [[0,2],[2,0]]):=VU rfl (λa q=>by simp at q;rcases q with rfl|rfl<;>rfl) (λa q=>by simp at q;rcases q with rfl|rfl<;>rfl) (λi a a' f g=>by
  match i with
  |0=>simp at f g;subst f;subst g;exact gy 1 [int 0,int 2] .exact
  |1=>simp at f g;subst f;subst g;exact gy 1 [int 2,int 0] .exact
  |i+2=>simp at f)
 refine .less (aa.fC (aa.le_refl _) t) (.pM (a':=dB (lW n)) (qy rfl λi a a' f g=>?_) (.done h))
 match i with
 |0=>cases f;cases g;exact gy 6 _ .exact
 |1=>cases f;cases g;exact p
 |2=>cases f;cases g;exact .refl _
 |3=>cases f;cases g;exact .refl _
 |4=>cases f;cases g;exact .refl _
 |5=>cases f;cases g;exact .refl _
 |6=>cases f;cases g;exact .refl _
 |7=>cases f;cases g;rw[x];exact .refl _
 |8=>cases f;cases g;exact gy 8 _ .exact
 |i+9=>cases f
end
section
open Go Go.cG Go.Conc
def Ij(f:Fr):Bool:=decide (f.aD.length<100) && decide (f.roads.length<100) && f.roads.all (λr=>decide (r.length<100)) && f.aD.all (λe=>decide (e.marks.length<100))
theorem zc{f:Fr}(h:Ij f=true):f.Fits:=by simp only[Ij,zj,KD,aaD]at h;obtain⟨⟨⟨a,b⟩,c⟩,d⟩:=h;exact⟨by omega,by omega,λr g=>by grind,λe i=>by grind⟩
def E9(f:Fr):Bool:=Ij f && decide (check f=0)
theorem OF{f:Fr}(h:E9 f=true):f.Good:=by simp only[E9,zj,KD]at h;exact Fr.n8 (zc h.1) h.2
def py(h:Int):Int:=if h<0 then -1 else if 72<h then 72 else h
theorem OG(h:Int):∃k:Nat,k<74/\py h=(k:Int)-1:=by refine⟨(py h+1).toNat,?_,?_⟩<;>(unfold py;split<;>(try split)<;>omega)
def G4(w:bY):Bool:=(pQ w.fair.aD.length).all (λi=>decide (0<=(aS w.fair i).hour) && decide ((aS w.fair i).hour<=72)) && (pQ w.aF.length).all λi=>decide (0<=cd w i.toNat)
theorem Fa{w:bY}(a:G4 w=true)(h:Int):kE w h=kE w (py h)/\kC w h=kC w (py h):=by
 simp only[G4,zj,aaD,KD]at a
 have c:dS w h=dS w (py h):=abK λx b=>by
  have:=a.1 x b;unfold pE py
  grind
 have d:cR w h=cR w (py h):=abK λx b=>by
  have:=a.2 x b;unfold pC py
  grind
 grind
def XG(w:bY)(p:Int × Int):Bool:=(aB p.1).all (λi=>decide (0<=i) && decide (i<w.fair.aD.length)) && (aB p.2).all (λi=>decide (0<=i) && decide (i<w.aF.length)) && E9 (dk w (aB p.1) (aB p.2)) && decide (aI (dk w (aB p.1) (aB p.2)) []≠[])
theorem V5{w:bY}{p:Int × Int}(h:XG w p=true):w.Bk p.1 p.2:=by simp only[XG,zj,aaD,KD]at h;exact⟨h.1.1.1,h.1.1.2,OF h.1.2,h.2⟩
def Ru(w:bY)(L:acV):Bool:=decide (w.fair.aD.length<=6) && decide (w.aF.length<=3) && G4 w && (List.range 74).all (λk=>L.contains (kE w ((k:Int)-1),kC w ((k:Int)-1))) && L.all (XG w)
theorem CH{w:bY}{L:acV}(h:Ru w L=true):w.Open:=by
 simp only[Ru,zj,aaD,KD]at h;refine⟨⟨h.1.1.1.1,h.1.1.1.2⟩,λt=>?_⟩;obtain⟨a,b⟩:=Fa h.1.1.2 t;obtain⟨k,c,ek⟩:=OG t;rw[a,b,ek];exact V5 (p:=(kE w ((k:Int)-1),kC w ((k:Int)-1))) (h.2 _ (by grind))
def Rv(w:bY):Bool:=E9 w.fair && w.aF.all (λc=>Ij (lone w.fair c.lost) && decide (check (lone w.fair c.lost)=0)) && decide (w.ways.length<100) && decide (w.aF.length<100)
theorem Ik{w:bY}(h:Rv w=true):w.qG:=by simp only[Rv,E9,zj,aaD,KD]at h;obtain⟨⟨⟨⟨d,e⟩,a⟩,f⟩,g⟩:=h;exact⟨zc d,e,λc b=>⟨zc (a c b).1,(a c b).2⟩,by omega,by omega⟩
theorem QC:(lW 2).qG/\(lW 3).qG:=⟨Ik (by decide +kernel),Ik (by decide +kernel)⟩
theorem Il:(lW 2).Open/\(lW 3).Open:=⟨CH (L:=[(0,0),(0,1),(1,0),(1,1),(3,1),(7,1),(15,1)]) (by decide +kernel),CH (L:=[(0,0),(0,1),(1,1),(3,1),(7,1),(15,1)]) (by decide +kernel)⟩
end
section
open Go Go.cG Go.Conc
variable{m:Mo}{σ:aa}{KF:adl}
theorem SJ:HW prog 26 3:=.of (by kernel_rfl) (by kernel_rfl) (by kernel_rfl) (by kernel_rfl)
namespace SR
abbrev XH:adv:=[⟨4,.take [0,1,2,3,4,5,6,7] false (.one 8 (.done))⟩]
theorem zW{a b:acV}(A:a.length<1152921504606846976)(hb:b.length<1152921504606846976)(h:KF (.val (bool (decide (a=b)))) σ):aA prog m 35 [px a,px b] σ KF:=by
 refine fs XH Tryz.func35 rfl (by kernel_rfl) ?_;simp[Tryz.f35];refine af.loop a.length (λk s=>∃env,s=⟨env,σ,[],.no⟩/\env 0=px a/\env 1=px b/\env 5=int k/\k<=b.length/\a.take k=b.take k) ⟨_,rfl,by simp⟩ ?_;rintro B k _ C ⟨env,rfl,g,l,i,r,o⟩ t;apply rn;simp[g,i];refine uu.intro (λf=>?_) (λf=>?_)<;>(try simp[-Nat.not_lt,-Nat.not_le]at f)<;>(try simp[g,l,i,f])
 . refine aH.intro (λj=>?_) (λj=>?_)<;>(try simp[-Nat.not_lt,-Nat.not_le]at j)<;>(try simp[g,l,i,j,f])
   . obtain⟨x,u⟩:∃x,x=a[k]:=⟨_,rfl⟩
     obtain⟨y,v⟩:∃y,y=b[k]:=⟨_,rfl⟩;simp only[<-u,<-v];refine Je lay SJ rD rfl rfl (a:=x.1) (b:=x.2) (c:=y.1) (d:=y.2) (by simp) (by simp) (.inr ⟨rfl,rfl⟩) ?_;have w:(!(x.1==y.1 && x.2==y.2))=!decide (x=y):=by grind
     rw[w];by_cases p:x=y
     . apply pg
       simp[p];apply rn;simp[i];have z:a[k]=b[k]:=by simp_all
       refine⟨by omega,t _ f ⟨_,rfl,by simp[g],by simp[l],by simp,by omega,?_⟩⟩;rw[zD f,zD j,o,z]
     . have:a≠b:=λe=>by simp_all
       simp[this]at h;apply pg;simp[p];apply rn;simp;exact .done h
   . have:a≠b:=λe=>by simp_all
     have n:((a.length:Int)==b.length)=false:=by grind
     rw[n];exact .done (by simp_all)
 . have:k=a.length:=by omega
   subst this;rw[aaJ]at o;by_cases e:a.length=b.length
   . have:a=b:=by grind
     exact .done (by grind)
   . have:a≠b:=λq=>e (by rw[q])
     have n:((a.length:Int)==b.length)=false:=by grind
     rw[n];exact .done (by grind)
end SR
theorem OH:fh (lW 3) [] [] [0]=0/\fh (lW 3) [14] [] []=0/\fh (lW 3) [] [1] []=0/\fh (lW 2) [] [] []=0/\fh (lW 3) [] [] []=0:=by decide +kernel
theorem QD:cd (lW 3) 0=8/\mD (lW 3) 14=[0,1]/\cu (lW 3) 1=[(12,15)]/\je (lW 2) (lW 2).fair.aD.length=67/\Ie (lW 3)=[0]:=by decide +kernel
theorem OI:gg (lW 3) 16 0 0=1/\((List.range 16).all λh=>(List.range 4).all λ(i:Nat)=>decide (gg (lW 3) (h:Nat) i 0≠1))=true:=by decide +kernel
theorem SK:∀l:adG,(∀c∈l,0<=c/\c<((lW 3).aF.length:Int))->l.length<=(lW 3).aF.length->((lW 3).only l).Open:=λl d g=>by
 have f:l=[]\/l=[0]:=by
  match l with
  |[]=>simp_all
  | [a]=>
    have:=d a (by simp);have e:(lW 3).aF.length=1:=rfl
    grind
  | a::b::t=>
    have e:(lW 3).aF.length=1:=rfl
    simp_all
 rcases f with rfl|rfl
 . exact CH (L:=[(0,0),(1,0),(3,0),(7,0),(15,0)]) (by decide +kernel)
 . exact Il.2
theorem G5:(∀h i:Nat,h<73->i<(lW 3).fair.aD.length->foundAt (lW 3) 0 h i->h=16/\i=0)/\¬(∀h' a:Nat,h'<73->a<(lW 3).fair.aD.length->gg (lW 3) h' a 0≠1):=by
 obtain⟨f1,b⟩:=OI;have e:(lW 3).fair.aD.length=4:=rfl;refine⟨λh i g j c=>?_,λq=>q 16 0 (by omega) (by omega) f1⟩;simp only[aaD,KD,aax]at b;by_cases d:h<16
 . exact absurd c.1 (b h d i (by omega))
 . by_cases f:h=16/\i=0
   . exact f
   . exact absurd f1 (c.2 16 0 (by omega) (by omega))
theorem OJ(d:m.solo=true)(h:KF (.val (bool true)) σ):aA prog m 16 [] σ KF:=by
 have e:∀(σ:aa) (KF:adl),KF (.val (dB (lW 3))) σ->aA prog m 32 [int 3] σ KF:=λσ KF h=>Bj (n:=3) (by decide) h
 have k:∀(σ:aa) (KF:adl),KF (.val (dB (lW 2))) σ->aA prog m 32 [int 2] σ KF:=λσ KF h=>Bj (n:=2) (by decide) h
 obtain⟨j,l,o,p,r⟩:=OH;obtain⟨s,t,u,v,w⟩:=QD;obtain⟨f1,x⟩:=G5;obtain⟨y,f⟩:=QC;obtain⟨z,g⟩:=Il;have sub:=SK;generalize lW 3=A at *;generalize lW 2=B at *;refine fs [] Tryz.func16 rfl (by kernel_rfl) ?_;simp[Tryz.f16];refine cf Tryz.func32 rfl (e _ _ ?_);apply rn;simp;refine cf Tryz.func22 rfl (ni d f (c:=0) (by decide) j ?_);rw[s,aay (by decide)];apply rn;simp;refine cf Tryz.func32 rfl (e _ _ ?_);apply rn;simp;refine cf Tryz.func11 rfl (Oq d f g (λq=>absurd l q) λ_=>?_);rw[t];apply rn;simp;refine cf Tryz.func32 rfl (e _ _ ?_);apply rn;simp;refine cf Tryz.func23 rfl (Km d f g (by decide) (λq=>absurd o q) λ_=>?_);rw[u];apply rn;simp;refine cf Tryz.func32 rfl (e _ _ ?_);apply rn;simp;refine cf Tryz.func31 rfl (vq d f g (by decide) j (λh i C D E=>?_) λq=>absurd q x)
 obtain⟨rfl,rfl⟩:=f1 h i C D E;apply rn;simp;refine cf Tryz.func32 rfl (k _ _ ?_);apply rn;simp;refine cf Tryz.func25 rfl (Ko d y z p ?_);rw[v];apply rn;simp;refine cf Tryz.func32 rfl (e _ _ ?_);apply rn;simp;refine cf Tryz.func12 rfl (GX d f g sub r ?_);rw[w];apply rn;simp;refine bP Tryz.func15 rfl rfl (.cons (.refl _) (.cons (gy 1 [int 0,int 1] .exact) .nil)) (vT (a:=[0,1]) (b:=[0,1]) (by simp) (by simp) ?_);apply rn;simp;refine bP Tryz.func35 rfl rfl (.cons (.refl _) (.cons (gy 2 [kR (12,15)] .exact) .nil)) (SR.zW (a:=[(12,15)]) (b:=[(12,15)]) (by simp) (by simp) ?_);apply rn;simp;refine bP Tryz.func15 rfl rfl (.cons (.refl _) (.cons (gy 1 [int 0] .exact) .nil)) (vT (a:=[0]) (b:=[0]) (by simp) (by simp) ?_);apply rn;simp;exact .done h
end
section
open Go.cG Go.Conc
variable{m:Mo}{σ:aa}{KF:adl}
theorem zd{P:adS}{m:Mo}{fid n:Nat}{ro:adw}{hold:adv}{K:cG.Exit->St->Prop}{todo:adD}{D:adO}{rc:Rec}{G:Prop}(I:adh)
 (a:(∀env σ,I env σ->af P m fid n ro hold todo ⟨env,σ,D,rc⟩ K)->G) (b:∀env σ,I env σ->af P m fid n ro hold todo ⟨env,σ,D,rc⟩ K):G:=a b
end
section
open Go Go.cG Go.Conc
variable{m:Mo}{σ:aa}{KF:adl}
section
variable{c k:Nat}{nums:adG}
namespace WY
abbrev XI:adv:=[⟨2,.take [0,2,3,4,7,9] false (.both 1 (.one 5 (.take [6,8] true (.one 10 (.done)))) (.one 5 (.take [1,6,8] true (.one 10 (.done)))))⟩]
theorem SL{a b t:Int}(c:2<=t/\t<=4)(d:0<=a/\a<t)(hb:1<=b/\b<t):0<=(a+b).tmod t/\(a+b).tmod t<t/\(a+b).tmod t≠a:=by
 rw[Int.tmod_eq_emod_of_nonneg (by omega)];have:t=2\/t=3\/t=4:=by omega
 grind
theorem OK{a t:Int}(b:2<=t/\t<=4):pL .rem .i64 a t=some (.int .i64 (a.tmod t)):=by simp[pL];omega
theorem OL{t:Int}(hk:k+7<1000000)(H:nums.length<1152921504606846976)(ht:2<=t/\t<=4)(hb:bj c nums k σ)(h:∀(x:Way) σ',qF t x=0->pP c nums (k+7) σ σ'->KF (.val (jR x)) σ'):aA prog m 21 [.ref c 0,int t] σ KF:=by
 obtain⟨n0,s0,_,a7⟩:=id hb;refine fs XI Tryz.func21 rfl (by kernel_rfl) ?_
 simp[Tryz.f21];refine bK.intro λi h4=>?_
 have v:c≠i:=λe=>by simp_all
 have P:∀x,bj c nums k (σ.set i x):=λx=>⟨n0,s0,by assumption,by rw[aa.ai _ _ v];exact a7⟩
 simp;have W:-9223372036854775808<=t-1/\t-1<=9223372036854775807:=by omega
 simp[W.1,W.2];refine cf Tryz.func18 rfl (fA (by omega) H ⟨by omega,by omega⟩ (P _) λd ay Q M=>?_)
 apply rn;simp;refine cf Tryz.func19 rfl (eQ (by omega) H (by omega) (by omega) M.1 λr w aC A=>?_)
 apply rn;simp;refine bK.intro λf h5=>?_
 have B:f≠c:=λe=>by subst e;obtain⟨_,_,_,q⟩:=A.1;simp_all
 have aE:∀y,y≠c->y≠i->w y=σ y:=λy o Y=>by rw[A.2 y o,M.2 y o,aa.ai _ _ Y]
 have q4:w i=some (.cells [int 0,int 0,int 0,int 0,int 0]):=by rw[A.2 i (za v),M.2 i (za v),aa.an]
 have s:f≠i:=λe=>by simp_all
 have Q:0<=d/\d<t:=by omega
 apply zd (I:=λenv σ'=>∃b,(1<=b/\b<t)/\env 0=.ref c 0/\env 1=int t/\env 4=.ref i 0/\env 5=.ref f 0/\bj c nums (k+3) σ'/\σ' i=some (.cells [int 0,int 0,int 0,int 0,int 0])/\σ' f=some (.cells [int d,int ((d+b).tmod t),int r,int 0,int 0])/\∀y,y≠c->y≠i->y≠f->σ' y=σ y)
 . intro u
   simp[aK,W.1,W.2]
   have R:bj c nums (k+2) (w.set f (.cells [int d,int 0,int r,int 0,int 0])):=by obtain⟨n,z,C,S⟩:=A.1;exact⟨n,z,C,by rw[aa.ai _ _ (za B)];exact S⟩
   have fin:∀(b:Int) (g:aa),1<=b/\(b<=t-1\/b=1)->pP c nums (k+2+1) (w.set f (.cells [int d,int 0,int r,int 0,int 0])) g->g f=some (.cells [int d,int 0,int r,int 0,int 0])/\(-9223372036854775808<=d+b/\d+b<=9223372036854775807)/\∀(env:Env) (X:gn),env 0=.ref c 0->env 1=int t->env 4=.ref i 0->env 5=.ref f 0->X=.cells [int d,int ((d+b).tmod t),int r,int 0,int 0]->(∃b,(1<=b/\b<t)/\env 0=.ref c 0/\env 1=int t/\env 4=.ref i 0/\env 5=.ref f 0/\bj c nums (k+3) (g.set f X)/\(g.set f X) i=some (.cells [int 0,int 0,int 0,int 0,int 0])/\(g.set f X) f=some (.cells [int d,int ((d+b).tmod t),int r,int 0,int 0])/\∀y,y≠c->y≠i->y≠f->(g.set f X) y=σ y):=λb g p j=>by
    refine⟨by rw[j.2 f B,aa.an],by omega,λenv X N J K L eX=>⟨b,by omega,N,J,K,L,?_,?_,by rw[aa.an,eX],λy o Y y3=>?_⟩⟩
    . obtain⟨n,z,C,S⟩:=j.1
      exact⟨n,z,by omega,by rw[aa.ai _ _ (za B)];exact S⟩
    . rw[aa.ai _ _ (za s),j.2 i (za v),aa.ai _ _ (za s)];exact q4
    . rw[aa.ai _ _ y3,j.2 y o,aa.ai _ _ y3];grind
   refine⟨?_,?_⟩
   . refine cf Tryz.func19 rfl (eQ (by omega) H (by omega) (by omega) R λb g p j=>?_)
     obtain⟨g5,C,gI⟩:=fin b g p j;have Z:=OK (a:=d+b) ht;apply pg;simp[g5,C.1,C.2,Z,aK];exact u _ _ (gI _ _ (by simp) (by simp) (by simp) (by simp) rfl)
   . refine cf Tryz.func19 rfl (eQ (by omega) H (by omega) (by omega) R λb g p j=>?_)
     obtain⟨g5,C,gI⟩:=fin b g p j;have Z:=OK (a:=d+b) ht;apply pg;simp[g5,C.1,C.2,Z,aK];exact u _ _ (gI _ _ (by simp) (by simp) (by simp) (by simp) rfl)
 rintro env g ⟨b,p,N,J,K,L,a8,u4,u5,a9⟩
 apply rn;simp[N,J,K,L];refine cf Tryz.func18 rfl (fA (by omega) H ⟨by omega,by omega⟩ a8 λo aL aO D=>?_)
 apply rn;simp[N,J,K,L];refine cf Tryz.func54 rfl (m7 (l:=[0,0,o]) (by omega) H (by simp) D.1 λfr T b0 E=>?_)
 have hf:0<=fr/\fr<=20:=by grind
 have v5:T f=some (.cells [int d,int ((d+b).tmod t),int r,int 0,int 0]):=by rw[E.2 f B,D.2 f B];exact u5
 have r2:-9223372036854775808<=fr+20/\fr+20<=9223372036854775807:=by omega
 apply rn;simp[N,J,K,L,v5,aK,r2.1,r2.2];obtain⟨hi,ab,av⟩:∃hi:Int,hi=(if fr+20<72 then fr+20 else 72)/\fr<=hi/\hi<=72:=⟨_,rfl,by omega,by omega⟩
 rw[<-ab]
 have U:bj c nums (k+5) (T.set f (.cells [int d,int ((d+b).tmod t),int r,int fr,int 0])):=by obtain⟨n,z,C,S⟩:=E.1;exact⟨n,z,by omega,by rw[aa.ai _ _ (za B)];exact S⟩
 refine cf Tryz.func19 rfl (eQ (by omega) H (by omega) (by omega) U λY b1 b2 F=>?_)
 apply rn;simp[N,J,K,L];refine cf Tryz.func54 rfl (m7 (l:=[72,72,Y]) (by omega) H (by simp) F.1 λtt V ad G=>?_)
 have b3:fr<=tt/\tt<=72:=by simp at ad;omega
 have w5:V f=some (.cells [int d,int ((d+b).tmod t),int r,int fr,int 0]):=by rw[G.2 f B,F.2 f B,aa.an]
 have w4:V i=some (.cells [int 0,int 0,int 0,int 0,int 0]):=by rw[G.2 i (za v),F.2 i (za v),aa.ai _ _ (za s),E.2 i (za v),D.2 i (za v)];exact u4
 apply rn;simp[N,J,K,L,w5,w4,s,za s,aa.ai,aK];obtain⟨nb,zb,P,al⟩:=G.1;have ax:=SL ht Q p
 have hw:qF t ⟨d,(d+b).tmod t,r,fr,tt⟩=0:=by
  have J:bt d 0 (t-1)=true:=by simp only[bt,zj,KD];omega
  have Z:bt ((d+b).tmod t) 0 (t-1)=true:=by simp only[bt,zj,KD];omega
  have e3:bt r 1 12=true:=by simp only[bt,zj,KD];omega
  have K:bt fr 0 72=true:=by simp only[bt,zj,KD];omega
  have L:bt tt 0 72=true:=by simp only[bt,zj,KD];omega
  unfold qF
  grind
 refine .less (σ':=σ.set c (.cells [ints nums,int nb,.lit (.int .u64 zb)])) (λy x O=>?_) (.done (h ⟨d,(d+b).tmod t,r,fr,tt⟩ _ hw ⟨⟨nb,zb,by omega,aa.an _ _ _⟩,λy O=>aa.ai _ _ O⟩))
 have s5:σ f=none:=by simp_all
 by_cases o:y=c
 . subst o
   rw[aa.an]at O;rw[aa.ai _ _ v,aa.ai _ _ (za B),al];exact O
 . rw[aa.ai _ _ o]at O
   have y4:y≠i:=λe=>by simp_all
   have y5:y≠f:=λe=>by simp_all
   rw[aa.ai _ _ y4,aa.ai _ _ y5,G.2 y o,F.2 y o,aa.ai _ _ y5,E.2 y o,D.2 y o,a9 y o y4 y5];exact O
end WY
end
end
open Go.cG Go.Conc
variable{m:Mo}{σ:aa}{KF:adl}
def kI(a b:adG):adG:=a.filter λx=>decide (x∉b)
def V6(a b:adG):Int:=((kI a b).length:Int)+((kI b a).length:Int)
theorem ze{a b:adG}{i:Nat}(h:i<a.length):kI (a.take (i+1)) b=kI (a.take i) b++if a[i]∈b then[]else[a[i]]:=by
 unfold kI;rw[zD h,abH]
 grind
theorem ou(a b:adG):(kI a b).length<=a.length:=abo _ _
def OM:acW:=[[],[0],[1],[2],[0,1],[0,2],[1,2],[0,1,2]]
theorem Fb{l:adG}(h:l.Sublist [0,1,2]):l∈OM:=by cases h<;>(rename_i h;cases h<;>(rename_i h;cases h<;>(rename_i h;cases h;decide)))
theorem QE:∀a∈OM,∀b∈OM,V6 a b=bM (aT a) (aT b):=by decide +kernel
theorem Fc{a b:adG}(c:a.Sublist [0,1,2])(hb:b.Sublist [0,1,2]):V6 a b=bM (aT a) (aT b):=QE _ (Fb c) _ (Fb hb)
theorem G6{a b:adG}(x:a.length<1000000)(hb:b.length<1000000)(h:KF (.val (int (V6 a b))) σ):aA prog m 85 [ints a,ints b] σ KF:=by
 refine fs [] Tryz.func85 rfl (by kernel_rfl) ?_
 simp[Tryz.f85];refine af.loop a.length (λi s=>∃env,s=⟨env,σ,[],.no⟩/\env 0=ints a/\env 1=ints b/\env 5=int ((kI (a.take i) b).length:Int)/\env 6=int i) ⟨_,rfl,by simp[kI]⟩ ?_
 rintro u i _ v ⟨env,rfl,e,f,d,n⟩ r
 rcases abe i a.length with g1|g1
 . have t:(i:Int)<a.length:=by omega
   have j:=ou (a.take i) b;rw[abz]at j;have f1:-9223372036854775808<=(i:Int)+1/\(i:Int)+1<=9223372036854775807:=by omega
   have o:-9223372036854775808<=((kI (a.take i) b).length:Int)+1/\((kI (a.take i) b).length:Int)+1<=9223372036854775807:=by omega
   have c:=ze (b:=b) g1;apply rn;simp[e,f,d,n,g1];refine cf Tryz.func24 rfl (qw (by omega) ?_)
   by_cases q:a[i]∈b
   . rw[aaB q,abh]at c
     have k:¬mJ b a[i]<0:=by have:=(kD b a[i]).2 q;omega
     apply rn;simp[e,f,d,n,k,f1.1,f1.2]
     simp_all
   . rw[aay q]at c
     have k:mJ b a[i]<0:=by
      rcases Int.lt_or_le (mJ b a[i]) 0 with g|g
      . exact g
      . exact absurd ((kD b a[i]).1 g) q
     apply rn;simp[e,f,d,n,k,f1.1,f1.2,o.1,o.2]
     simp_all
 . have l:i=a.length:=by omega
   subst l;rw[aaJ]at d;have w:=ou a b;apply rn;simp[e,f,d,n];refine af.loop b.length (λi s=>∃env,s=⟨env,σ,[],.no⟩/\env 0=ints a/\env 1=ints b/\env 5=int (((kI a b).length:Int)+((kI (b.take i) a).length:Int))/\env 7=int i) ⟨_,rfl,by simp[e,f,kI,d]⟩ ?_
   clear e f d n r
   rintro u i _ v ⟨env,rfl,e,f,d,p⟩ r
   rcases abe i b.length with g1|g1
   . have t:(i:Int)<b.length:=by omega
     have j:=ou (b.take i) a;rw[abz]at j;have f1:-9223372036854775808<=(i:Int)+1/\(i:Int)+1<=9223372036854775807:=by omega
     have o:-9223372036854775808<=((kI a b).length:Int)+((kI (b.take i) a).length:Int)+1/\((kI a b).length:Int)+((kI (b.take i) a).length:Int)+1<=9223372036854775807:=by omega
     have c:=ze (b:=a) g1;apply rn;simp[e,f,d,p,g1];refine cf Tryz.func24 rfl (qw (by omega) ?_)
     by_cases q:b[i]∈a
     . rw[aaB q,abh]at c
       have k:¬mJ a b[i]<0:=by have:=(kD a b[i]).2 q;omega
       apply rn;simp[e,f,d,p,k,f1.1,f1.2]
       simp_all
     . rw[aay q]at c
       have k:mJ a b[i]<0:=by
        rcases Int.lt_or_le (mJ a b[i]) 0 with g|g
        . exact g
        . exact absurd ((kD a b[i]).1 g) q
       apply rn;simp[e,f,d,p,k,f1.1,f1.2,o.1,o.2];refine r _ g1 ⟨_,rfl,by simp_all,by simp_all,by simp[c,Int.add_assoc]⟩
   . have l:i=b.length:=by omega
     subst l;rw[aaJ]at d;apply rn;simp[e,f,d,p];exact .done h

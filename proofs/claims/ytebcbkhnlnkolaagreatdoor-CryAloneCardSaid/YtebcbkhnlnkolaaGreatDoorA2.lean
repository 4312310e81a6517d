import Derived.Test.YtebcbkhnlnkolaaGreatDoorA1
set_option linter.all false
set_option maxHeartbeats 2000000
set_option maxRecDepth 4000
namespace Go.Proofs.YtebcbkhnlnkolaaGreatDoor
section
open Go.bN
abbrev Y5:aeV:=[⟨5,.take [0,1,3,4,8] false (.one 2 (.take [6] false (.one 5 (.take [7] true (.done)))))⟩]
abbrev Y6:aeV:=[⟨2,.take [0,1,2,3,4,5,6,7,8,9,10,11,13] false (.one 12 (.one 14 (.done)))⟩]
abbrev Y7:aeV:=[⟨5,.take [0,1,2,3,4,5,6,7,8,9,10,11,12,13] true (.done)⟩]
abbrev Y8:aeV:=[⟨9,.take [0,1,2,3,4,5,6,7,8,9,10,11] false (.one 12 (.take [13,14] true (.done)))⟩]
abbrev Y9:aeV:=[⟨5,.take [0,1,2,3,4,5,6,7,8,9,10,11,12,13,14,15,16] false (.both 17 (.one 18 (.one 19 (.one 20 (.done)))) (.one 18 (.one 17 (.one 19 (.one 20 (.done))))))⟩,⟨6,.take [0,1,2,3,4,5,6,7,8,9,10,11,12,13,14,15,16,17,18] false (.one 19 (.take [20,21,22] true (.done)))⟩]
abbrev Wr:aeV:=[⟨15,.take [0,1,2,3,4,5] false (.one 6 (.take [7] true (.done)))⟩]
abbrev Wt:aeV:=[⟨8,.take [0,1,2,3,4,5,6,7,8,9,10,11,12,13,14,15,16,17,18,19,20] true (.done)⟩]
abbrev Wu:aeV:=[⟨22,.take [0,1,2,3,4,5,6,7,8,9,10,11,12,13,14,15,16,17,18,19,20,21,22,23,24,25,26,27,28,29] true (.done)⟩,⟨27,.take [0,1,2,3,4,5,6,7,8,9,10,11,12,13,14,15,16,17,18,19,20,21,22] true (.done)⟩]
abbrev Wv:aeV:=[⟨12,.take [0,1,2,3,4,5,6,7,8,9,10,11,12,13,14,15] true (.done)⟩]
theorem uM{α:Type}{l:List α}{n k}  g  (h:n∉l.take k) (a:l[k]≠n):n∉l.take (k+1):=by
 rw[za g,aan,lb]
 grind
end
section
open Go.bN Go.Conc
variable{m:Mo}{σ:ab}{KF:aeQ}
def toldOf(n all:Int):Int:=if n=0 then 2 else if n=all then 1 else 3
theorem uN{n all}(a:0<=n)(b:n<=all)(c:0<all):jd n all=toldOf n all:=by unfold jd toldOf;omega
end
section
open Go.bN Go.Conc
theorem HA{n all}(h:0<all):toldOf n all=2↔n=0:=by unfold toldOf;omega
theorem KJ{α:Type}  p  (l:List α):(l.filter p).length=0↔∀x∈l,p x=false:=by simp_all
section
variable{L:aeJ}{n:Nat}
def Fg(L:aeJ)(x y:Nat):Int:=jd ((L.filter (jl x y)).length:Int) L.length
theorem HB(a:0<L.length){x y}:Fg L x y=2↔∀w∈L,jl x y w=false:=by
 have:=aaN (jl (x:Int) y) L;unfold Fg;rw[uN (by omega) (by omega) (by omega),HA (by omega),<-KJ];omega
end
theorem KL  L   x y  (a:0<L.length):Fg L x y=1\/Fg L x y=2\/Fg L x y=3:=by
 have:=aaN (jl (x:Int) y) L;unfold Fg;rw[uN (by omega) (by omega) (by omega)];unfold toldOf;omega
section
variable{f x:Fr}{π ρ:afh}
theorem yV{f}(a:f.Good){w}(h:w∈aJ f []):w∈kD f.az.length:=by rw[<-lr a]at h;simp_all
end
end
section
open Go Go.bN Go.Conc
variable{m:Mo}{σ:ab}{KF:aeQ}
theorem KM(f:m.solo=true){w}(g:w.pv)(e:w.fair.az.length<=6/\w.aj.length<=3){h}(i:dI w [h] [] []=0)(j:KF (.val (.bL [ints (aD (kE w h)),ints (aD (kC w h)),int 0])) σ):aB Tryz.prog m 23 [bS w,int h] σ KF:=by
 have k:Wl [bS w,.sl 1 [int h] .exact,mz,mz] [bS w,ints [h],ints [],ints []]:=Rk (.refl _) (eZ 1 _ _) (dR 1) (dR 1);refine aB.start lay [] Y5 2 Tryz.func23 rfl rfl (by rfl) (by kernel_rfl) ?_;simp[Tryz.f23];refine bp Tryz.func41 rfl rfl k (jz f g (by simp) (λq=>absurd i q) λq a fb mb l=>?_);have c:=l.less (.refl mb a);refine aa.run lay [] ?_;simp;refine ak Tryz.func49 rfl rfl (CK.B7 e.1 e.2 ?_);refine aa.runN lay [] 1 ?_;simp;refine bO.intro λd hd=>?_
 simp;change aa _ _ _ _ _ _ _ _ _;refine aa.runN lay [] 1 ?_;simp;change aa _ _ _ _ _ _ _ _ _;refine aa.bf 9 (b:=d) (Ng w h) (ab.ai _ _ _) (by simp) rfl ?_;rw[dH hd];refine aa.run lay [] ?_;simp;refine ak Tryz.func50 rfl rfl (lN ?_);refine aK.go lay [] ?_;simp;refine ak Tryz.func50 rfl rfl (lN ?_);refine aK.go lay [] ?_;simp;refine aa.run lay [] ?_;simp;exact .less c (.done j)
theorem Rw(a:m.solo=true){w}(c:w.pv)(d:w.Open){h i}(hi:0<=i/\i<6)(e:dI w [h] [i] []=0)(f:KF (.val (.bL [ints (qE w h i),int 0])) σ):aB Tryz.prog m 24 [bS w,int h,int i] σ KF:=by
 have g:Wl [bS w,.sl 1 [int h] .exact,.sl 1 [int i] .exact,mz] [bS w,ints [h],ints [i],ints []]:=Rk (.refl _) (eZ 1 _ _) (eZ 1 _ _) (dR 1);refine aB.start lay [] [] 3 Tryz.func24 rfl rfl (by rfl) (by kernel_rfl) ?_;simp[Tryz.f24];refine bp Tryz.func41 rfl rfl g (jz a c (by simp) (λq=>absurd e q) λq j fb mb b=>?_);refine aa.run lay [] ?_;simp;refine ak Tryz.func51 rfl rfl (Dl a d hi b.yW λk n l=>?_);refine aa.run lay [] ?_;simp;exact .less (b.less l) (.done f)
end
section
open Go.bN Go.Conc
theorem nE  p :∀n ,n<=6->(0<=aR ((m8 n).filter p)/\aR ((m8 n).filter p)<64)/\aD (aR ((m8 n).filter p))=(m8 n).filter p
 | 0,_=>by
   show(0<=aR []/\aR []<64)/\aD (aR [])=[];decide
 | n + 1,h=>by
   obtain⟨a,b⟩:=nE p n (by omega);rw[se];split
   . rw[lI]
     exact⟨(Dm a (by omega)).1,by rw[wq a (by omega) λe c=>by grind,b]⟩
   simp_all
section
variable{w:cC}
abbrev mL(w:cC)(es cs:afe):afe:=es++cs.map λ(c:Int)=>c+(w.fair.az.length:Int)
theorem yX{i:Int}(h:0<=i/\i<w.fair.az.length):aP (dS w) i=aP w.fair i:=by
 have:i.toNat<w.fair.az.length:=by omega
 unfold aP dS
 grind
theorem yY{c:Int}(h:0<=c/\c<w.aj.length):aP (dS w) (c+w.fair.az.length)=(uj w c).lost:=by
 have a:c.toNat<w.aj.length:=by omega
 have e:(c+w.fair.az.length).toNat=w.fair.az.length+c.toNat:=by omega
 unfold aP dS uj
 simp_all
theorem Nh:(dS w).az.length=w.fair.az.length+w.aj.length:=by simp_all
theorem nF{es cs:afe}(b:∀i∈es,0<=i/\i<w.fair.az.length)(d:∀i∈cs,0<=i/\i<w.aj.length):mS (dS w) (bs w es cs) (mL w es cs):=
 ⟨rfl,rfl,rfl,rfl,aat _,λi a=>by
   grind,by
   show _=(es++cs.map λ(c:Int)=>c+(w.fair.az.length:Int)).map (aP (dS w));rw[aaq,adX];show es.map (aP w.fair)++_=_;rw[adx (g:=aP (dS w)) λi a=>(yX (b i a)).symm];congr 1
   . exact adx λi a=>(yY (d i a)).symm⟩
theorem m9(b:w.Valid){es cs:afe}(f:∀i∈es,0<=i/\i<w.fair.az.length)(g:∀i∈cs,0<=i/\i<w.aj.length)(j:es.length+cs.length<=6):(bs w es cs).Good:=by
 have a:=gW b.jA b.mT;have c:=nF f g
 have d:∀e∈(bs w es cs).az,e∈(dS w).az:=λe q=>by rw[c.r7]at q;obtain⟨i,h,rfl⟩:=aab.1 q;exact fS (c.Ts i h)
 have hlen:(bs w es cs).az.length=es.length+cs.length:=by grind
 exact⟨⟨by omega,a.fits.roads,a.fits.row,λe q=>a.fits.marks e (d e q)⟩,a.fr,a.to,a.le,a.cJ,a.aX,by omega,λe q=>a.r7 e (d e q),a.Js⟩
theorem fQ{h i}(hi:i∈dE w h):0<=i/\i<w.fair.az.length:=uO (aaC.1 hi).1
theorem iy{h i}(hi:i∈dv w h):0<=i/\i<w.aj.length:=uO (aaC.1 hi).1
theorem qF  w   h :(dE w h).length<=w.fair.az.length:=by
 have:=aaN (pE w h) (m8 w.fair.az.length)
 rwa [mU]at this
theorem qG  w   h :(dv w h).length<=w.aj.length:=by
 have:=aaN (pC w h) (m8 w.aj.length)
 rwa [mU]at this
theorem cC.Valid.kE(a:w.Valid)(h:Int):aD (kE w h)=dE w h:=(nE _ _ (by have:=a.mT;omega)).2
theorem cC.Valid.kC(a:w.Valid)(h:Int):aD (kC w h)=dv w h:=(nE _ _ (by have:=a.mT;omega)).2
abbrev rP(w:cC)(h:Int):Fr:=bs w (dE w h) (dv w h)
abbrev lO(w:cC)(h:Int):afe:=mL w (dE w h) (dv w h)
theorem na  w   h :mS (dS w) (rP w h) (lO w h):=nF (λ_=>fQ) λ_=>iy
theorem nG(a:w.Valid)  h :(rP w h).Good:=m9 a (λ_=>fQ) (λ_=>iy) (by have:=qF w h;have:=qG w h;have:=a.mT;omega)
theorem cC.Valid.open(a:w.Valid):w.Open:=by
 have c:=a.mT;refine⟨⟨by omega,a.ov.1⟩,λh=>?_⟩;have hb:=nG a h;obtain⟨v,b⟩:=acf _ a.some;obtain⟨u,d,_⟩:=(na w h).cN (gW a.jA c) hb b;refine⟨?_,?_,?_,?_⟩<;>simp only[a.kE,a.kC]
 . exact λ_=>fQ
 . exact λ_=>iy
 . exact hb
 grind
end
def GS(L:afe)(g g':Int)(v:afe):Bool:=jl (L.idxOf g:Int) (L.idxOf g':Int) v
theorem uP{L:afe}{g}(h:g∈L):L.getD (L.idxOf g) 0=g:=by grind
theorem mS.sub{f x y L M}(h:mS f x L)(a:mS f y M)(d:∀i∈M,i∈L)(b:x.aX<=y.aX):mS x y (M.map λi=>(L.idxOf i:Int)):=by
 have c:∀i∈M,(L.idxOf i:Int)<L.length:=λi q=>by grind
 refine⟨by rw[a.roads,h.roads],by rw[a.fr,h.fr],by rw[a.to,h.to],by rw[a.cJ,h.cJ],b,λj q=>?_,?_⟩
 . obtain⟨i,e,rfl⟩:=aab.1 q
   rw[h.len];simp_all
 rw[a.r7,adX];refine adx λi q=>?_
 have:=h.at (j:=(L.idxOf i:Int)) ⟨by omega,c i q⟩
 simp_all
theorem Rx{f x y L M}(h:mS f x L)(b:mS f y M)(c:∀i∈M,i∈L)(d:x.aX<=y.aX)(j:x.Good)(k:y.Good){v}(l:v∈aJ x []):∃u∈aJ y [],∀g∈M,∀g'∈M,GS M g g' u=GS L g g' v:=by
 obtain⟨u,m,e⟩:=(h.sub b c d).cN j k l;have a:∀g∈M,M.idxOf g<M.length/\(M.map λi=>(L.idxOf i:Int)).getD (M.idxOf g) 0=(L.idxOf g:Int):=λg q=>by grind
 refine⟨u,m,λg q g' n=>?_⟩;have o:=a g q;have p:=a g' n;have:=e (M.idxOf g) (M.idxOf g') (by simp_all) (by simp_all);unfold GS
 simp_all
theorem Jt  f  (es cs:afe)  x  (N:afe) (a:cs.Nodup) (b:∀c∈cs,0<=c/\c<3) (g:3*(es.getD x 0).toNat+2<N.length)  q :∀n ,n<=cs.length ->
 ((List.range n).foldl (λN y=>N.set (3*(es.getD x 0).toNat+(cs.getD y 0).toNat) (pP f x ((es.length:Int)+y))) N).length=N.length/\
 (∀y<n,((List.range n).foldl (λN y=>N.set (3*(es.getD x 0).toNat+(cs.getD y 0).toNat) (pP f x ((es.length:Int)+y))) N).getD (3*(es.getD x 0).toNat+(cs.getD y 0).toNat) 0=pP f x ((es.length:Int)+y))/\
 ((∀y<n,q≠3*(es.getD x 0).toNat+(cs.getD y 0).toNat)->((List.range n).foldl (λN y=>N.set (3*(es.getD x 0).toNat+(cs.getD y 0).toNat) (pP f x ((es.length:Int)+y))) N).getD q 0=N.getD q 0)
 |0,_=>⟨rfl,λy d=>by omega,λ_=>rfl⟩
 | n + 1,o=>by
   obtain⟨p,r,j⟩:=Jt f es cs x N a b g q n (by omega);rw[aaB,aaG,aaS,List.foldl_nil];generalize (List.range n).foldl _ N=R at *;have s:=b _ (iO (l:=cs) (i:=n) (by omega));refine⟨by simp_all,λy d=>?_,λh=>?_⟩
   . by_cases e:y=n
     . subst e
       rw[zD,acn (by omega)];rfl
     have k:(cs.getD y 0).toNat≠(cs.getD n 0).toNat:=λq=>by
      have m:=b _ (iO (l:=cs) (i:=y) (by omega));have:cs.getD y 0=cs.getD n 0:=by omega
      rw[zD,zD,zA (show y<cs.length by omega),zA (show n<cs.length by omega)]at this;exact e (yZ a this)
     grind
   rw[zD,ach (λe=>h n (by omega) e.symm),<-List.getD_eq_getElem?_getD];exact j λy d=>h y (by omega)
theorem Fh  f   es cs  (a:es.Nodup) (g:∀i∈es,0<=i/\i<6) (b:cs.Nodup) (d:∀c∈cs,0<=c/\c<3)  q :∀n ,n<=es.length ->
 ((List.range n).foldl (λN x=>yk f es cs x N) (List.replicate 18 0)).length=18/\
 (∀x<n,∀y<cs.length,((List.range n).foldl (λN x=>yk f es cs x N) (List.replicate 18 0)).getD (3*(es.getD x 0).toNat+(cs.getD y 0).toNat) 0=pP f x ((es.length:Int)+y))/\
 ((∀x<n,∀y<cs.length,q≠3*(es.getD x 0).toNat+(cs.getD y 0).toNat)->((List.range n).foldl (λN x=>yk f es cs x N) (List.replicate 18 0)).getD q 0=0)
 |0,_=>⟨by simp,λy j=>by omega,λ_=>by grind⟩
 | n + 1,w=>by
   obtain⟨o,p,r⟩:=Fh f es cs a g b d q n (by omega);rw[aaB,aaG,aaS,List.foldl_nil];obtain⟨R,k⟩:∃R,R=(List.range n).foldl (λN x=>yk f es cs x N) (List.replicate 18 0):=⟨_,rfl⟩;rw[<-k]at o p r ⊢;have z:=g _ (iO (l:=es) (i:=n) (by omega));have s:3*(es.getD n 0).toNat+2<R.length:=by omega
   have key:=λq=>Jt f es cs n R b d s q cs.length (aav _)
   refine⟨by unfold yk;exact(key 0).1.trans o,λx A y j=>?_,λh=>?_⟩
   . by_cases e:x=n
     . subst e;exact(key 0).2.1 y j
     have t:=g _ (iO (l:=es) (i:=x) (by omega))
     have u:(es.getD x 0).toNat≠(es.getD n 0).toNat:=λq=>by
      have:es.getD x 0=es.getD n 0:=by omega
      rw[zD,zD,zA (show x<es.length by omega),zA (show n<es.length by omega)]at this;exact e (yZ a this)
     have v:=d _ (iO j);unfold yk;rw[(key _).2.2 λB m=>by have:=d _ (iO m);omega]
     grind
   unfold yk
   grind
section
variable{w:cC}
theorem B8  n :(m8 n).Nodup:=by unfold m8;rw[List.Nodup,aen];exact(List.nodup_range (n:=n)).imp λh e=>h (by omega)
theorem Dp  w   h :(dE w h).Nodup:=(B8 _).filter _
theorem Dq  w   h :(dv w h).Nodup:=(B8 _).filter _
theorem B9{es cs i}(hi:i∈es):(mL w es cs).idxOf i=es.idxOf i:=by grind
theorem Ry{cs:afe}{n c}:(cs.map fun  c=>c+n).idxOf (c+n)=cs.idxOf c:=by
 induction cs with
 |nil=>rfl
 |cons a l b=>grind
theorem Ca{es cs:afe}{c:Int}(a:∀i∈es,i<w.fair.az.length)(b:0<=c):(mL w es cs).idxOf (c+w.fair.az.length)=es.length+cs.idxOf c:=by unfold mL;rw[List.idxOf_append,KD λq=>by grind,Ry,Nat.add_comm]
abbrev Ni(w:cC)(h i c:Int):Int:=Fg (aJ (rP w h) []) ((lO w h).idxOf i) ((lO w h).idxOf (c+w.fair.az.length))
theorem Rz(a:w.Valid){h i c}(hi:0<=i/\i<6)(b:0<=c/\c<3):il w h i c=if i∈dE w h/\c∈dv w h then Ni w h i c else 0:=by
 have m:=a.mT;have n:=a.ov.1;obtain⟨_,d,f⟩:=Fh (rP w h) (dE w h) (dv w h) (Dp w h) (λi q=>by have:=fQ q;omega) (Dq w h) (λi q=>by have:=iy q;omega) (3*i.toNat+c.toNat) _ (aav _)
 have e:il w h i c=(Cb (rP w h) (dE w h) (dv w h)).getD (3*i.toNat+c.toNat) 0:=by show(Cb (bs w (aD (kE w h)) (aD (kC w h))) (aD (kE w h)) (aD (kC w h))).getD (3*i.toNat+c.toNat) 0=_;rw[a.kE,a.kC]
 rw[e];unfold Cb;split
 . next q=>
   obtain⟨g,o⟩:=uQ q.1;obtain⟨j,p⟩:=uQ q.2;have:=d _ g _ j;rw[uP q.1,uP q.2]at this;rw[this];unfold Ni Fg pP;rw[B9 q.1,Ca (λi q=>(fQ q).2) b.1]
   simp_all
 next q=>
 refine f λx k y l e=>q ?_
 have r:=fQ (iO k);have s:=iy (iO l);have t:(dE w h).getD x 0=i:=by omega
 have u:(dv w h).getD y 0=c:=by omega
 grind
theorem KN(a:w.Valid)  h :0<(aJ (rP w h) []).length:=by
 have:=(a.open.bk h).some;simp only[a.kE,a.kC]at this
 grind
theorem Ju(a:w.Valid){h i c}(hi:0<=i/\i<6)(d:0<=c/\c<3):uk (il w h i c)=true↔(i∈dE w h/\c∈dv w h)/\∃v∈aJ (rP w h) [],GS (lO w h) i (c+w.fair.az.length) v=true:=by
 have b:=KN a h;rw[Rz a hi d];split
 . next q=>
   have f:=HB b (x:=(lO w h).idxOf i) (y:=(lO w h).idxOf (c+w.fair.az.length))
   have g:uk (Ni w h i c)=true↔Ni w h i c≠2:=by rcases KL (aJ (rP w h) []) ((lO w h).idxOf i) ((lO w h).idxOf (c+w.fair.az.length)) b with e|e|e<;>simp[Ni,e,uk]
   rw[g,Ne,f];unfold GS
   simp_all
 next q=>exact⟨λz=>(by cases z),λz=>absurd z.1 q⟩
end
section
variable{w:cC}
theorem Y'{n:Nat}{i:Int}(h:0<=i/\i<n):i∈m8 n:=aab.2 ⟨i.toNat,zH.2 (by omega),by omega⟩
theorem RA(a:w.Valid){h i c}(hi:0<=i/\i<6)(b:c<w.aj.length):(c:Int)∈qE w h i↔(i∈dE w h/\(c:Int)∈dv w h)/\∃v∈aJ (rP w h) [],GS (lO w h) i ((c:Int)+w.fair.az.length) v=true:=by
 have:=a.ov.1;unfold qE;rw[aaC,Ju a hi ⟨by omega,by omega⟩]
 grind
theorem Jv{h i c}(q:i∈dE w h/\c∈dv w h):i∈lO w h/\c+w.fair.az.length∈lO w h:=⟨List.mem_append_left _ q.1,List.mem_append_right _ (aab.2 ⟨c,q.2,rfl⟩)⟩
end
section
variable{w:cC}
theorem y7.part{f l l'}(h:y7 f l)(c:∀i∈l',i∈l):y7 f l':=by obtain⟨z,g⟩:=h.Rl;exact⟨λa d b hb=>h.cy a (c a d) b (c b hb),⟨z,λj k=>g j (c j k)⟩,λa d b hb e=>h.fit a (c a d) b (c b hb) e⟩
theorem RB{f}(c:f.Good){v}(d:v∈aJ f []){k}(a:bh v k≠[]):y7 f (bh v k):=by
 rw[<-lr c,aaC]at d;obtain⟨g,b⟩:=d;obtain⟨wl,h,_⟩:=nf _ _ g;unfold rQ at b;rw[zj,aau]at b;obtain⟨n,j⟩:=acf _ a;obtain⟨p,q,r⟩:=cE j;have e:k∈v:=by grind
 have l:=h k e;have m:=qH e;have:=adk (b.2 k.toNat (zH.2 (by omega)));rw[show(k.toNat:Int)=k by omega]at this;exact(qI c a (lJ v k) λi o=>by have:=cE o;omega).1 this
theorem Nj(f:w.Valid){h i c}(hi:0<=i/\i<6)(p:0<=c/\c<3)(l:uk (il w h i c)=true):(bs w [i] [c]).Good/\jT (bs w [i] [c]) [0,1]=0:=by
 rw[Ju f hi p]at l;obtain⟨k,v,r,s⟩:=l;have B:=f.mT;have m:∀j∈[i],0<=j/\j<w.fair.az.length:=λj q=>by rw[lb.1 q];exact fQ k.1
 have a:∀j∈[c],0<=j/\j<w.aj.length:=λj q=>by rw[lb.1 q];exact iy k.2
 have b:(bs w [i] [c]).Good:=m9 f m a (by simp)
 refine⟨b,?_⟩;obtain⟨C,D⟩:=Jv k
 obtain⟨u,o,e⟩:=Rx (na w h) (nF m a) (λg q=>by
  simp[mL]at q
  grind) (aat _) (nG f h) b r
 have d:=e i (by simp[mL]) (c+w.fair.az.length) (by simp[mL])
 rw[s]at d;have t:i≠c+w.fair.az.length:=by grind
 have x:(mL w [i] [c]).idxOf i=0:=by simp_all
 have y:(mL w [i] [c]).idxOf (c+w.fair.az.length)=1:=by grind
 unfold GS at d;rw[x,y]at d;simp only[jl,zR]at d;have E:u.length=2:=(nf _ _ (yV b o)).1;have m0:(0:Int)∈bh u (u.getD 0 0):=eE (i:=0) (by omega) rfl
 have z:(1:Int)∈bh u (u.getD 0 0):=eE (i:=1) (by omega) d.symm
 have A:=RB b o (adt m0);refine(qI b (by simp) (by decide) λn q=>?_).2 (A.part λn q=>?_)
 . have:(bs w [i] [c]).az.length=2:=by grind
   simp at q;omega
 . simp at q
   rcases q with rfl|rfl
   . exact m0
   . exact z
end
theorem mS.up{f x:Fr}{L l':afe}(h:mS f x L)(n:∀j∈l',0<=j/\j<L.length)(l:y7 x l'):y7 f (l'.map λj=>L.getD j.toNat 0):=by
 have g:∀j∈l',aP x j=aP f (L.getD j.toNat 0):=λj d=>h.at (n j d)
 refine⟨λa k b hb=>?_,?_,λa k b hb m=>?_⟩
 . obtain⟨i,c,rfl⟩:=aab.1 k
   obtain⟨j,d,rfl⟩:=aab.1 hb;rw[<-g i c,<-g j d];exact l.cy i c j d
 . obtain⟨z,o⟩:=l.Rl
   refine⟨z,λa k=>?_⟩;obtain⟨i,c,rfl⟩:=aab.1 k;rw[<-h.bU,<-g i c];exact o i c
 obtain⟨i,c,rfl⟩:=aab.1 k;obtain⟨j,d,rfl⟩:=aab.1 hb;have:=l.fit i c j d λe=>m (by rw[e])
 unfold Fit eU at this ⊢;rw[g i c,g j d,h.roads,h.cJ]at this;exact this
theorem Nk{f:Fr}(r:f.Good)(I:(f.az.length:Int)<=f.aX){p q:Nat}(C:p<q)(D:q<f.az.length)(h:y7 f [(p:Int),(q:Int)]):∃v∈aJ f [],jl (p:Int) (q:Int) v=true:=by
 obtain⟨P,w⟩:∃P:afe,P=(List.range f.az.length).map λt=>if t=q then(p:Int)else(t:Int):=⟨_,rfl⟩
 have j:P.length=f.az.length:=by rw[w,aac,adf]
 have d:∀t:Nat,t<f.az.length->P.getD t 0=if t=q then(p:Int)else(t:Int):=λt l=>by rw[w,zD,aaM,aef l];rfl
 obtain⟨v,s,g⟩:=y8 P
 have m:∀x∈P,0<=x/\x<f.az.length:=λx u=>by rw[w]at u;obtain⟨t,l,rfl⟩:=aab.1 u;have:=zH.1 l;split<;>omega
 refine⟨v,?_,um g (by omega) (by omega) (by rw[d p (by omega),d q D,KD (by omega),Rp rfl])⟩
 rw[<-lr r,aaC,<-j];refine⟨g.part,?_⟩;unfold rQ;rw[zj,aau,g.many];have J:=lu f.az.length s g.nd λx u=>m x (g.sub x u)
 refine⟨decide_eq_true (by omega),λk E=>?_⟩
 have n:k<s.length:=by have:=zH.1 E;omega
 rw[zR,g.xx k n];have o:=g.sub _ (ys n);generalize s[k]=c at *;obtain⟨t,l,F⟩:=Jw o;have y:bh P c≠[]:=adt (eE (i:=t) l F)
 have a:∀i∈bh P c,(0<=i/\i<f.az.length)/\(if i=(q:Int)then(p:Int)else i)=c:=λi b=>by
  obtain⟨G,A,B⟩:=cE b;rw[j]at A;refine⟨⟨G,A⟩,?_⟩;rw[d i.toNat (by omega)]at B
  split at B<;>split<;>omega
 refine(qI r y (lJ P c) λi b=>(a i b).1).2 ?_
 by_cases e:c=p
 . refine h.part λi b=>?_
   have:=(a i b).2;split at this
   . next z=>simp[z]
   simp;omega
 have H:y7 f [c]:=(qI r (by simp) (by simp) λi b=>by rw[lb.1 b];exact m c o).1 (Nl r c)
 refine H.part λi b=>?_
 have:=(a i b).2;split at this
 . exact absurd this.symm e
 simp[this]
theorem KO{w:cC}(a:w.Valid)(y:w.fair.aX=6){h:Int}{i c:Nat}(hi:i<w.fair.az.length)(o:c<w.aj.length):(c:Int)∈qE w h i↔((i:Int)∈dE w h/\(c:Int)∈dv w h)/\jT (bs w [(i:Int)] [(c:Int)]) [0,1]=0:=by
 have z:=a.mT;have A:=a.ov.1;have g:=RA a (h:=h) (i:=i) ⟨by omega,by omega⟩ o
 constructor
 . intro q
   refine⟨(g.1 q).1,?_⟩;unfold qE at q;rw[aaC]at q;exact(Nj a ⟨by omega,by omega⟩ ⟨by omega,by omega⟩ q.2).2
 rintro⟨d,r⟩
 refine g.2 ⟨d,?_⟩;have k:∀j∈[(i:Int)],0<=j/\j<w.fair.az.length:=λj q=>by rw[lb.1 q];omega
 have b:∀j∈[(c:Int)],0<=j/\j<w.aj.length:=λj q=>by rw[lb.1 q];omega
 have s:(bs w [(i:Int)] [(c:Int)]).Good:=m9 a k b (by simp)
 have hlen:(bs w [(i:Int)] [(c:Int)]).az.length=2:=by simp
 have t:=(qI s (by simp) (by decide) λn q=>by simp at q;omega).1 r
 have u:=(nF k b).up (λj q=>by simp[mL]at q ⊢;omega) t
 obtain⟨l,m⟩:=Jv d;have B:(lO w h).idxOf (i:Int)=(dE w h).idxOf (i:Int):=B9 d.1;have C:(lO w h).idxOf ((c:Int)+w.fair.az.length)=(dE w h).length+(dv w h).idxOf (c:Int):=Ca (λi q=>(fQ q).2) (by omega)
 have D:=List.idxOf_lt_length_of_mem d.1;have E:=List.idxOf_lt_length_of_mem m;have e:=nG a h;have F:=(na w h).len
 obtain⟨v,f,x⟩:=Nk e (by have:=e.mT;show(_:Int)<=w.fair.aX;omega) (p:=(lO w h).idxOf (i:Int)) (q:=(lO w h).idxOf ((c:Int)+w.fair.az.length)) (by omega) (by omega) ((na w h).one e (λj q=>by
  simp at q
  rcases q with rfl|rfl
  . have:=List.idxOf_lt_length_of_mem l
    exact⟨by omega,by rw[adq,uP l];simp[mL]⟩
  exact⟨by omega,by rw[adq,uP m];simp[mL]⟩) u)
 exact⟨v,f,x⟩
def Fr.wide(f:Fr):Fr:={f with aX:=6}
def cC.wide(w:cC):cC:={w with fair:=w.fair.wide}
theorem Fr.Good.wide{f:Fr}(h:f.Good):f.wide.Good:=⟨⟨h.fits.az,h.fits.roads,h.fits.row,h.fits.marks⟩,h.fr,h.to,h.le,h.cJ,by show 1<=(6:Int)/\(6:Int)<=6;decide,h.mT,h.r7,h.Js⟩
theorem Cc{w:cC}(a:w.pv):w.wide.pv:=by
 have b:=(Fr.pw a.fits a.yl).wide;refine⟨b.fits,b.yl,λc d=>?_,a.ways,a.aj⟩;have:=(Fr.pw (a.Tt c d).1 (a.Tt c d).2).wide;exact⟨this.fits,this.yl⟩
theorem RD(f:Fr):f.az=(m8 f.az.length).map (aP f):=
 aeq (by rw[aac,mU]) λi a b=>by unfold m8;rw[aes,aes,List.getElem_range];simp[aP,a]
theorem Nm{w:cC}(a:w.Valid):mS (dS w) (dS w.wide) (m8 (dS w).az.length):=⟨rfl,rfl,rfl,rfl,(Fr.pw a.jA.fits a.jA.yl).aX.2,λ_=>uO,RD (dS w)⟩
theorem Fi{w:cC}(b:w.Valid)(a:fJ w=0):fJ w.wide=0:=by
 have g:=Cc b.jA;have f:=gW g (by show w.fair.az.length+w.aj.length<=6;exact b.mT)
 obtain⟨v,c⟩:=acf _ b.some;obtain⟨u,h,_⟩:=(Nm b).cN (gW b.jA b.mT) f c
 have i:gX (dS w.wide)≠0:=by have:=(wu f).2 (adt h);omega
 unfold fJ at a;split at a
 . cases a
 next j=>
 split at a
 . cases a
 next k=>
 split at a
 . next d=>exact absurd a d
 next d=>
 split at a
 . cases a
 next l=>
 split at a
 . next e=>exact absurd a e
 next e=>
 split at a
 . cases a
 next m=>
 have n:bz w.wide.aF 1 4=true:=(by simpa using j:bz w.aF 1 4=true)
 have o:¬(6:Int)<w.wide.ways.length:=k;have p:eh (kF w.wide.aF) w.wide.ways=0:=(by simpa using d:eh (kF w.aF) w.ways=0)
 have q:¬(3:Int)<w.wide.aj.length:=l;have r:eh (uR w.wide) w.wide.aj=0:=(by simpa using e:eh (uR w) w.aj=0)
 have s:¬(6:Int)<(w.wide.fair.az.length:Int)+w.wide.aj.length:=m;unfold fJ;rw[n,p,r,KD (by simp),KD o,KD (by simp),KD q,KD (by simp),KD s,KD i]
theorem HC{w:cC}(a:w.Valid)(b:fJ w=0):w.wide.Valid:=cC.valid (Cc a.jA) (Fi a b)
end
section
open Go.bN Go.Conc
variable{m:Mo}{σ:ab}{KF:aeQ}
theorem Nn  w   h i :(qE w h i).length<=w.aj.length:=by unfold qE;refine aap (aaN _ _) ?_;rw[mU];exact aav _
end
section
open Go.bN Go.Conc
def dT(f:Fr)(e:yz)(h:Int):Bool:=if e.im=0 then decide (e.bd=h)else if e.im=1 then bz (e.bd-h) f.aU f.dD else decide (e.bd=h)||bz (e.bd-h) f.aU f.dD
def uS:afe:=(List.range 34).map λi:Nat=>(i:Int)-3
def iP(f:Fr)(l:afe):afe:=uS.filter λh=>l.all λn=>dT f (aP f n) h
theorem sf{a lo hi}:bz a lo hi=true↔lo<=a/\a<=hi:=by simp[bz]
theorem Cd{f e h}(a:e.im≠0):h∈iQ f e↔f.aU<=e.bd-h/\e.bd-h<=f.dD:=by
 rw[Fj a,aab];constructor
 . grind
 rintro⟨b,c⟩;exact⟨(h-(e.bd-f.dD)).toNat,zH.2 (by omega),by omega⟩
theorem HE{f e}(a:e.im=0):iQ f e=[]:=by unfold iQ;simp_all
theorem wv{f e h}(c:0<=e.im/\e.im<=2):h∈bU f e↔dT f e h=true:=by
 unfold dT;by_cases a:e.im=0
 . rw[Rp a]
   unfold bU;rw[HE a,Rp ⟨by omega,by simp⟩]
   grind
 rw[KD a];by_cases b:e.im=1
 . rw[Rp b]
   unfold bU;rw[KD (by simp[b]),Cd a,sf]
 rw[KD b,adG,zR,sf,<-Cd a];unfold bU
 grind
theorem Dr:∀{l l':afe},l.Pairwise (·<·)->l'.Pairwise (·<·)->(∀x,x∈l↔x∈l')->l=l'
 |[],[],_,_,_=>rfl
 |[],b::l',_,_,h=>absurd ((h b).2 (by simp)) (by simp)
 |a::l,[],_,_,h=>absurd ((h a).1 (by simp)) (by simp)
 | a::l,b::l',c,d,h=>by
   obtain⟨i,f⟩:=aaK.1 c;obtain⟨j,g⟩:=aaK.1 d
   have e:a=b:=by
    have k:=(h a).1 (by simp);have hb:=(h b).2 (by simp)
    grind
   subst e;rw[Dr f g λx=>?_]
   grind
theorem No{h}:h∈uS↔-3<=h/\h<=30:=by
 unfold uS;rw[aab];constructor
 . grind
 rintro⟨a,b⟩;exact⟨(h+3).toNat,zH.2 (by omega),by omega⟩
theorem KP{f}(b:f.Good){e}(c:e∈f.az){h}(a:dT f e h=true):-3<=h/\h<=30:=by
 have hb:=(lP (b.r7 e c)).2.2.2.1;have d:=b.fr;have g:=b.to;unfold dT at a;split at a
 . grind
 split at a
 . have:=sf.1 a;omega
 rw[adG,zR,sf]at a;omega
theorem Ds{f}(g:f.Good){l}(d:l≠[])(i:∀n∈l,0<=n/\n<f.az.length){h}:h∈iP f l↔∀j∈l,h∈bU f (aP f j):=by
 unfold iP;rw[aaC,No,aau];have e:∀j∈l,0<=(aP f j).im/\(aP f j).im<=2:=λj b=>(lP (g.r7 _ (fS (i j b)))).2.2.2.2.1
 constructor
 . rintro⟨_,c⟩ j b
   exact(wv (e j b)).2 (c j b)
 intro c;obtain⟨a,r,rfl⟩:=List.exists_cons_of_ne_nil d;refine⟨KP g (fS (i a (by simp))) ((wv (e a (by simp))).1 (c a (by simp))),λj b=>(wv (e j b)).1 (c j b)⟩
def uT(a b:afe):Int:=(((List.range 5).filter λi:Nat=>decide ((i:Int)∈a)!=decide ((i:Int)∈b)).length:Int)
def Jx:aeJ:=(List.range 32).map λx:Nat=>((List.range 5).map λi:Nat=>(i:Int)).filter λi=>x.testBit i.toNat
theorem Fo:∀{l p},oy p l=0->(∀q,p=some q->∀x∈l,q<x)/\l.Pairwise (·<·)
 |[],p,_=>⟨λ_ _ x b=>(by cases b),List.Pairwise.nil⟩
 | a::l,p,h=>by
   unfold oy at h;split at h
   . cases h
   split at h
   . cases h
   next c=>
   obtain⟨d,e⟩:=Fo h;have b:∀x∈l,a<x:=d a rfl;refine⟨λq f x g=>?_,aaK.2 ⟨b,e⟩⟩;subst f;have:q<a:=by simpa[zc]using c
   grind
theorem KQ:∀a b c d e ,(((List.range 5).map λi:Nat=>(i:Int)).filter λi=>[a,b,c,d,e].getD i.toNat false)∈Jx:=by decide +kernel
theorem Ce{l}(h:oy none l=0):l∈Jx:=by
 have c:=mV h;have d:=(Fo h).2
 have:l=((List.range 5).map λi:Nat=>(i:Int)).filter λi=>[decide ((0:Int)∈l),decide ((1:Int)∈l),decide ((2:Int)∈l),decide ((3:Int)∈l),decide ((4:Int)∈l)].getD i.toNat false:=by
  refine Dr d ?_ λx=>?_
  . refine List.Pairwise.filter _ ?_
    simp_all
  rw[aaC,aab];constructor
  . intro a
    have hb:=c x a;refine⟨⟨x.toNat,zH.2 (by omega),by omega⟩,?_⟩;have:x=0\/x=1\/x=2\/x=3\/x=4:=by omega
    rcases this with rfl|rfl|rfl|rfl|rfl<;>simpa using a
  rintro⟨⟨i,b,rfl⟩,a⟩;have b:=zH.1 b;have:i=0\/i=1\/i=2\/i=3\/i=4:=by omega
  rcases this with rfl|rfl|rfl|rfl|rfl<;>simpa using a
 rw[this];exact KQ _ _ _ _ _
theorem RE:∀a∈Jx,∀b∈Jx,uT a b=bM (aR a) (aR b):=by decide +kernel
theorem Fp{a b}(c:oy none a=0)(hb:oy none b=0):uT a b=bM (aR a) (aR b):=RE _ (Ce c) _ (Ce hb)
def uU(f:Fr)(l:afe):afe:=((List.range f.az.length).map λi:Nat=>(i:Int)).filter λi=>decide (i∈l)
def Dt(f:Fr)(l:afe):Bool:=l.all λn=>decide ((aP f n).cy=(aP f (l.getD 0 0)).cy)
theorem Jy  f   l :(uU f l).Pairwise (·<·):=by refine List.Pairwise.filter _ ?_;rw[aen];exact List.pairwise_lt_range.imp λh=>by omega
theorem zd{f l x}:x∈uU f l↔(0<=x/\x<f.az.length)/\x∈l:=by
 unfold uU;rw[aaC,aab,zR];constructor
 . grind
 rintro⟨a,h⟩;exact⟨⟨x.toNat,zH.2 (by omega),by omega⟩,h⟩
theorem Np  f  {l}(b:l≠[]):Dt f l=!dK f (aM f l):=by
 have c:=jB f l;have d:∀n,n∈aM f l↔n∈l:=λn=>c.mem_iff
 have z:∀{r:afe},r≠[]->r.getD 0 0∈r:=λ{r} h=>by grind
 have a:aM f l≠[]:=λe=>by simp_all
 rw[adB];unfold Dt dK
 grind
theorem HF{f}(c:f.Good){l}(b:l≠[])(d:∀n∈l,0<=n/\n<f.az.length):decide (iP f l≠[])=!cO f (aM f l):=by
 have g:=jB f l;have j:∀n,n∈aM f l↔n∈l:=λn=>g.mem_iff
 have a:aM f l≠[]:=λe=>by simp_all
 have key:∀x,x∈iP f l↔x∈gy f (aM f l):=λx=>by
  rw[Ds c b d,qJ a]
  simp_all
 unfold cO;rw[adB,adw,zR,aaU];constructor
 . intro h e
   obtain⟨x,i⟩:=acf _ h
   simp_all
 intro h e;obtain⟨x,i⟩:=acf _ h
 simp_all
end
section
open Go.bN Go.Conc
variable{m:Mo}{σ:ab}{KF:aeQ}
theorem dL{n lo hi}(h:KF (.val (bool (bz n lo hi))) σ):aB Tryz.prog m 162 [int n,int lo,int hi] σ KF:=by
 unfold bz at h;refine aB.start lay [] [] 3 Tryz.func162 rfl rfl (by rfl) (by kernel_rfl) ?_;simp[Tryz.f162];refine tL.intro (λa=>?_) (λa=>?_)<;>(try simp[-Int.not_lt,-Int.not_le]at a)<;>(try simp[a]at h)<;>(try simp[a])<;>(try exact .done h)
theorem Du{l n}(i:l.length<1152921504606846976)(h:KF (.val (bool (decide (n∈l)))) σ):aB Tryz.prog m 164 [ints l,int n] σ KF:=by
 refine aB.start lay [] [] 2 Tryz.func164 rfl rfl (by rfl) (by kernel_rfl) ?_;simp[Tryz.f164];refine aa.loop l.length (λk s=>∃env,s=⟨env,σ,[],.no⟩/\env 0=ints l/\env 1=int n/\env 5=int k/\n∉l.take k) ⟨_,rfl,by simp⟩ ?_;rintro j k _ o ⟨env,rfl,a,b,c,d⟩ g;rcases aaA k l.length with g1|g1
 . have e:(k:Int)<l.length:=by omega
   have f1:-9223372036854775808<=(k:Int)+1/\(k:Int)+1<=9223372036854775807:=by omega
   refine aa.run lay [] ?_;simp[a,b,c,g1,e];apply aG.intro<;>intro f<;>simp at f<;>simp[a,b,c,f]
   . have:n∈l:=by grind
     simp[this]at h;exact .done h
   exact⟨by omega,g _ g1 ⟨_,rfl,by simp_all,by simp_all,by simp,uM g1 d f⟩⟩
 have:k=l.length:=by omega
 subst this;rw[aar]at d;refine aa.run lay [] ?_;simp[a,b,c];simp[d]at h;exact .done h
theorem xy{f n}(a:f.az.length<1152921504606846976)(h:KF (.val (bool (bz n 0 (f.az.length-1)))) σ):aB Tryz.prog m 121 [bF f,int n] σ KF:=by
 have f1:-9223372036854775808<=(f.az.length:Int)-1/\(f.az.length:Int)-1<=9223372036854775807:=by omega
 refine aB.start lay [] [] 2 Tryz.func121 rfl rfl (by rfl) (by kernel_rfl) ?_;simp[Tryz.f121,f1.1,f1.2];refine ak Tryz.func162 rfl rfl (dL ?_);refine aa.run lay [] ?_;simp;exact .done h
theorem ze{f e}(v:f.roads.length<1152921504606846976)(w:e.marks.length<1152921504606846976)(h:KF (.val (int (bX f.roads.length e))) σ):aB Tryz.prog m 163 [bF f,bj e] σ KF:=by
 unfold bX at h;have f1:-9223372036854775808<=(f.roads.length:Int)-1/\(f.roads.length:Int)-1<=9223372036854775807:=by omega
 refine aB.start lay [] Wv 2 Tryz.func163 rfl rfl (by rfl) (by kernel_rfl) ?_;simp[Tryz.f163];refine ak Tryz.func162 rfl rfl (dL ?_);refine aa.run lay [] ?_;simp;refine aG.intro (λj=>?_) (λj=>?_)<;>(try simp at j)<;>(try simp[j]at h)<;>(try simp[j,f1.1,f1.2])<;>(try exact .done h);refine ak Tryz.func162 rfl rfl (dL ?_);refine aa.run lay [] ?_;simp;refine aG.intro (λl=>?_) (λl=>?_)<;>(try simp at l)<;>(try simp[l]at h)<;>(try simp[l])<;>(try exact .done h);refine ak Tryz.func162 rfl rfl (dL ?_);refine aa.run lay [] ?_;simp;refine aG.intro (λn=>?_) (λn=>?_)<;>(try simp at n)<;>(try simp[n]at h)<;>(try simp[n])<;>(try exact .done h);refine aa.loop e.marks.length (λk s=>∃env,s=⟨env,σ,[],.no⟩/\env 2=.cp (bF f) 0/\env 3=.cp (bj e) 0/\env 5=int k/\oy none e.marks=oy (if k=0 then none else e.marks[k-1]?) (e.marks.drop k)) ⟨_,rfl,by simp⟩ ?_
 rintro x k _ y ⟨env,rfl,b,c,d,a⟩ z;rcases aaA k e.marks.length with g4|g4
 . have p:(k:Int)<e.marks.length:=by omega
   have A:-9223372036854775808<=(k:Int)+1/\(k:Int)+1<=9223372036854775807:=by omega
   rw[Jz _ k g4]at a;refine aa.run lay [] ?_;simp[b,c,d,g4,p];refine ak Tryz.func162 rfl rfl (dL ?_);refine aa.run lay [] ?_;simp[b,c,d];refine aG.intro (λg=>?_) (λg=>?_)<;>(try simp at g)<;>(try simp[g]at a)<;>(try simp[b,c,d,g])<;>(try exact .done a)
   . refine Nq.intro (λi=>?_) (λi=>?_)<;>(try simp at i)<;>(try simp[i]at a)<;>(try simp[b,c,d,i,g4])<;>(try exact .done a)
     . have r:(k:Int)-1=((k-1:Nat):Int):=by omega
       have q:k-1<e.marks.length:=by omega
       have t:¬k=0:=by omega
       simp[r,q];repeat refine⟨by omega,?_⟩
       try simp[q,t,zc]at a
       refine aa.run lay [] ?_;simp[b,c,d];refine aG.intro (λo=>?_) (λo=>?_)<;>(try simp[-Int.not_lt,-Int.not_le]at o)<;>(try simp[o]at a)<;>(try simp[b,c,d,o])<;>(try exact .done a)
       . simp[a]at h
         exact .done h
       simp_all
     have u:k=0:=by omega
     subst u;simp[zc]at a;refine aa.run lay [] ?_
     simp_all
   simp[a]at h;exact .done h
 have:k=e.marks.length:=by omega
 subst this;simp[oy]at a;simp[a]at h;refine aa.run lay [] ?_;simp[b,c,d];refine ak Tryz.func162 rfl rfl (dL ?_);refine aa.run lay [] ?_;simp[b,c,d];refine aG.intro (λg=>?_) (λg=>?_)<;>(try simp at g)<;>(try simp[g]at h)<;>(try simp[b,c,d,g])<;>(try exact .done h);refine ak Tryz.func162 rfl rfl (dL ?_);refine aa.run lay [] ?_;simp[b,c,d];refine aG.intro (λi=>?_) (λi=>?_)<;>(try simp at i)<;>(try simp[i]at h)<;>(try simp[b,c,d,i])<;>(try exact .done h)
def zf(r:aeJ)(i j:Nat):Bool:=(decide (i=j) && rd r i j !=0)||rd r i j !=rd r j i||(List.range r.length).any λk=>decide (rd r i j>rd r i k+rd r k j)
theorem KR{r i j}(a:zf r i i=false)(b:zf r i j=false):cD r i j=false:=by
 unfold zf at a b;unfold cD
 grind
theorem zg{r}(hr:r.length<1152921504606846976)(hl:∀l∈r,l.length<1152921504606846976)(h:KF (.val (int (fT r))) σ):aB Tryz.prog m 161 [rows r] σ KF:=by
 unfold fT at h;refine aB.start lay [] Wu 1 Tryz.func161 rfl rfl (by rfl) (by kernel_rfl) ?_
 simp[Tryz.f161];refine aG.intro (λT=>?_) (λT=>?_)<;>simp at T<;>simp[T]
 . rw[Rp (show r.length<1 by simp[T])]at h
   exact .done h
 have P:¬r.length<1:=λq=>T (adg.1 (by omega))
 refine aG.intro (λg2=>?_) (λg2=>?_)<;>simp at g2<;>simp[g2]
 . have K:3<r.length:=by omega
   rw[KD P,Rp K]at h;exact .done h
 have K:¬3<r.length:=by omega
 rw[KD P,KD K]at h;refine aa.loop r.length (λk s=>∃env,s=⟨env,σ,[],.no⟩/\env 0=rows r/\env 3=int r.length/\env 4=int k/\gk r.length r=gk r.length (r.drop k)) ⟨_,rfl,by simp⟩ ?_
 rintro c0 k _ Q ⟨env,rfl,a,b,o,w⟩ ih
 rcases aaA k r.length with g4|g4
 . have g:(k:Int)<r.length:=by omega
   rw[zh _ _ k g4]at w;obtain⟨l,d⟩:∃l,l=r[k]:=⟨_,rfl⟩;have aC:l.length<1152921504606846976:=hl l (by rw[d];exact ys g4)
   by_cases g5:l.length=r.length
   . have L:((l.length:Int) !=r.length)=false:=by simp[g5]
     rw[<-d]at w;refine aa.run lay [] ?_;simp[a,b,o,g4,g,d.symm,L];refine aa.loop l.length (λj s=>∃env,s=⟨env,σ,[],.no⟩/\env 0=rows r/\env 3=int r.length/\env 4=int k/\env 5=int j/\(l.take j).all (bz · 0 9)=true) ⟨_,rfl,by simp[a,b,o]⟩ ?_
     clear a b o
     rintro c1 j _ R ⟨env,rfl,a,b,o,J,x⟩ E
     rcases aaA j l.length with g6|g6
     . have y:(j:Int)<r.length:=by omega
       refine aa.run lay [] ?_;simp[a,b,o,J,g4,g,d.symm,g6,y];refine ak Tryz.func162 rfl rfl (dL ?_);refine aa.run lay [] ?_;simp[a,b,o,J,g4,g,d.symm];refine aG.intro (λU=>?_) (λU=>?_)<;>(try simp at U)<;>(try simp[a,b,o,J,g4,g,d.symm,U])
       . refine⟨by omega,E _ g6 ⟨_,rfl,by simp[a,b,o,J,g4,g,d.symm],by simp[a,b,o,J,g4,g,d.symm],by simp[a,b,o,J,g4,g,d.symm],by simp,?_⟩⟩
         rw[za g6,aed,x];simp[U]
       have:l.all (bz · 0 9)=false:=by rw[List.all_eq_false];exact⟨_,ys g6,by simp[U]⟩
       simp[jU,g5,this]at w;simp[w]at h;exact .done h
     have:j=l.length:=by omega
     subst this;have V:¬(l.length:Int)<r.length:=by omega
     rw[aar]at x;have a8:jU r.length l=0:=by unfold jU;rw[KD (by simp[g5]),Rp x]
     rw[Rp a8]at w;refine aa.run lay [] ?_;simp[a,b,o,J,g4,g,d.symm,V];refine⟨by omega,ih _ g4 ⟨_,rfl,?_,?_,?_,w⟩⟩<;>simp[a,b,o,J,g4,g,d.symm]
   have L:((l.length:Int) !=r.length)=true:=by
    have:¬(l.length:Int)=r.length:=by omega
    simp[this]
   rw[<-d]at w;simp[jU,g5]at w;simp[w]at h;refine aa.run lay [] ?_;simp[a,b,o,g4,g,d.symm,L];exact .done h
 have:k=r.length:=by omega
 subst this;simp[gk]at w;rw[KD (by omega)]at h
 clear ih;have t:∀(i:Nat) (D:i<r.length),r[i].length=r.length:=λi D=>(je w _ (ys D)).1
 have F:∀(i:Nat) (D:i<r.length) (j:Nat) (R:j<r[i].length),0<=r[i][j]/\r[i][j]<=9:=λi D j R=>dU ((je w _ (ys D)).2 _ (ys R))
 have u:∀i j,i<r.length->j<r.length->cD r i j=true->KF (.val (int 9)) σ:=λi j g5 g6 hb=>by
  have:((List.range r.length).any λi=>(List.range r.length).any λj=>cD r i j)=true:=aaO.2 ⟨i,zH.2 g5,aaO.2 ⟨j,zH.2 g6,hb⟩⟩
  simp_all
 have n4:¬(r.length:Int)<r.length:=by omega
 refine aa.run lay [] ?_;simp[a,b,o,n4];refine aa.loop r.length (λi s=>∃env,s=⟨env,σ,[],.no⟩/\env 0=rows r/\env 3=int r.length/\env 6=int i/\∀i'<i,∀j<r.length,zf r i' j=false) ⟨_,rfl,by simp[a,b]⟩ ?_
 clear a b o
 rintro c1 i _ D ⟨env,rfl,a,b,c,z⟩ ih
 rcases aaA i r.length with g5|g5
 . have A : (i : Int)<r.length:=by omega
   refine aa.run lay [] ?_;simp[a,b,c,A];refine aa.loop r.length (λj s=>∃env,s=⟨env,σ,[],.no⟩/\env 0=rows r/\env 3=int r.length/\env 6=int i/\env 7=int j/\∀n<j,zf r i n=false) ⟨_,rfl,by simp[a,b,c]⟩ ?_
   clear a b c
   rintro c2 j _ R ⟨env,rfl,a,b,c,f,W⟩ E
   rcases aaA j r.length with g6|g6
   . have y : (j:Int)<r.length:=by omega
     have X:i<r[i].length:=by grind
     have v:j<r[i].length:=by grind
     have S:i<r[j].length:=by grind
     have aE:((i:Int)==(j:Int))=decide (i=j):=by
      by_cases e:i=j
      . simp[e]
      grind
     by_cases b1:i=j/\r[i][j]≠0
     . obtain⟨rfl,b1⟩:=b1
       have a9:(r[i][i] !=0)=true:=by grind
       refine aa.run lay [] ?_;simp[a,b,c,f,A,g5,X,a9];refine aa.run lay [] ?_;simp[a,b,c,f];exact .done (u i i g5 g5 (by unfold cD;rw[eo g5 X];simp[b1]))
     have Y:i=j->r[i][j]=0:=λe=>aaH λq=>b1 ⟨e,q⟩
     by_cases b2:r[i][j]=r[j][i]
     . have G:(r[i][j] !=r[j][i])=false:=by grind
       have hz:∃bq:Bool,((i:Int)==(j:Int))=bq/\(bq=true->(r[i][j] !=0)=false):=⟨_,rfl,λq=>by grind⟩
       obtain⟨bq,Z,ad⟩:=hz;cases bq
       . refine aa.run lay [] ?_
         simp[a,b,c,f,A,g5,y,g6,X,v,S,Z,G];refine aa.run lay [] ?_;simp[a,b,c,f]
         ((
           refine aa.loop r.length (λk s=>∃env,s=⟨env,σ,[],.no⟩/\env 0=rows r/\env 3=int r.length/\env 6=int i/\env 7=int j/\env 8=int k/\∀B<k,¬rd r i j>rd r i B+rd r B j) ⟨_,rfl,by simp[a],by simp[b],by simp[c],by simp[f],by simp,by simp⟩ ?_
           clear a b c f
           rintro c3 k _ Q ⟨env,rfl,a,b,c,f,M,C⟩ N
           rcases aaA k r.length with g9|g9
           . have O:(k:Int)<r.length:=by omega
             have H:k<r[i].length:=by rw[t i g5];exact g9
             have I:j<r[k].length:=by rw[t k g9];exact g6
             have al:=F i g5 k H;have av:=F k g9 j I;have f1:-9223372036854775808<=r[i][k]+r[k][j]:=by omega
             have f2:r[i][k]+r[k][j]<=9223372036854775807:=by omega
             refine aa.run lay [] ?_;simp[a,b,c,f,M,O,g5,g6,g9,v,H,I,f1,f2];refine aa.run lay [] ?_
             by_cases p:r[i][k]+r[k][j]<r[i][j]
             . simp[p]
               refine .done (u i j g5 g6 ?_);unfold cD;have:((List.range r.length).any λk=>decide (rd r i j>rd r i k+rd r k j))=true:=aaO.2 ⟨k,zH.2 g9,by rw[eo g5 v,eo g5 H,eo g9 I];simpa using p⟩
               rw[this];simp
             . simp[p,a,b,c,f,M]
               refine⟨by omega,N _ g9 ⟨_,rfl,by simp[a],by simp[b],by simp[c],by simp[f],by simp,λB ax=>?_⟩⟩
               by_cases e:B=k
               . subst e
                 rw[eo g5 v,eo g5 H,eo g9 I];omega
               . exact C B (by omega)
           . have:k=r.length:=by omega
             subst this;have n9:¬(r.length:Int)<r.length:=by omega
             refine aa.run lay [] ?_;simp[a,b,c,f,M,n9];refine⟨by omega,E _ g6 ⟨_,rfl,by simp[a],by simp[b],by simp[c],by simp,λn a7=>?_⟩⟩
             by_cases e:n=j
             . subst e
               unfold zf
               have P:((List.range r.length).any λk=>decide (rd r i n>rd r i k+rd r k n))=false:=by rw[adj];intro k Q;simpa using C k (zH.1 Q)
               have K:(decide (i=n) && rd r i n !=0)=false:=by
                by_cases e:i=n
                . rw[eo g5 v,Y e];simp
                . simp[e]
               have e3:rd r i n=rd r n i:=by rw[eo g5 v,eo g6 S];exact b2
               rw[P,K,e3];simp
             . exact W n (by omega)))
       have ay:=ad rfl;refine aa.run lay [] ?_;simp[a,b,c,f,A,g5,y,g6,X,v,S,Z,ay,G];refine aa.run lay [] ?_;simp[a,b,c,f]
       ((
         refine aa.loop r.length (λk s=>∃env,s=⟨env,σ,[],.no⟩/\env 0=rows r/\env 3=int r.length/\env 6=int i/\env 7=int j/\env 8=int k/\∀B<k,¬rd r i j>rd r i B+rd r B j) ⟨_,rfl,by simp[a],by simp[b],by simp[c],by simp[f],by simp,by simp⟩ ?_
         clear a b c f
         rintro c3 k _ Q ⟨env,rfl,a,b,c,f,M,C⟩ N
         rcases aaA k r.length with g9|g9
         . have O:(k:Int)<r.length:=by omega
           have H:k<r[i].length:=by rw[t i g5];exact g9
           have I:j<r[k].length:=by rw[t k g9];exact g6
           have al:=F i g5 k H;have av:=F k g9 j I;have f1:-9223372036854775808<=r[i][k]+r[k][j]:=by omega
           have f2:r[i][k]+r[k][j]<=9223372036854775807:=by omega
           refine aa.run lay [] ?_;simp[a,b,c,f,M,O,g5,g6,g9,v,H,I,f1,f2];refine aa.run lay [] ?_
           by_cases p:r[i][k]+r[k][j]<r[i][j]
           . simp[p]
             refine .done (u i j g5 g6 ?_);unfold cD;have:((List.range r.length).any λk=>decide (rd r i j>rd r i k+rd r k j))=true:=aaO.2 ⟨k,zH.2 g9,by rw[eo g5 v,eo g5 H,eo g9 I];simpa using p⟩
             rw[this];simp
           . simp[p,a,b,c,f,M]
             refine⟨by omega,N _ g9 ⟨_,rfl,by simp[a],by simp[b],by simp[c],by simp[f],by simp,λB ax=>?_⟩⟩
             by_cases e:B=k
             . subst e
               rw[eo g5 v,eo g5 H,eo g9 I];omega
             . exact C B (by omega)
         . have:k=r.length:=by omega
           subst this;have n9:¬(r.length:Int)<r.length:=by omega
           refine aa.run lay [] ?_;simp[a,b,c,f,M,n9];refine⟨by omega,E _ g6 ⟨_,rfl,by simp[a],by simp[b],by simp[c],by simp,λn a7=>?_⟩⟩
           by_cases e:n=j
           . subst e
             unfold zf
             have P:((List.range r.length).any λk=>decide (rd r i n>rd r i k+rd r k n))=false:=by rw[adj];intro k Q;simpa using C k (zH.1 Q)
             have K:(decide (i=n) && rd r i n !=0)=false:=by
              by_cases e:i=n
              . rw[eo g5 v,Y e];simp
              . simp[e]
             have e3:rd r i n=rd r n i:=by rw[eo g5 v,eo g6 S];exact b2
             rw[P,K,e3];simp
           . exact W n (by omega)))
     have G:(r[i][j] !=r[j][i])=true:=by grind
     have e:i≠j:=λe=>by grind
     have e':((i:Int)==(j:Int))=false:=by grind
     refine aa.run lay [] ?_;simp[a,b,c,f,A,g5,y,g6,X,v,S,e',G];refine aa.run lay [] ?_;simp[a,b,c,f];exact .done (u i j g5 g6 (by unfold cD;rw[eo g5 v,eo g6 S];simp[b2]))
   have:j=r.length:=by omega
   subst this;have V:¬(r.length:Int)<r.length:=by omega
   refine aa.run lay [] ?_;simp[a,b,c,f,V];refine⟨by omega,ih _ g5 ⟨_,rfl,by simp[a,b,c,f],by simp[a,b,c,f],by simp,λi' aL j a7=>?_⟩⟩
   grind
 have:i=r.length:=by omega
 subst this
 have:((List.range r.length).any λi=>(List.range r.length).any λj=>cD r i j)=false:=by rw[adj];intro i D;rw[Bool.not_eq_true,adj];intro j R;rw[Bool.not_eq_true];exact KR (z i (zH.1 D) i (zH.1 D)) (z i (zH.1 D) j (zH.1 R))
 rw[this]at h;have V:¬(r.length:Int)<r.length:=by omega
 refine aa.run lay [] ?_;simp[a,b,c,V];exact .done h
theorem KS{f}(b:f.Fits)(h:KF (.val (int (check f))) σ):aB Tryz.prog m 120 [bF f] σ KF:=by
 unfold check at h;have u:=b.roads;have r:=b.az;refine aB.start lay [] Wr 1 Tryz.func120 rfl rfl (by rfl) (by kernel_rfl) ?_;simp[Tryz.f120];refine ak Tryz.func161 rfl rfl (zg b.roads b.row ?_);refine aa.run lay [] ?_;simp;refine aG.intro (λe=>?_) (λe=>?_)<;>(try simp at e)<;>(try simp[e]at h)<;>(try simp[e])<;>(try exact .done h);refine ak Tryz.func162 rfl rfl (dL ?_);refine aa.run lay [] ?_;simp;refine tL.intro (λg=>?_) (λg=>?_)<;>(try simp at g)<;>(try simp[g]at h)<;>(try simp[g])<;>(try exact .done h);refine ak Tryz.func162 rfl rfl (dL ?_);refine aa.run lay [] ?_;simp;refine aG.intro (λi=>?_) (λi=>?_)<;>(try simp at i)<;>(try simp[i]at h)<;>(try simp[i])<;>(try exact .done h);refine aG.intro (λj=>?_) (λj=>?_)<;>(try simp[-Int.not_lt,-Int.not_le]at j)<;>(try simp[j]at h)<;>(try simp[j])<;>(try exact .done h)
 refine ak Tryz.func162 rfl rfl (dL ?_);refine aa.run lay [] ?_;simp;refine tL.intro (λl=>?_) (λl=>?_)<;>(try simp at l)<;>(try simp[l]at h)<;>(try simp[l])<;>(try exact .done h);refine ak Tryz.func162 rfl rfl (dL ?_);refine aa.run lay [] ?_;simp;refine aG.intro (λn=>?_) (λn=>?_)<;>(try simp at n)<;>(try simp[n]at h)<;>(try simp[n])<;>(try exact .done h);refine aG.intro (λo=>?_) (λo=>?_)<;>(try simp[-Int.not_lt,-Int.not_le]at o)<;>(try simp[o]at h)<;>(try simp[o])<;>(try exact .done h);refine aa.loop f.az.length (λk s=>∃env,s=⟨env,σ,[],.no⟩/\env 1=.cp (bF f) 0/\env 4=int k/\fy (bX f.roads.length) f.az=fy (bX f.roads.length) (f.az.drop k)) ⟨_,rfl,by simp⟩ ?_;rintro v k _ w ⟨env,rfl,c,d,a⟩ t;rcases aaA k f.az.length with g8|g8
 . have q:(k:Int)<f.az.length:=by omega
   rw[xz _ _ k g8]at a;refine aa.run lay [] ?_;simp[c,d,g8,q];refine ak Tryz.func163 rfl rfl (ze b.roads (b.marks _ (ys g8)) ?_);refine aK.go lay [] ?_;simp[c,d];refine aa.run lay [] ?_;simp[c,d];refine aG.intro (λp=>?_) (λp=>?_)<;>(try simp at p)<;>(try simp[p]at a)<;>(try simp[c,d,p])<;>(try exact .done a)
   . rw[a]at h
     exact .done h
   . exact⟨by omega,t _ g8 ⟨_,rfl,by simp[c,d],by simp,a⟩⟩
 . have:k=f.az.length:=by omega
   subst this;simp[fy]at a;rw[a]at h;refine aa.run lay [] ?_;simp[c,d];exact .done h
theorem KT{f x y}(e:f.Fits)(h:KF (.val (int (dV f [x,y]))) σ):aB Tryz.prog m 89 [bF f,int x,int y] σ KF:=by
 unfold dV at h;simp only[acd,aex,Bool.and_true]at h;have a:=e.az;refine aB.start lay [] [] 3 Tryz.func89 rfl rfl (by rfl) (by kernel_rfl) ?_;simp[Tryz.f89];refine ak Tryz.func120 rfl rfl (KS e ?_);refine aa.run lay [] ?_;simp;refine aG.intro (λb=>?_) (λb=>?_)<;>(try simp at b)<;>(try simp[b]at h)<;>(try simp[b])<;>(try exact .done h);refine ak Tryz.func121 rfl rfl (xy a ?_);refine aa.run lay [] ?_;simp;refine tL.intro (λc=>?_) (λc=>?_)<;>(try simp at c)<;>(try simp[c]at h)<;>(try simp[c])<;>(try exact .done h);refine ak Tryz.func121 rfl rfl (xy a ?_);refine aa.run lay [] ?_;simp;refine aG.intro (λd=>?_) (λd=>?_)<;>(try simp at d)<;>(try simp[d]at h)<;>(try simp[d])<;>(try exact .done h)
theorem HG{f e a}(hb:-1000<=e.bd-a/\e.bd-a<=1000)(h:KF (.val (bool (dT f e a))) σ):aB Tryz.prog m 122 [bF f,bj e,int a] σ KF:=by
 have f1:-9223372036854775808<=e.bd-a/\e.bd-a<=9223372036854775807:=by omega
 unfold dT at h;refine aB.start lay [] [] 3 Tryz.func122 rfl rfl (by rfl) (by kernel_rfl) ?_;simp[Tryz.f122,f1.1,f1.2];refine ak Tryz.func162 rfl rfl (dL ?_);refine aa.run lay [] ?_;simp;rw[show decide (e.bd=a)=(e.bd==a)from rfl]at h;generalize (e.bd==a)=d at h ⊢;refine aG.intro (λb=>?_) (λb=>?_)<;>simp at b
 . rw[Rp b]at h
   simp;exact .done h
 rw[KD b]at h;simp;refine aG.intro (λc=>?_) (λc=>?_)<;>simp at c
 . rw[Rp c]at h
   simp;exact .done h
 rw[KD c]at h;simp;cases d<;>first|exact .done h|(simp at h ⊢;exact .done h)
theorem zi{i}(h:i<=34):uS.take i=(List.range i).map λi:Nat=>(i:Int)-3:=by unfold uS;rw[<-List.map_take,List.take_range,Nat.min_eq_left h]
theorem RF{i}(h:i<34):uS.take (i+1)=uS.take i++[(i:Int)-3]:=by rw[zi (by omega),zi (by omega),aaB,aaq];rfl
theorem BG{f}{l:afe}{i}(h:i<34):(uS.take (i+1)).filter (λh=>l.all λn=>dT f (aP f n) h)=(uS.take i).filter (λh=>l.all λn=>dT f (aP f n) h)++if l.all (λn=>dT f (aP f n) ((i:Int)-3))then[(i:Int)-3]else[]:=by
 rw[RF h,aca]
 grind
theorem RG{f l}(H:f.Good)(K:l.length<1000000)(B:∀n∈l,0<=n/\n<f.az.length)(h:KF (.val (ints (iP f l))) σ):aB Tryz.prog m 90 [bF f,ints l] σ KF:=by
 refine aB.start lay [] Y8 2 Tryz.func90 rfl rfl (by rfl) (by kernel_rfl) ?_
 simp[Tryz.f90];refine aa.loop 34 (λi s=>∃env p a,s=⟨env,p,[],.no⟩/\env 1=ints l/\env 2=.cp (bF f) 0/\env 5=a/\env 6=int ((i:Int)-3)/\Go.bN.Tok σ p a 1 (((uS.take i).filter λh=>l.all λn=>dT f (aP f n) h).map int)) ⟨_,σ,.lit (.slice none 0 0),rfl,by simp,by simp,by simp,by simp,by simpa using Tok.nil σ 1⟩ ?_
 rintro L i _ M ⟨env,p,a,rfl,c,d,k,o,e⟩ G
 have r:=e.cells
 rcases aaA i 34 with g1|g1
 . have C:(i:Int)-3<=30:=by omega
   have f1:-9223372036854775808<=(i:Int)-3+1/\(i:Int)-3+1<=9223372036854775807:=by omega
   refine aa.run lay [] ?_;simp[c,d,k,o,r.1,r.2,C];refine aa.loop l.length (λj s=>∃env,s=⟨env,p,[],.no⟩/\env 1=ints l/\env 2=.cp (bF f) 0/\env 5=a/\env 6=int ((i:Int)-3)/\env 7=bool ((l.take j).all λn=>dT f (aP f n) ((i:Int)-3))/\env 8=int j) ⟨_,rfl,by simp[c,d,k,o]⟩ ?_
   clear c d k o
   rintro N j _ O ⟨env,rfl,c,d,k,o,t,u⟩ x
   rcases aaA j l.length with g2|g2
   . have BH:(j:Int)<l.length:=by omega
     have w:-9223372036854775808<=(j:Int)+1/\(j:Int)+1<=9223372036854775807:=by omega
     obtain⟨I,P⟩:=B _ (ys g2);have D:l[j].toNat<f.az.length:=by omega
     have b:(l.take (j+1)).all (λn=>dT f (aP f n) ((i:Int)-3))=((l.take j).all (λn=>dT f (aP f n) ((i:Int)-3)) && dT f f.az[l[j].toNat] ((i:Int)-3)):=by rw[za g2,aed,<-jO D];simp
     by_cases q:(l.take j).all (λn=>dT f (aP f n) ((i:Int)-3))=true
     . have Q:=(lP (H.r7 _ (ys D))).2.2.2.1
       have g:env 7=bool true:=by rw[t,q]
       rw[q,aeo]at b;refine aa.run lay [] ?_;simp[c,d,k,o,g,u,g2,BH,I,D];refine ak Tryz.func122 rfl rfl (HG (by omega) ?_)
       refine aK.go lay [] ?_;simp[c,d,k,o,t,u,w.1,w.2];refine aa.run lay [] ?_;simp[c,d,k,o,t,u,w.1,w.2];exact x _ g2 ⟨_,rfl,by simp[c,d,k,o,t,u,b]⟩
     . have q:(l.take j).all (λn=>dT f (aP f n) ((i:Int)-3))=false:=by grind
       have g:env 7=bool false:=by rw[t,q]
       rw[q,Bool.false_and]at b;refine aa.run lay [] ?_;simp[c,d,k,o,g,u,g2,BH];refine aa.run lay [] ?_;simp[c,d,k,o,g,u,g2,BH,w.1,w.2];exact x _ g2 ⟨_,rfl,by simp[c,d,k,o,b]⟩
   . have:j=l.length:=by omega
     subst this;rw[aar]at t;have A:=BG (f:=f) (l:=l) g1
     by_cases q:l.all (λn=>dT f (aP f n) ((i:Int)-3))=true
     . have g:env 7=bool true:=by rw[t,q]
       rw[Rp q]at A;refine aa.run lay [] ?_;simp[c,d,k,o,g,u];refine aN lay rfl rfl rfl cK rfl cK rfl pQ (by decide) (by simp;have:=aaN (λh=>l.all λn=>dT f (aP f n) h) (uS.take i);rw[ack]at this;omega) (σ0:=σ) (es:=((uS.take i).filter λh=>l.all λn=>dT f (aP f n) h).map int) (xs:=[int ((i:Int)-3)]) (by simpa using e) (.inr ⟨_,by simp;rfl⟩) λJ E v=>?_
       have y:=v.cells;refine aa.run lay [] ?_;simp[c,d,o,y.1,y.2,f1.1,f1.2];exact G _ g1 ⟨_,E,J,rfl,by simp[c],by simp[d],by simp,by simp;omega,by rw[A,aaq];exact v⟩
     . have q:l.all (λn=>dT f (aP f n) ((i:Int)-3))=false:=by grind
       have g:env 7=bool false:=by rw[t,q]
       rw[KD (by simp[q]),aaE]at A
       refine aa.run lay [] ?_;simp[c,d,k,o,g,u,f1.1,f1.2];exact G _ g1 ⟨_,p,a,rfl,by simp[c],by simp[d],by simp[k],by simp;omega,by rw[A];exact e⟩
 . have F:i=34:=by omega
   subst F;refine aa.run lay [] ?_;simp[c,d,k,o,r.1,r.2];have z:uS.take 34=uS:=by rw[zi (aav _)];rfl
   rw[z]at e;exact .px e.W (.less e.1 (.done h))
def Rm(a b:afe)(k:Nat):Int:=(((List.range k).filter λi:Nat=>decide ((i:Int)∈a)!=decide ((i:Int)∈b)).length:Int)
theorem Nr  a b   k :Rm a b (k+1)=Rm a b k+if(decide ((k:Int)∈a)!=decide ((k:Int)∈b))=true then 1 else 0:=by
 unfold Rm;rw[aaB,aca,aam,aer]
 grind
theorem Ug  a b   k :0<=Rm a b k/\Rm a b k<=k:=by
 unfold Rm
 grind
namespace RC
abbrev Ww:aeV:=[⟨5,.take [0,1,2,4,5,6] false (.one 3 (.one 7 (.one 8 (.done))))⟩]
theorem xA{a b}(r:a.marks.length<1152921504606846976)(hb:b.marks.length<1152921504606846976)(h:KF (.val (int (uT a.marks b.marks))) σ):aB Tryz.prog m 124 [bj a,bj b] σ KF:=by
 refine aB.start lay [] Ww 2 Tryz.func124 rfl rfl (by rfl) (by kernel_rfl) ?_;simp[Tryz.f124];refine aa.loop 5 (λk s=>∃env,s=⟨env,σ,[],.no⟩/\env 2=.cp (bj a) 0/\env 3=.cp (bj b) 0/\env 5=int (Rm a.marks b.marks k)/\env 6=int k) ⟨_,rfl,by simp[Rm]⟩ ?_;rintro v k _ w ⟨env,rfl,c,d,e,f⟩ t;rcases aaA k 5 with g1|g1
 . have g:(k:Int)<=4:=by omega
   have u:=Ug a.marks b.marks k;have f1:-9223372036854775808<=(k:Int)+1/\(k:Int)+1<=9223372036854775807:=by omega
   have o:-9223372036854775808<=Rm a.marks b.marks k+1/\Rm a.marks b.marks k+1<=9223372036854775807:=by omega
   have i:=Nr a.marks b.marks k;refine aa.run lay [] ?_;simp[c,d,e,f,g];obtain⟨p,j⟩:∃p,p=decide ((k:Int)∈a.marks):=⟨_,rfl⟩;obtain⟨q,l⟩:∃q,q=decide ((k:Int)∈b.marks):=⟨_,rfl⟩;rw[<-j,<-l]at i;refine ak Tryz.func164 rfl rfl (Du r ?_);rw[<-j];refine aK.go lay [] ?_;simp[c,d,e,f];refine ak Tryz.func164 rfl rfl (Du hb ?_);rw[<-l];refine aK.go lay [] ?_;simp[c,d,e,f];clear j l;cases p<;>cases q<;>simp at i
   all_goals (
    refine aa.run lay [] ?_;simp[c,d,e,f,f1.1,f1.2,o.1,o.2];exact t _ g1 ⟨_,rfl,by simp[c,d,i,e]⟩)
 . have n:k=5:=by omega
   subst n;refine aa.run lay [] ?_;simp[c,d,e,f];exact .done h
end RC
abbrev lx(f:Fr):Int->Int->Bool:=Fe λn=>(aP f n).hour
def gn(l:afe)(i:Nat):afe:=((List.range i).map λi:Nat=>(i:Int)).filter λi=>decide (i∈l)
theorem Dv  l   i :gn l (i+1)=gn l i++if(i:Int)∈l then[(i:Int)]else[]:=by
 unfold gn;rw[aaB,aaq,aca]
 grind
theorem Fq{l i x}(h:x∈gn l i):0<=x/\x<i:=by
 unfold gn at h
 grind
theorem xB  l   i :(gn l i).length<=i:=by
 unfold gn
 grind
theorem HH{f l}(h6:f.az.length<=1000)(hl:l.length<1000000)(h:KF (.val (ints (aM f (uU f l)))) σ):aB Tryz.prog m 123 [bF f,ints l] σ KF:=by
 have Z:∀i,(dJ (lx f) (gn l i)).length<=i:=λi=>by rw[ly];exact xB l i
 refine aB.start lay [] Wt 2 Tryz.func123 rfl rfl (by rfl) (by kernel_rfl) ?_
 simp[Tryz.f123];refine aa.loop f.az.length (λi s=>∃env I a,s=⟨env,I,[],.no⟩/\env 1=ints l/\env 2=.cp (bF f) 0/\env 5=a/\env 6=int i/\bo σ I a 1 ((dJ (lx f) (gn l i)).reverse.map int)) ⟨_,σ,.lit (.slice none 0 0),rfl,by simp,by simp,by simp,by simp,⟨ab.le_refl _,.inl ⟨by grind,.inl rfl⟩⟩⟩ ?_
 rintro c0 i _ hi ⟨env,I,a,rfl,g,j,q,o,r⟩ ih
 have C:=r.cells;have a7:=Z i
 rcases aaA i f.az.length with g1|g1
 . have a8:(i:Int)<f.az.length:=by omega
   have f1:-9223372036854775808<=(i:Int)+1/\(i:Int)+1<=9223372036854775807:=by omega
   have J:=Dv l i;refine aa.run lay [] ?_;simp[g,j,q,o,C.1,C.2,g1,a8];refine ak Tryz.func164 rfl rfl (Du (by omega) ?_)
   by_cases g2:(i:Int)∈l
   . rw [Rp g2]at J
     have K:dJ (lx f) (gn l (i+1))=eF (lx f) i (dJ (lx f) (gn l i)):=by rw[J,dJ,aaG];rfl
     obtain⟨S,hS⟩:∃S,S=dJ (lx f) (gn l i):=⟨_,rfl⟩
     have a9:∀x∈S,0<=x/\x.toNat<f.az.length:=λx L=>by have:=Fq ((te _ _ x).1 (hS ▸ L));omega
     rw[<-hS]at K r a7;obtain⟨x,L⟩:∃x,x=(i:Int):=⟨_,rfl⟩;have P:x.toNat=i:=by omega
     have ad:(S.reverse.map int).length=S.length:=by simp
     rcases r.len with⟨rfl,F⟩|⟨sp,rfl⟩|⟨b0,ax,rfl⟩
     all_goals (
      refine aa.run lay [] ?_;simp[g,j,q,o,g2,ad];refine fU lay rfl rfl rfl cK rfl cK rfl pQ (by decide) (by simp;omega) (σ0:=σ) (es:=S.reverse.map int) (xs:=[int i]) (by simpa using r) (.inl (.inr ⟨_,by simp;rfl⟩)) (by simp) λa' D t=>?_
      rw[<-List.map_singleton (f:=int),<-List.map_append,<-L]at t
      obtain⟨b,cap,rest,rfl,t1,t2,t4,t5⟩:∃b cap rest,a'=.gK b 0 (S.length+1) cap/\σ b=none/\S.length+1<=cap/\D b=some (.cells ((S.reverse++[x]).map int++rest))/\rest.length=(cap-(S.length+1))*1:=by
       have Q:((S.reverse++[x]).map int).length=S.length+1:=by simp
       rcases t.2 with⟨e,_⟩|⟨b,cap,rest,r1,r2,r3,r4,r5,r6⟩
       . have:=congrArg List.length e
         rw[Q,aaW]at this;omega
       rw[Q]at r1 r3 r6;rw[dc (λe R=>by obtain⟨_,_,rfl⟩:=aab.1 R;rfl)]at r5
       exact⟨b,cap,rest,r1,r2,r3,r5,r6⟩
      have G:∀(d:ab) (T:afe),T.length=S.length+1->d b=some (.cells (T.reverse.map int++rest))->(∀y,y≠b->d y=D y)->bo σ d (.gK b 0 (S.length+1) cap) 1 (T.reverse.map int):=λd T M h5 U=>by
       refine⟨λy v hv=>?_,.inr ⟨b,cap,rest,by simp[M],t1,by simp[M];exact t2,λe R=>by obtain⟨_,_,rfl⟩:=aab.1 R;rfl,?_,by simp[M];omega⟩⟩
       . have:y≠b:=λe=>by subst e;rw[t1]at hv;cases hv
         rw[U y this];exact t.1 y v hv
       rw[dc (λe R=>by obtain⟨_,_,rfl⟩:=aab.1 R;rfl)];exact h5
      refine aa.run lay [] ?_;simp[g,j,o]
      refine aa.loop S.length (λk s=>∃env d p c,s=⟨env,d,[],.no⟩/\env 1=ints l/\env 2=.cp (bF f) 0/\env 5=.gK b 0 (S.length+1) cap/\env 6=int i/\env 7=int c.length/\S=p++c/\c.length+k=S.length/\eF (lx f) x S=p++eF (lx f) x c/\d b=some (.cells (c.reverse.map int++int x::(p.reverse.map int++rest)))/\∀y,y≠b->d y=D y)
       ⟨_,D,[],S,rfl,by simp[g],by simp[j],by simp,by simp[o],by first|(simp;done)|(simp at F;simp[F]),rfl,rfl,rfl,by rw[t4];simp,λ_ _=>rfl⟩ ?_
      clear g j q o
      rintro c1 k _ hk ⟨env,d,p,c,rfl,g,j,q,o,V,u,hlen,w,hc,U⟩ al
      cases c with
      | nil=>
        simp only[aaW,adn]at hlen;simp only[aaE]at u;have M:dJ (lx f) (gn l (i+1))=p++[x]:=by rw[K,<-L,w];rfl
        refine aa.run lay [] ?_;simp[g,j,q,o,V];refine aa.run lay [] ?_;simp[g,j,q,o,V,f1.1,f1.2];exact ih _ g1 ⟨_,d,.gK b 0 (S.length+1) cap,rfl,by simp[g],by simp[j],by simp[q],by simp,by rw[M];exact G d (p++[x]) (by rw[u];simp) (by simpa using hc) U⟩
      | cons z c=>
        obtain⟨q1,q2,q3,q4⟩:=Wx (A:=c.reverse.map int) (B:=p.reverse.map int++rest) (x:=int x) (y:=int z) (n:=c.length) (by simp)
        have W:d b=some (.cells (c.reverse.map int++int z::int x::(p.reverse.map int++rest))):=by rw[hc];simp
        have N:=a9 z (by rw[u];simp)
        have p1:(0:Int)<(c.length:Int)+1:=by omega
        have H:S.length=p.length+(c.length+1):=by rw[u];simp
        have p2:(c.length:Int)+1<(S.length:Int)+1:=by omega
        have p3:(c.length:Int)<(S.length:Int)+1:=by omega
        have p4:(0:Int)<=(c.length:Int)+1:=by omega
        have p5:((c.length:Int)+1).toNat=c.length+1:=by omega
        have Y:-9223372036854775808<=(c.length:Int)/\(c.length:Int)<=9223372036854775807:=by omega
        refine aa.run lay [] ?_;simp[g,j,q,o,V,p1,p2,p3,p4,p5,Y.1,Y.2,W,q1,q2,N.1,N.2,g1];have ez:=jO N.2;have ex:aP f x=f.az[i]:=by rw[jO (by rw[P];exact g1)];simp[P]
        by_cases E:f.az[i].hour<f.az[z.toNat].hour
        . have O:eF (lx f) x (z::c)=z::eF (lx f) x c:=yA (by rw[ez,ex];exact E)
          have p7:c.length+1+1<=c.length+(p.length+rest.length+1+1):=by omega
          have p8:c.length+1<=c.length+(p.length+rest.length+1+1):=by omega
          rw[<-L]at o;refine aa.run lay [] ?_;simp[g,j,q,o,V,E,p1,p2,p3,p4,p5,Y.1,Y.2,W,q1,q2,p7,p8];refine al _ (by rw[H];simp at hlen;omega) ⟨_,_,p++[z],c,rfl,by simp[g],by simp[j],by simp[q],by simp[o,L],by simp,by rw[u];simp,by simp at hlen;omega,by rw[w,O];simp,?_,λy X=>?_⟩
          . rw[ab.ai];simp
          rw[ab.ah _ _ X];exact U y X
        have O:eF (lx f) x (z::c)=x::z::c:=yB (by rw[ez,ex];exact E)
        have M:dJ (lx f) (gn l (i+1))=p++x::z::c:=by rw[K,<-L,w,O]
        refine aa.run lay [] ?_;simp[g,j,q,o,V,E,f1.1,f1.2];exact ih _ g1 ⟨_,d,.gK b 0 (S.length+1) cap,rfl,by simp[g],by simp[j],by simp[q],by simp,by rw[M];exact G d (p++x::z::c) (by rw[H];simp;omega) (by simpa using hc) U⟩)
   rw[KD g2,aaE]at J;refine aa.run lay [] ?_
   simp_all
 have av:i=f.az.length:=by omega
 subst av;refine aa.run lay [] ?_;simp[g,j,q,o,C.1,C.2];have:gn l f.az.length=uU f l:=rfl;rw[this]at r;refine r.thaw ?_;rw[lQ]at h;exact h
theorem HI{f l}(r:f.Good)(hl:l.length<1000000)(h:KF (.val (bool (!bG f (aM f (uU f l))))) σ):aB Tryz.prog m 91 [bF f,ints l] σ KF:=by
 have I:=r.cJ;have h6:=r.mT;obtain⟨L,M⟩:∃L,L=aM f (uU f l):=⟨_,rfl⟩
 have h0:∀n∈L,0<=n/\n<f.az.length:=λn hn=>by rw[M]at hn;exact(zd.1 (qK.1 hn)).1
 have hlen:L.length<=1000:=by rw[M];have:=(jB f (uU f l)).length_eq;rw[this];have:=xB l f.az.length;show(gn l f.az.length).length<=1000;omega
 rw[<-M]at h;unfold bG at h;refine aB.start lay [] Y9 2 Tryz.func91 rfl rfl (by rfl) (by kernel_rfl) ?_
 simp[Tryz.f91];refine ak Tryz.func123 rfl rfl (HH (by omega) hl ?_)
 rw[<-M];refine aa.run lay [] ?_;simp;refine aa.loop (L.length-1) (λk s=>∃env E,s=⟨env,E,[],.no⟩/\σ.Le E/\env 1=ints L/\env 2=.cp (bF f) 0/\env 5=int ((k:Int)+1)/\∀i<k,eU f (L.getD i 0) (L.getD (i+1) 0)=false) ⟨_,_,rfl,ab.le_refl _,by simp⟩ ?_
 rintro c0 k _ hk ⟨env,E,rfl,a,j,o,q,z⟩ ih
 rcases aaA (k+1) L.length with g1|g1
 . have W:(k:Int)+1<L.length:=by omega
   have X:k<L.length:=by omega
   obtain⟨x0,x1⟩:=h0 _ (ys X);obtain⟨y0,y1⟩:=h0 _ (ys g1);have N:L[k].toNat<f.az.length:=by omega
   have O:L[k+1].toNat<f.az.length:=by omega
   have f1:-9223372036854775808<=(k:Int)/\(k:Int)<=9223372036854775807:=by omega
   have f2:((k:Int)+1).toNat=k+1:=by omega
   have f3:(0:Int)<=(k:Int)+1:=by omega
   have P:-9223372036854775808<=(k:Int)+1+1/\(k:Int)+1+1<=9223372036854775807:=by omega
   obtain⟨A,Q⟩:∃A,A=f.az[L[k].toNat]:=⟨_,rfl⟩;obtain⟨B,R⟩:∃B,B=f.az[L[k+1].toNat]:=⟨_,rfl⟩;have eA:=jO N;have eB:=jO O;rw[<-Q]at eA;rw[<-R]at eB;have bA:=lP (r.r7 A (by grind))
   have bB:=lP (r.r7 B (by grind))
   have S:A.place.toNat<f.roads.length:=by omega
   obtain⟨r1,r2⟩:=r.row S;have T:B.place.toNat<f.roads[A.place.toNat].length:=by omega
   obtain⟨r3,r4⟩:=r2 _ (ys T);have Y:rd f.roads A.place.toNat B.place.toNat=f.roads[A.place.toNat][B.place.toNat]:=eo S T;have lA:=iR (mV bA.2.2.2.2.2);have lB:=iR (mV bB.2.2.2.2.2);obtain⟨_,Z,c3⟩:=Dw lA lB;have a7:=Fp bA.2.2.2.2.2 bB.2.2.2.2.2;obtain⟨ch,J⟩:∃ch,ch=bM (aR A.marks) (aR B.marks):=⟨_,rfl⟩;have C:uT A.marks B.marks=ch:=by omega
   rw[<-J]at Z c3
   have hmul:0<=f.cJ*ch/\f.cJ*ch<=30:=by
    constructor
    . exact Int.mul_nonneg (by omega) Z
    calc f.cJ*ch<=6*5:=aej I.2 c3 Z (by omega)
     _=30:=by rfl
   have p:eU f L[k] L[k+1]=decide (B.hour-A.hour<f.roads[A.place.toNat][B.place.toNat]+f.cJ*ch):=by unfold eU;rw[eA,eB,Y,J]
   have t:L.getD k 0=L[k]:=by simp[zD,X]
   have u:L.getD (k+1) 0=L[k+1]:=by simp[zD,g1]
   have D:-9223372036854775808<=B.hour-A.hour/\B.hour-A.hour<=9223372036854775807:=by omega
   have U:-9223372036854775808<=f.cJ*ch/\f.cJ*ch<=9223372036854775807:=by omega
   have V:-9223372036854775808<=f.roads[A.place.toNat][B.place.toNat]+f.cJ*ch/\f.roads[A.place.toNat][B.place.toNat]+f.cJ*ch<=9223372036854775807:=by omega
   refine aa.run lay [] ?_;simp[j,o,q,W,X,g1,x0,N,y0,O,f1.1,f1.2,f2,f3,<-Q,<-R];refine⟨nH.intro λc K=>?_,nH.intro λc K=>?_⟩
   . simp [j,o,q]
     refine nH.intro λd hd=>?_
     obtain⟨v,F,hd⟩:=ab.aS hd;simp[j,o,q,v,F,ab.ah];refine aa.bf 6 (b:=c) (bj A) (by simp[v,F,ab.ah]) (by simp) rfl ?_
     refine aa.bf 7 (b:=d) (bj B) (by simp[v,F,ab.ah,ab.del]) (by simp) rfl ?_
     ((
       refine aa.run lay [] ?_;simp[j,o,q,D.1,D.2,S,T]
       repeat refine⟨by omega,?_⟩
       refine ak Tryz.func124 rfl rfl (RC.xA (r.fits.marks A (by rw[Q];exact ys N)) (r.fits.marks B (by rw[R];exact ys O)) ?_)
       rw[C];refine aK.go lay [] ?_;simp[j,o,q,D.1,D.2,U.1,U.2,V.1,V.2];refine aa.run lay [] ?_
       by_cases w:B.hour-A.hour<f.roads[A.place.toNat][B.place.toNat]+f.cJ*ch
       . simp[w]
         have:(List.range (L.length-1)).any (λi=>eU f (L.getD i 0) (L.getD (i+1) 0))=true:=aaO.2 ⟨k,zH.2 (by omega),by rw[t,u,p];simpa using w⟩
         rw[this]at h;refine .less ?_ (.done h);intro y x g;have G:y≠c:=λe=>by rw[e,a.none K]at g;cases g
         have H:y≠d:=λe=>by rw[e,a.none hd]at g;cases g
         simpa[ab.del,ab.ah,G,H]using a y x g
       . simp[w,j,o,q,P.1,P.2]
         refine ih _ (by omega) ⟨_,_,rfl,λy x g=>?_,by simp[j],by simp[o],by simp,λi hi=>?_⟩
         . have G:y≠c:=λe=>by rw[e,a.none K]at g;cases g
           have H:y≠d:=λe=>by rw[e,a.none hd]at g;cases g
           simpa[ab.del,ab.ah,G,H]using a y x g
         . by_cases e:i=k
           . subst e;rw[t,u,p];simpa using w
           . exact z i (by omega)))
   simp[j,o,q];refine nH.intro λd hd=>?_
   obtain⟨v,F,hd⟩:=ab.aS hd;simp[j,o,q,v,F,ab.ah];refine aa.bf 6 (b:=d) (bj A) (by simp[v,F,ab.ah]) (by simp) rfl ?_
   refine aa.bf 7 (b:=c) (bj B) (by simp[v,F,ab.ah,ab.del]) (by simp) rfl ?_
   ((
     refine aa.run lay [] ?_;simp[j,o,q,D.1,D.2,S,T]
     repeat refine⟨by omega,?_⟩
     refine ak Tryz.func124 rfl rfl (RC.xA (r.fits.marks A (by rw[Q];exact ys N)) (r.fits.marks B (by rw[R];exact ys O)) ?_)
     rw[C];refine aK.go lay [] ?_;simp[j,o,q,D.1,D.2,U.1,U.2,V.1,V.2];refine aa.run lay [] ?_
     by_cases w:B.hour-A.hour<f.roads[A.place.toNat][B.place.toNat]+f.cJ*ch
     . simp[w]
       have:(List.range (L.length-1)).any (λi=>eU f (L.getD i 0) (L.getD (i+1) 0))=true:=aaO.2 ⟨k,zH.2 (by omega),by rw[t,u,p];simpa using w⟩
       rw[this]at h;refine .less ?_ (.done h);intro y x g;have G:y≠c:=λe=>by rw[e,a.none K]at g;cases g
       have H:y≠d:=λe=>by rw[e,a.none hd]at g;cases g
       simpa[ab.del,ab.ah,G,H]using a y x g
     . simp[w,j,o,q,P.1,P.2]
       refine ih _ (by omega) ⟨_,_,rfl,λy x g=>?_,by simp[j],by simp[o],by simp,λi hi=>?_⟩
       . have G:y≠c:=λe=>by rw[e,a.none K]at g;cases g
         have H:y≠d:=λe=>by rw[e,a.none hd]at g;cases g
         simpa[ab.del,ab.ah,G,H]using a y x g
       . by_cases e:i=k
         . subst e;rw[t,u,p];simpa using w
         . exact z i (by omega)))
 have v:¬(k:Int)+1<L.length:=by omega
 refine aa.run lay [] ?_;simp[j,o,q,v]
 have:(List.range (L.length-1)).any (λi=>eU f (L.getD i 0) (L.getD (i+1) 0))=false:=by grind
 rw[this]at h;exact .less a (.done h)
theorem KU{f}(d:f.Good){x}(e:0<=x/\x<f.az.length):bG f (aM f [x,x])=false:=by
 have i:=jB f [x,x];refine pR ?_;have c:∀a∈aM f [x,x],a=x:=λa j=>by grind
 have key:∀l:afe,(∀a∈l,a=x)->l.Pairwise (Fit f):=by
  intro l;induction l with
  |nil=>simp_all
  | cons a l g=>
    intro h;refine aaK.2 ⟨λb hb=>?_,g λb hb=>h b (by simp[hb])⟩;rw[h a (by simp),h b (by simp[hb])];exact Fs d e
 simp_all
def yC(f:Fr)(x y:Int):Int:=if(aP f x).cy≠(aP f y).cy then 1 else if iP f [x,y]=[]then 2 else if bG f (aM f (uU f [x,y]))=true then 3 else 0
theorem HJ{f}(g:f.Good){x y a b}(r:0<=x/\x<f.az.length)(s:0<=y/\y<f.az.length)(d:(x=a/\y=b)\/(x=b/\y=a))(h:a<=b):yC f x y=jT f [a,b]:=by
 have i:0<=a/\a<f.az.length:=by omega
 have hb:0<=b/\b<f.az.length:=by omega
 have j:∀n∈[a,b],0<=n/\n<f.az.length:=λn t=>by grind
 have u:=Np f (l:=[a,b]) (by simp);have v:=HF g (l:=[a,b]) (by simp) j
 have k:iP f [x,y]=iP f [a,b]:=by
  rcases d with⟨rfl,rfl⟩|⟨rfl,rfl⟩
  . rfl
  unfold iP
  grind
 have m:Dt f [a,b]=decide ((aP f x).cy=(aP f y).cy):=by
  unfold Dt
  grind
 have o:bG f (aM f (uU f [x,y]))=bG f (aM f [a,b]):=by
  rcases aew a b with q|q
  . have:uU f [x,y]=[a,b]:=by
     refine Dr (Jy f _) (by simp[q]) λz=>?_
     rw[zd]
     grind
    rw[this]
  have e:a=b:=by omega
  subst e;have c:x=a/\y=a:=by omega
  rw[c.1,c.2,KU g i]
  have:uU f [a,a]=[a]:=by
   refine Dr (Jy f _) (by simp) λz=>?_
   rw[zd]
   simp_all
  rw[this];have p:aM f [a]=[a]:=by simp[aM,dJ,eF]
  rw[p];rfl
 unfold yC jT
 grind
theorem HK{f x y}(g:f.Fits)(t:dV f [x,y]≠0->KF (.val (.bL [int 0,int (dV f [x,y])])) σ)(u:dV f [x,y]=0->KF (.val (.bL [int (yC f x y),int 0])) σ):aB Tryz.prog m 52 [bF f,int x,int y] σ KF:=by
 have v:=g.az;refine aB.start lay [] Y7 3 Tryz.func52 rfl rfl (by rfl) (by kernel_rfl) ?_;simp[Tryz.f52];refine ak Tryz.func89 rfl rfl (KT g ?_);refine aa.run lay [] ?_;simp;refine aG.intro (λa=>?_) (λa=>?_)<;>simp at a<;>simp[a]
 . exact .done (t a)
 have h:=u a
 have i:check f=0/\(0<=x/\x<f.az.length)/\(0<=y/\y<f.az.length):=by
  unfold dV at a;split at a
  . omega
  next q=>
  split at a
  . next c=>simp only[acd,aex,Bool.and_true,zj,sf]at c;omega
  cases a
 obtain⟨w,o,p⟩:=i;have r:=Fr.pw g w;have j:x.toNat<f.az.length:=by omega
 have k:y.toNat<f.az.length:=by omega
 have z:∀n∈[x,y],0<=n/\n<f.az.length:=λn A=>by grind
 unfold yC at h;rw[jO j,jO k]at h;have s:Wl [bF f,.sl 1 [int x,int y] .exact] [bF f,ints [x,y]]:=.cons (.refl _) (.cons (eZ 1 [int x,int y] .exact) .nil);by_cases e:f.az[x.toNat].cy=f.az[y.toNat].cy
 . have b:(f.az[x.toNat].cy !=f.az[y.toNat].cy)=false:=by simp[e]
   rw[KD (by simp[e])]at h;simp[o.1,j,p.1,k,b];refine aa.run lay [] ?_;simp;refine bp Tryz.func90 rfl rfl s (RG r (by simp) z ?_);refine aa.run lay [] ?_;simp;by_cases c:iP f [x,y]=[]
   . rw[Rp c]at h
     simp[c];exact .done h
   rw[KD c]at h;have l:(((iP f [x,y]).length:Int)==0)=false:=by simp_all
   simp[l];refine bp Tryz.func91 rfl rfl s (HI r (by simp) ?_);refine aa.run lay [] ?_;simp;by_cases d:bG f (aM f (uU f [x,y]))=true
   . rw[Rp d]at h
     simp[d];exact .done h
   rw[KD d]at h;have d:bG f (aM f (uU f [x,y]))=false:=by simp_all
   simp[d];exact .done h
 have b:(f.az[x.toNat].cy !=f.az[y.toNat].cy)=true:=by simp[e]
 rw[Rp e]at h;simp[o.1,j,p.1,k,b];refine aa.run lay [] ?_;simp;exact .done h
end
section
open Go Go.bN Go.Conc
variable{m:Mo}{σ:ab}{KF:aeQ}
theorem Ns{w i k}(hi:0<=i/\i<w.fair.az.length)(g:0<=k/\k<w.aj.length)(r:w.fair.az.length<=1000/\w.aj.length<=1000)(c:(bs w [i] [k]).Good)(h:KF (.val (bool (decide (jT (bs w [i] [k]) [0,1]=0)))) σ):aB Tryz.prog m 25 [bS w,int i,int k] σ KF:=by
 have e:i.toNat<w.fair.az.length:=by omega
 have f:k.toNat<w.aj.length:=by omega
 have j:aP w.fair i=w.fair.az[i.toNat]:=by simp[aP,e]
 have l:uj w k=w.aj[k.toNat]:=by simp[uj,f]
 have n:dV (bs w [i] [k]) [0,1]=0:=by unfold dV;simp[c.yl];decide
 have o:=HJ c (x:=0) (y:=1) (a:=0) (b:=1) (by simp) (by simp) (.inl ⟨rfl,rfl⟩) (by omega)
 refine aB.start lay [] Y6 3 Tryz.func25 rfl rfl (by rfl) (by kernel_rfl) ?_
 simp[Tryz.f25];refine bO.intro λd hd=>?_
 simp[aI,hi.1,hi.2,g.1,g.2];simp only[<-j,<-l]
 change aa _ _ _ _ _ _ _ _ _
 refine aa.bf 7 (b:=d) (.agg (.sl 6 [bj (aP w.fair i),bj (uj w k).lost] .exact::Cf w.fair)) (ab.ai _ _ _) (by simp) rfl ?_
 rw[dH hd];refine aa.run lay [] ?_;simp;have p:Wl [.agg (.sl 6 [bj (aP w.fair i),bj (uj w k).lost] .exact::Cf w.fair),int 0,int 1] [bF (bs w [i] [k]),int 0,int 1]:=.cons (HL (eZ 6 _ .exact)) (.cons (.refl _) (.cons (.refl _) .nil));refine bp Tryz.func52 rfl rfl p (HK c.fits (λq=>absurd n q) λ_=>?_)
 rw[o];refine aa.run lay [] ?_;simp;rw[show(jT (bs w [i] [k]) [0,1]==0)=decide (jT (bs w [i] [k]) [0,1]=0)from rfl]
 exact .done h
end
open Go.bN Go.Conc
variable{m:Mo}{σ:ab}{KF:aeQ}
theorem Uh(w:cC)(h i:Int):(m8 w.aj.length).filter (λc=>decide (c∈qE w h i))=qE w h i:=by
 unfold qE;refine ads λc a=>?_
 rw[adB,zR,aaC];exact⟨λq=>q.2,λq=>⟨a,q⟩⟩
theorem Ft(Q:m.solo=true){D:afe}(hn:D.length<1152921504606846976)(h:∀σ',KF (.val (bool true)) σ'):pS Tryz.prog lay m 6 [ints D] σ KF:=by
 refine pS.start lay [] [] 1 Tryz.func6 rfl rfl (by rfl) (by kernel_rfl) ?_
 simp[Tryz.f6];refine ak Tryz.func10 rfl rfl (wx λc a9 hc hb G=>?_)
 refine aa.run lay [] ?_;simp;refine ak Tryz.func11 rfl rfl (WA.uo (by omega) hn ⟨by omega,by omega⟩ hb λw own lost ad H hd=>?_)
 refine aa.runN lay [] 14 ?_;simp;refine bO.intro λd I=>?_
 simp[aI]
 change aa _ _ _ _ _ _ _ _ _
 refine aa.bf 4 (b:=d) (bS w.wide) (ab.ai _ _ _) (by simp) rfl ?_
 rw[dH I];have y:=HC H.valid H.yl;have hk:=Fi H.valid H.yl;have R:w.wide.fair.aX=6:=rfl;clear H;generalize w.wide=w at *;have hO:=y.open;have c3:=y.ov.1;have h6:=y.mT;refine aa.run lay [] ?_;simp;refine ak Tryz.func16 rfl rfl (fE (by omega) hn (by omega) hd.1 λn al av S=>?_)
 have ax:0<=n/\n<=72:=by omega
 have o1:dI w [n] [] []=0:=nI hk (by simp;omega) (by simp) (by simp)
 refine aa.run lay [] ?_;simp;refine ak Tryz.func23 rfl rfl (KM Q y.jA hO.mT o1 ?_);rw[y.kE,y.kC];have T:=qF w n;have U:=qG w n;obtain⟨E,hE⟩:∃E,E=dE w n:=⟨_,rfl⟩;obtain⟨C,hC⟩:∃C,C=dv w n:=⟨_,rfl⟩;rw[<-hE]at T ⊢;rw[<-hC]at U ⊢;clear hd hb G hc I S;refine aa.run lay [] ?_;simp;refine aa.gN (λenv _=>env 4=.cp (bS w) 0/\env 7=int n/\env 8=ints E/\env 9=ints C/\env 11=int 0) ?_ ?_
 . exact⟨by simp,by simp,by simp,by simp,by simp⟩
 rintro env t ⟨o,u,v,x,bH⟩
 refine aa.loop w.fair.az.length (λi s=>∃env σ',s=⟨env,σ',[],.no⟩/\env 4=.cp (bS w) 0/\env 7=int n/\env 8=ints E/\env 9=ints C/\env 11=int i) ⟨env,t,rfl,o,u,v,x,bH⟩ ?_
 clear o u v x bH env t
 rintro c0 i _ hi ⟨env,t,rfl,o,u,v,x,bH⟩ ih
 refine aa.run lay [] ?_;simp[o,bH];refine aG.intro (λJ=>?_) (λJ=>?_)<;>(try simp[-Int.not_lt,-Int.not_le,-Nat.not_lt,-Nat.not_le]at J)<;>(try simp[J])
 . have ow : dI w [n] [(i:Int)] []=0:=nI hk (by simp;omega) (by simp;omega) (by simp)
   have V:(0:Int)<=i/\(i:Int)<6:=by omega
   obtain⟨p,hp⟩:∃p:Int->Bool,p=λc=>decide (c∈qE w n i):=⟨_,rfl⟩
   have K:=Uh w n i;rw[<-hp]at K;have X:=Nn w n i
   have L:∀k:Nat,k<w.aj.length->(p k=true↔((i:Int)∈E/\(k:Int)∈C)/\jT (bs w [(i:Int)] [(k:Int)]) [0,1]=0):=λk q=>by rw[hp,hE,hC,zR];exact KO y R J q
   refine aa.loop w.aj.length (λk s=>∃env σ' a,s=⟨env,σ',[],.no⟩/\(env 4=.cp (bS w) 0/\env 7=int n/\env 8=ints E/\env 9=ints C/\env 11=int i/\env 12=a/\env 13=int k)/\Go.bN.Tok t σ' a 1 (((m8 k).filter p).map int)) ⟨_,_,_,rfl,⟨by simp[o],by simp[u],by simp[v],by simp[x],by simp[bH],by simp,by simp⟩,Tok.nil t 1⟩ ?_
   clear o u v x bH env
   rintro c1 k _ ay ⟨env,aC,a,rfl,⟨o,u,v,x,bH,fa,e⟩,f⟩ A
   have aE:=f.cells;have g:=se k p;have aL:((m8 k).filter p).length<=k:=by have:=aaN p (m8 k);rwa [mU]at this
   refine aa.run lay [] ?_;simp[o,e];refine aG.intro (λF=>?_) (λF=>?_)<;>(try simp[-Int.not_lt,-Int.not_le,-Nat.not_lt,-Nat.not_le]at F)<;>(try simp[o,u,v,bH,F])
   . have B:=L k F
     by_cases N:(i:Int)∈E
     . have Y:0<=pT E i:=(iS _ _).2 N
       refine ak Tryz.func21 rfl rfl (lR (by omega) ?_)
       refine aa.run lay [] ?_;simp[x,e,Y]
       by_cases O:(k:Int)∈C
       . have Z:0<=pT C k:=(iS _ _).2 O
         have hg:(bs w [(i:Int)] [(k:Int)]).Good:=m9 y (λj q=>by rw[lb.1 q];omega) (λj q=>by rw[lb.1 q];omega) (by simp)
         refine ak Tryz.func21 rfl rfl (lR (by omega) ?_)
         refine aa.run lay [] ?_;simp[o,bH,e,Z];refine ak Tryz.func25 rfl rfl (Ns (by omega) (by omega) (by omega) hg ?_)
         by_cases P:jT (bs w [(i:Int)] [(k:Int)]) [0,1]=0
         . rw[decide_eq_true P]
           have r:p k=true:=B.2 ⟨⟨N,O⟩,P⟩;rw[r]at g;refine aa.run lay [] ?_;simp[fa,e];refine aN lay rfl rfl rfl cK rfl cK rfl pQ (by decide) (by simp only[aac,ade];omega) (σ0:=t) (es:=((m8 k).filter p).map int) (xs:=[int k]) (by simpa using f) (.inr ⟨_,by simp;rfl⟩) λa2 aO M=>?_
           have a8:=M.cells;refine aa.run lay [] ?_;simp[e];refine⟨by omega,A _ F ⟨_,_,a2,rfl,⟨by simp[o],by simp[u],by simp[v],by simp[x],by simp[bH],by simp,by simp⟩,?_⟩⟩
           rw[g,aaq];simpa using M
         rw[decide_eq_false P];have r:p k=false:=by rw[adI];exact λz=>P (B.1 z).2
         rw[r]at g;refine aa.run lay [] ?_;simp[e];refine⟨by omega,A _ F ⟨_,_,a,rfl,⟨by simp[o],by simp[u],by simp[v],by simp[x],by simp[bH],by simp[fa],by simp⟩,?_⟩⟩
         rw[g];simpa using f
       have Z:¬0<=pT C k:=λz=>O ((iS _ _).1 z)
       have r:p k=false:=by rw[adI];exact λz=>O (B.1 z).1.2
       rw[r]at g;refine ak Tryz.func21 rfl rfl (lR (by omega) ?_)
       refine aa.run lay [] ?_;simp[e,Z];refine⟨by omega,A _ F ⟨_,_,a,rfl,⟨by simp[o],by simp[u],by simp[v],by simp[x],by simp[bH],by simp[fa],by simp⟩,?_⟩⟩
       rw[g];simpa using f
     have Y:¬0<=pT E i:=λz=>N ((iS _ _).1 z)
     have r:p k=false:=by rw[adI];exact λz=>N (B.1 z).1.1
     rw[r]at g;refine ak Tryz.func21 rfl rfl (lR (by omega) ?_)
     refine aa.run lay [] ?_;simp[e,Y];refine⟨by omega,A _ F ⟨_,_,a,rfl,⟨by simp[o],by simp[u],by simp[v],by simp[x],by simp[bH],by simp[fa],by simp⟩,?_⟩⟩
     rw[g];simpa using f
   have ek:k=w.aj.length:=by omega
   subst ek;rw[K]at f;obtain⟨l,hl⟩:∃l,l=qE w n i:=⟨_,rfl⟩;rw[<-hl]at f X;have a7:Wl [ints l,a] [ints l,ints l]:=.cons (.refl _) (.cons f.W .nil);refine ak Tryz.func24 rfl rfl (Rw Q y.jA hO V ow ?_);rw[<-hl];refine aa.run lay [] ?_;simp[fa];refine bp Tryz.func18 rfl rfl a7 (kg (by omega) (by omega) ?_)
   refine aa.run lay [] ?_;simp[bH];refine⟨by omega,ih _ J ⟨_,_,rfl,by simp[o,u,v,x]⟩⟩
 refine ak Tryz.func14 rfl rfl (zk Q ?_);refine aa.run lay [] ?_;simp;exact .done (h _)

import Derived.Test.YtebcbkhnlnkolaaGreatDoorC21
set_option linter.all false
set_option maxHeartbeats 2000000
set_option maxRecDepth 4000
namespace Go.Proofs.YtebcbkhnlnkolaaGreatDoor
section
open Go.bU
abbrev pl5:adH:=[⟨24,.take [0,1,2,3,4,5,6,7,8,9,10,11,12,13,14,15] true (.done)⟩,⟨26,.take [0,1,2,3,4,5] false (.one 6 (.take [7,8,9,10,11] true (.done)))⟩,⟨32,.take [0,1,2,3,4,5,6,7,8,9,10,11,12,13,14] true (.done)⟩,⟨34,.take [0,1,2,3,4,7,8,9,10,11,12,13,14,15,16,18] false (.one 5 (.take [6,17] true (.done)))⟩]
end
section
open Go.bU Go.Conc
theorem sJ{n all}(h:0<all):toldOf n all=2↔n=0:=by unfold toldOf;omega
theorem uR{α:Type}  p  (l:List α):(l.filter p).length=0↔∀x∈l,p x=false:=by simp_all
section
variable{L:adw}{n:Nat}
theorem sK(a:0<L.length){x y}:qv L x y=2↔∀w∈L,fL x y w=false:=by
 have:=abq (fL (x:Int) y) L;unfold qv;rw[jP (by omega) (by omega) (by omega),sJ (by omega),<-uR];omega
end
theorem uS  L   x y  (a:0<L.length):qv L x y=1\/qv L x y=2\/qv L x y=3:=by
 have:=abq (fL (x:Int) y) L;unfold qv;rw[jP (by omega) (by omega) (by omega)];unfold toldOf;omega
end
section
open Go Go.bU Go.Conc
variable{m:Mo}{σ:ab}{KF:adC}
theorem B7(a:m.solo=true){w}(c:w.og)(d:w.Open){h i}(hi:0<=i/\i<6)(e:dZ w [h] [i] []=0)(f:KF (.val (.cI [ints (kF w h i),int 0])) σ):aA Tryz.prog m 24 [cA w,int h,int i] σ KF:=by
 have g:Wl [cA w,.sl 1 [int h] .exact,.sl 1 [int i] .exact,m7] [cA w,ints [h],ints [i],ints []]:=PO (.refl _) (eY 1 _ _) (eY 1 _ _) (fy 1);refine aA.start lay [] [] 3 Tryz.func24 rfl rfl (by rfl) (by kernel_rfl) ?_;simp[Tryz.f24];refine bK Tryz.func41 rfl rfl g (jR a c (by simp) (λq=>absurd e q) λq j fb mb b=>?_);refine aa.run lay [] ?_;simp;refine aj Tryz.func51 rfl rfl (xk a d hi b.vQ λk n l=>?_);refine aa.run lay [] ?_;simp;exact .less (b.less l) (.done f)
end
section
open Go.bU Go.Conc
section
variable{w:fA}
theorem xl(a:w.Valid){h i c}(hi:0<=i/\i<6)(d:0<=c/\c<3):ly (dG w h i c)=true↔(i∈bo w h/\c∈bz w h)/\∃v∈aI (gZ w h) [],GS (eh w h) i (c+w.fair.au.length) v=true:=by
 have b:=uT a h;rw[xm a hi d];split
 . next q=>
   have f:=sK b (x:=(eh w h).idxOf i) (y:=(eh w h).idxOf (c+w.fair.au.length))
   have g:ly (B8 w h i c)=true↔B8 w h i c≠2:=by rcases uS (aI (gZ w h) []) ((eh w h).idxOf i) ((eh w h).idxOf (c+w.fair.au.length)) b with e|e|e<;>simp[B8,e,ly]
   rw[g,Ne,f];unfold GS
   simp_all
 . next q=>exact⟨λz=>(by cases z),λz=>absurd z.1 q⟩
end
section
variable{w:fA}
theorem mP{h b}(d:h<=b):(∀i∈bo w h,i∈bo w b)/\∀i∈bz w h,i∈bz w b:=by
 refine⟨λi q=>?_,λi q=>?_⟩
 . obtain⟨c,a⟩:=abm.1 q
   have a:=abK a;exact abm.2 ⟨c,decide_eq_true (by omega)⟩
 . obtain⟨c,a⟩:=abm.1 q
   unfold pC at a;rw[za,KD,KD]at a;refine abm.2 ⟨c,?_⟩;unfold pC
   grind
theorem sX{h a}(b:h<=a):∀g∈eh w h,g∈eh w a:=λg q=>by
 obtain⟨c,d⟩:=mP (w:=w) b
 grind
theorem yU(b:w.Valid){h a}(c:h<=a){v}(d:v∈aI (gZ w a) []):∃u∈aI (gZ w h) [],∀g∈eh w h,∀g'∈eh w h,GS (eh w h) g g' u=GS (eh w a) g g' v:=B9 (iH w a) (iH w h) (sX c) (acw _) (iu b a) (iu b h) d
theorem MJ(a:w.Valid){h b i c}(f:h<=b)(hi:0<=i/\i<6)(g:0<=c/\c<3)(j:i∈bo w h/\c∈bz w h)(d:ly (dG w b i c)=true):ly (dG w h i c)=true:=by
 rw[xl a hi g]at d ⊢;obtain⟨l,m⟩:=xn j;obtain⟨_,v,k,n⟩:=d;obtain⟨u,o,e⟩:=yU a f k
 grind
end
theorem Qs{w}(b:w.Valid){h d}(e:h<=d){i c:Nat}(hi:i<w.fair.au.length)(g:c<w.aB.length)(f:(i:Int)∈bo w h/\(c:Int)∈bz w h)(a:(c:Int)∈kF w d i):(c:Int)∈kF w h i:=by have j:=b.lu;have k:=b.sa.1;unfold kF at a ⊢;rw[abm]at a ⊢;exact⟨a.1,MJ b e ⟨by omega,by omega⟩ ⟨by omega,by omega⟩ f a.2⟩
end
open Go.bU Go.Conc
variable{m:Mo}{σ:ab}{KF:adC}
theorem xT  w   h i :(kF w h i).length<=w.aB.length:=by unfold kF;refine aaE (abq _ _) ?_;rw[nk];exact aaA _

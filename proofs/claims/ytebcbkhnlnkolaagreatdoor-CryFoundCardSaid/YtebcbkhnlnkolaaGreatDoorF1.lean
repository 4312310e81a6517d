import Derived.Test.YtebcbkhnlnkolaaGreatDoorC21
set_option linter.all false
set_option maxHeartbeats 1000000
set_option maxRecDepth 4000
namespace Go.Proofs.YtebcbkhnlnkolaaGreatDoor
section
open Go.bU
abbrev pl4:adH:=[⟨13,.take [0,1,2,3,4] false (.both 5 (.take [6,7,8,9,10,13,14,15] false (.one 11 (.one 12 (.done)))) (.one 11 (.one 5 (.take [6,7,8,9,10,13,14,15] false (.one 12 (.done))))))⟩]
end
open Go.bU Go.Conc
theorem JG{n all}(h:0<all):toldOf n all=1↔n=all:=by unfold toldOf;omega
theorem EC{α:Type}  p :∀l:List α,(l.filter p).length=l.length↔∀x∈l,p x=true
 |[]=>by simp
 | a::l=>by
   have b:=EC p l
   grind
section
variable{L:adw}{n:Nat}
theorem Bm(a:0<L.length){x y}:qv L x y=1↔∀w∈L,fL x y w=true:=by
 have:=abq (fL (x:Int) y) L;unfold qv;rw[jP (by omega) (by omega) (by omega),JG (by omega),<-EC];omega
end
section
variable{w:fA}
theorem ED(a:w.Valid){h i c}(hi:0<=i/\i<6)(d:0<=c/\c<3):dG w h i c=1↔(i∈bo w h/\c∈bz w h)/\∀v∈aI (gZ w h) [],GS (eh w h) i (c+w.fair.au.length) v=true:=by
 have b:=uT a h;rw[xm a hi d];split
 . next q=>exact⟨λz=>⟨q,(Bm b).1 z⟩,λz=>(Bm b).2 z.2⟩
 simp_all
end
section
variable{w:fA}
theorem yT  v :∀  l   i ,v∈l->iW i l v=i+l.idxOf v
 |[],_,h=>by cases h
 | a ::l,i,h=>by
   rw[iW,List.idxOf_cons];by_cases e:a=v
   . simp[e]
   . have:(a==v)=false:=by grind
     rw[aau e,this,yT v l (i+1) ((abp.1 h).resolve_left λq=>e q.symm)];simp;omega
theorem mP{h b}(d:h<=b):(∀i∈bo w h,i∈bo w b)/\∀i∈bz w h,i∈bz w b:=by
 refine⟨λi q=>?_,λi q=>?_⟩
 . obtain⟨c,a⟩:=abm.1 q
   have a:=abK a;exact abm.2 ⟨c,decide_eq_true (by omega)⟩
 . obtain⟨c,a⟩:=abm.1 q
   unfold pC at a;rw[za,KD,KD]at a;refine abm.2 ⟨c,?_⟩;unfold pC
   grind
theorem sX{h a}(b:h<=a):∀g∈eh w h,g∈eh w a:=λg q=>by
 obtain⟨c,d⟩:=mP (w:=w) b
 grind
theorem yU(b:w.Valid){h a}(c:h<=a){v}(d:v∈aI (gZ w a) []):∃u∈aI (gZ w h) [],∀g∈eh w h,∀g'∈eh w h,GS (eh w h) g g' u=GS (eh w a) g g' v:=B9 (iH w a) (iH w h) (sX c) (acw _) (iu b a) (iu b h) d
theorem JH(b:w.Valid){h d i c}(f:h<=d)(hi:0<=i/\i<6)(g:0<=c/\c<3)(a:dG w h i c=1):dG w d i c=1:=by
 rw[ED b hi g]at a ⊢;obtain⟨j,k⟩:=mP (w:=w) f;obtain⟨m,n⟩:=xn a.1;refine⟨⟨j _ a.1.1,k _ a.1.2⟩,λv l=>?_⟩;obtain⟨u,o,e⟩:=yU b f l
 grind
end

import Derived.Test.YtggpckcdfilkoaaGreatDoorF4
set_option linter.all false
set_option maxHeartbeats 2000000
set_option maxRecDepth 4000
namespace Go.Proofs.YtggpckcdfilkoaaGreatDoor
open Go.Proofs.Tryz hiding f0 f1 f10
open Go Go.bu Go.Conc
variable{m:Mo}{σ:af}{KF:YC}
namespace RF
def JB(r:m.solo=true)(J:σ 0=some (.stay [fW])){w:bF}{c:Az}{x:Way}{n:Int}{j:RQ}(hw:w.Raw)(hm:c.lost.marks.length<1152921504606846976)(M:j.length<1152921504606846976)(h:∀σ',KF (.val (T0 true)) σ'):ll prog Ax m 7 [aT w,cK c,fG x,Xn n,Ae j] σ KF:=by
 refine ll.start Ax [] pl7 5 func7 rfl rfl (by rfl) s8 ?_;simp[f7];refine O1 func8 (wD ?_ λN=>?_)
 . apply rn
   simp;refine O1 func9 (jd r ?_);apply rn;simp;exact .done (h _)
 by_cases K:(20:Int)<c.lost.marks.length
 . apply rn
   simp[K];refine O1 func9 (jd r ?_);apply rn;simp;exact .done (h _)
 have t:c.lost.marks.length<=20:=ac
 apply rn;simp[K];refine O1 func10 (ug λb O P hb C=>?_);apply pg;simp;refine O1 func11 (pT ac M hb λmade other own lost D hd Q R E=>?_)
 have l:∀v∈[w,made,other],v.Small:=λv o=>by
  simp at o;rcases o with rfl|rfl|rfl
  . exact N
  . exact hd.small
  . exact hd.other t Q
 have hlen:[w,made,other].length=3:=rfl;generalize [w,made,other]=L at l hlen ⊢;have F:σ.Le D:=λy z u=>am
 apply pg;simp;apply rn;simp;refine aa.weaken (σ:=σ) ?_ F;refine aa.loop L.length (λi=>MY σ λε=>ε 3=Xn n/\ε 11=.sl 9 (L.map aT) .any/\ε 12=Xn i) ⟨_,rfl,ap,ap,ap⟩ ?_;rintro c0 i _ hi ⟨ε,rfl,A,fh,iQ⟩ S;rcases za i L.length with g1|g1
 . have q:(i:Int)<L.length:=ac
   have f1:=M1 ((i:Int)+1)
   obtain⟨v,o⟩:=S1 (L[i]);have a:=l v aq;have e:=a.short;have T:=a.ways;have U:=a.ak;apply rn;simp[fh,iQ,g1,q,<-o];refine O1 func12 (a.own ?_);refine aa.runN Ax [] 2 ?_;simp;refine bz.intro λd B=>?_
   simp;refine aa.bj 13 (b:=d) (aT v) ap ap rfl ?_;rw[cy B];apply rn;simp[A];obtain⟨f,G⟩:=S1 ([n,0,1]:RQ);have V:f.length=3:=am
   refine aa.loop f.length (λk s=>∃ε,s=⟨ε,σ,[],.no⟩/\(ε 3=Xn n/\ε 11=.sl 9 (L.map aT) .any/\ε 12=Xn i/\ε 13=.cp (aT v) 0/\ε 14=.sl 1 (f.map Xn) .exact)/\ε 15=Xn k) ⟨_,rfl,⟨aq,aq,aq,ap,by simp[G]⟩,ap⟩ ?_;clear A fh iQ ε;rintro c1 k _ W ⟨ε,rfl,⟨A,fh,iQ,g,qC⟩,tZ⟩ H;rcases za k f.length with g2|g2
   . have pL:(k:Int)<f.length:=ac
     have X:=M1 ((k:Int)+1)
     obtain⟨y,u⟩:=S1 (f[k]);apply rn;simp[g,qC,tZ,g2,pL,<-u];refine O1 func40 (SH r J e λp Y=>?_);apply pg;simp;apply rn;simp[fh,iQ,qC,tZ,g1,g2,<-u,<-o];refine O1 func41 (FN.SG e λp' I=>?_);obtain rfl:=Y.same I;apply pg;simp;apply rn;simp[g,qC,tZ,g2,<-u];refine O1 func42 (nxM r J e ?_);apply pg;simp;apply rn;simp[fh,iQ,qC,tZ,g1,g2,<-u,<-o];refine O1 func43 (lpW e ?_);apply pg;simp;apply rn;simp[tZ];exact⟨X,H _ g2 ⟨_,rfl,⟨by simp[A],by simp[fh],by simp[iQ],by simp[g],by simp[qC]⟩,ap⟩⟩
   . have pL:¬(k:Int)<f.length:=ac
     apply rn;simp[fh,iQ,g,qC,tZ,pL,g1,<-o];refine O1 func21 (SW.jw e.fits (λc Z=>by have:=a.lost c Z;omega) ac ac ?_);apply pg;simp;apply rn;simp[iQ];exact⟨f1,S _ g1 ⟨_,rfl,by simp[A],by simp[fh],ap⟩⟩
 . have q:¬(i:Int)<L.length:=ac
   apply rn;simp[fh,iQ,q];refine O1 func9 (jd r ?_);apply rn;simp;exact .done (h _)
end RF

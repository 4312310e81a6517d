import Derived.Test.YtggpckcdfilkoaaGreatDoorC21
set_option linter.all false
set_option maxHeartbeats 2000000
set_option maxRecDepth 4000
namespace Go.Proofs.YtggpckcdfilkoaaGreatDoor
open Go.Proofs.Tryz hiding f0 f1 f10
section
open Go.bu
abbrev pl4:YA:=[⟨13,.take (MX 0 5) false (MU [5] (MV (MX 6 7)))⟩,⟨14,.take (MX 0 8) false (MU [8] (MV (MX 9 7)))⟩,⟨15,.take (MX 0 5) false (MU [5] (MV (MX 6 5)))⟩,⟨16,.take (MX 0 8) false (MU [8] (MV (MX 9 5)))⟩,⟨17,.take (MX 0 9) false (MU [9] (MV (MX 10 5)))⟩,⟨18,.take (MX 0 12) false (MU [12] (MV (MX 13 5)))⟩,⟨21,.take (MX 0 5) false (MU [5] (MV [6]))⟩]
abbrev QZ:YA:=[⟨5,.take [0,1,3,4,8] false (MU [2] (.take [6] false (MU [5] (MV [7]))))⟩]
abbrev ae4:YA:=[⟨2,MV (MX 0 8)⟩]
abbrev ae5:YA:=[⟨1,.take (MX 0 8) false (.both 8 (.both 9 (.take [10,11,12,15] false (MU [13,14] .done)) (MU [13,9] (.take [10,11,12,15] false (MU [14] .done)))) (MU [13,8,9] (.take [10,11,12,15] false (MU [14] .done))))⟩]
abbrev SI:YA:=[⟨5,.take (MX 0 6) false (MU [6] (MV [7,8]))⟩]
abbrev Dx:YA:=[⟨5,MV (MX 0 21)⟩]
end
section
open Go.bu Go.Conc
variable{m:Mo}{σ:af}{KF:YC}
def jY  f   begun :∀  fuel   way   many   c ,(∀x∈way,0<=x/\x<f.bc)->∀w∈eu f begun fuel way many c,∀x∈w,0<=x/\x<f.bc
 |0,way,many,c,hb,w,b=>by simp[eu]at b;simp_all
 | fuel+1,way,many,c,hb,w,b=>by
   rw[iT,E2]at b;obtain⟨k,d,a⟩:=b;have:=wL.1 d;unfold nH at a;split at a
   . cases a
   split at a
   . refine jY f begun fuel _ _ _ (λx e=>?_) w a
     grind
   . cases a
end
section
open Go.bu Go.Conc
section
variable{k:HK}
def Dn(k:HK)(r:RQ):Prop:=r.Pairwise λy z=>k z<=k y
def rC  x :∀{r},(∀z∈r,k z<=k x)->cI (tF k) x r=x::r
 |[],_=>rfl
 | y::r,h=>by
   unfold cI
   grind
def jZ  x :∀{r z},z∈cI (tF k) x r->z=x\/z∈r
 |[],z,h=>by simp[cI]at h;omega
 | y :: r,z,h=>by
   unfold cI at h;split at h
   . rcases Cv.1 h with rfl|h
     . grind
     . rcases jZ x h with h|h
       . omega
       grind
   grind
theorem iD  x :∀{r},Dn k r->Dn k (cI (tF k) x r)
 |[],_=>by simp[cI,Dn]
 | y ::r,h=>by
   obtain⟨c,b⟩:=KD.1 h;unfold cI;split
   . next q=>
     have d:k x<k y:=am
     refine KD.2 ⟨λz a=>?_,iD x b⟩;rcases jZ x a with rfl|a
     . omega
     grind
   . next q=>
     refine KD.2 ⟨λz a=>?_,h⟩
     grind
def lI  x :∀r:RQ,r.Sublist (cI (tF k) x r)
 |[]=>List.nil_sublist _
 | y::r=>by
   unfold cI;split
   . exact(lI x r).cons_cons y
   grind
theorem rD  x  {d r}(a:d.Sublist r) (hd:Dn k r):(cI (tF k) x d).Sublist (cI (tF k) x r):=by
 induction a with
 |slnil=>grind
 | cons y a b=>
   obtain⟨e,c⟩:=KD.1 hd;by_cases q:k x<k y
   . rw[lY q]
     exact(b c).cons y
   . rw[qD q,rC x am]
     grind
 | cons_cons y a b=>
   obtain⟨e,c⟩:=KD.1 hd;by_cases q:k x<k y
   . rw[lY q,lY q]
     exact(b c).cons_cons y
   simp_all [qD]
def pn{c l:RQ}(a:c.Sublist l):∀{b r},b.Sublist r->Dn k r->(c.foldl (λr x=>cI (tF k) x r) b).Sublist (l.foldl (λr x=>cI (tF k) x r) r):=by
 induction a with
 |slnil=>grind
 |cons x a d=>intro b r h hd;exact d (h.trans (lI x r)) (iD x hd)
 |cons_cons x a d=>grind [rD,iD]
end
def kF{f a l}(b:a.Sublist l):(aV f a).Sublist (aV f l):=by rw[eV,eV];exact(pn b am List.Pairwise.nil).reverse
def iU  f   a b   r :bI f (a::b::r)=(dg f a b||bI f (b::r)):=by
 unfold bI;rw[show(a::b::r).length-1=r.length+1 from rfl,List.range_succ_eq_map,List.any_cons,List.any_map];rfl
theorem gi{f}(c:f.Good):∀{l},(∀n∈l,0<=n/\n<f.ao.length)->bI f l=false->l.Pairwise (Fit f)
 |[],_,_=>List.Pairwise.nil
 |[a],_,_=>List.pairwise_singleton _ _
 | a::b::r,i,h=>by
   rw[iU,L3]at h;have d:=gi c am h.2;refine KD.2 ⟨λz e=>?_,d⟩;rcases Cv.1 e with rfl|g
   . exact h.1
   . exact xr c aq aq am h.1 aq
theorem gk{f}:∀{l},l.Pairwise (Fit f)->bI f l=false
 |[],_=>rfl
 |[a],_=>rfl
 |a::b::r,h=>by obtain⟨c,d⟩:=KD.1 h;rw[iU,gk d,LO];exact c b ap
def uX{f}(o:f.Good){b l}(i:b.Sublist l)(j:b≠[])(p:∀n∈l,0<=n/\n<f.ao.length)(h:iS f l=0):iS f b=0:=by
 obtain⟨k,c,q⟩:=jz.1 h;have s:=kF (f:=f) i
 have d:aV f b≠[]:=λe=>by
  cases b with
  |nil=>grind
  |cons a r=>have:a∈aV f (a::r):=iE.2 ap;grind
 have g:aV f l≠[]:=am;have t:∀n∈aV f l,0<=n/\n<f.ao.length:=(by grind [iE]);refine jz.2 ⟨?_,?_,(by grind [gk,gi])⟩
 . unfold cR at k ⊢
   grind
 . generalize aV f b=m at *
   unfold cd at c ⊢;simp   at c ⊢;obtain⟨x,u⟩:=HN _ c;have:x∈fM f m:=(by grind [kZ])
   grind
def iV{β:Type}{G:Nat->List β}{c}:∀d ,(∀j,c<=j->j<c+d->G j=[])->(List.range (c+d)).flatMap G=(List.range c).flatMap G
 |0,_=>rfl
 | d+1,h=>by
   rw[<-Nat.add_assoc,zU,Fe,iV d am]
   grind
def oo(l:RQ):Wz:=(List.range (aJ l+1).toNat).map λk:Nat=>l++[(k:Int)]
def cu:Nat->Wz
 |0=>[[]]
 |i+1=>(cu i).flatMap oo
def jL:Nat->RQ->Wz
 |0,l=>[l]
 |n+1,l=>(List.range (aJ l+1).toNat).flatMap λk:Nat=>jL n (l++[(k:Int)])
def ew(f:Fr)(l:RQ):Bool:=decide (aJ l<=f.bc) && (List.range (aJ l).toNat).all λk:Nat=>decide (iS f (aN l k)=0)
def lJ  w t   k :(aN w k).Sublist (aN (w++t) k):=by
 unfold aN
 grind
def bO  w t :aJ w<=aJ (w++t):=by
 unfold aJ
 simp_all [mR]
def ir:∀  n   w l ,l∈jL n w->∃t,l=w++t/\t.length=n
 |0,w,l,h=>by simp[jL]at h;simp_all
 | n+1,w,l,h=>by
   obtain⟨k,_,a⟩:=E2.1 h;obtain⟨t,b,c⟩:=ir n _ l a
   grind
def jv:∀n m ,(cu m).flatMap (jL n)=cu (m+n)
 | 0,m=>by
   have:jL 0=λl=>[l]:=by rfl
   simp_all
 | n+1,m=>by
   have e:∀l,jL (n+1) l=(oo l).flatMap _:=λl=>by unfold oo;rw[List.flatMap_map];rfl
   rw[show m+(n+1)=m+1+n by omega,<-jv n _,cu,List.flatMap_assoc]
   grind [lZ]
def pR{f}(b:f.Good){w t}{k:Nat}(hlen:(w++t).length=f.ao.length)(e:(k:Int)<aJ w)(a:aN w k≠[])(h:ew f (w++t)=true):iS f (aN w k)=0:=by
 unfold ew at h;rw[vc,LF]at h;have g:=bO w t;have c:=h.2 k (wL.2 ac);refine uX b (lJ w t k) a (λn d=>?_) (FE c);have:=aZ d;omega
def iX{f}(o:f.Good):∀  fuel   way b ,way.length+fuel=f.ao.length->Hs f way.length b->(∀k ,k<6->aB (b.getD k 0)=aN way k)->aJ way<=f.bc->(∀k:Nat,(k:Int)<aJ way->iS f (aN way k)=0) ->
 eu f [] fuel way (aJ way) b=(jL fuel way).filter (ew f)
 | 0,way,b,_,_,_,v,w=>by
   have:ew f way=true:=by
    unfold ew
    grind
   simp[eu,jL,this]
 | fuel+1,way,b,B,p,hb,v,w=>by
   have q:=o.bc;have C:=o.jo;have x:=iJ way;rw[iT];unfold jL;rw[List.filter_flatMap];obtain⟨d,hd⟩:∃d,(aJ way+1).toNat=(min (aJ way+1) f.bc).toNat+d:=⟨(aJ way+1).toNat-(min (aJ way+1) f.bc).toNat,ac⟩
   rw[hd,iV d λj D E=>?_]
   . refine lZ λk u=>?_
     have u:=wL.1 u;have r:k<6:=ac
     have c:k<b.length:=by rw[p.jo];omega
     have h:b.getD k 0=b[k]:=am
     have i:way.length<6:=ac
     have m:aB (cM b[k] way.length)=aN (way++[(k:Int)]) k:=by rw[l8 (p.small _ (lb c)) i (p.bits _ (lb c)),<-h,hb k r,ba,wS rfl]
     unfold nH;rw[wN ap,h]
     by_cases n:iY f (cM b[k] way.length)=true
     . rw [wS n,<-aS]
       unfold iY at n;rw[wK,m]at n;have y:=p.set i c;refine iX o fuel _ _ am aq (λj s=>?_) (by rw[aS];omega) λj s=>?_
       . by_cases e:j=k
         . grind
         . rw[sg,Fp (vj e),<-List.getD_eq_getElem?_getD,hb j s,ba,wN ac,xx]
       . by_cases e:j=k
         . grind
         . rw[aS]at s
           rw[ba,wN ac,xx]
           grind
     . rw[wN n]
       symm;rw[Hj];intro l g a;obtain⟨t,rfl,z⟩:=ir _ _ _ g;refine n ?_;unfold iY;rw[wK,m];refine pR o am (by rw[aS];omega) ?_ a
       simp_all [ba]
   . rw[Hj]
     intro l g a;obtain⟨t,rfl,z⟩:=ir _ _ _ g;unfold ew at a;rw[vc,wK]at a;have A:=bO (way++[(j:Int)]) t;rw[aS]at A;omega
def ib{f}(d:f.Good):(cu f.ao.length).filter (ew f)=aG f []:=by
 have j:=d.bc;have e:aJ []=0:=rfl;have g:aB 0=[]:=v3
 have h:Hs f ([]:RQ).length [0,0,0,0,0,0]:=⟨rfl,am,am⟩
 have c:∀k:Nat,k<6->aB (([0,0,0,0,0,0]:RQ).getD k 0)=aN [] k:=λk i=>by
  have:([0,0,0,0,0,0]:RQ).getD k 0=0:=by
   match k,i with
   |0,_=>rfl
   |1,_=>rfl
   |2,_=>rfl
   |3,_=>rfl
   |4,_=>rfl
   |5,_=>rfl
  rw[this,g];rfl
 have a:=iX d f.ao.length [] [0,0,0,0,0,0] ap h c ac ac;rw[e]at a;have b:=jv f.ao.length 0;rw[IC]at b;unfold aG;rw[a,<-b];simp[cu]
def dI:∀  i ,∀l∈cu i,l.length=i/\(∀x∈l,0<=x/\x<i)/\aJ l<=i
 |0,l,h=>by simp[cu]at h;subst h;exact⟨rfl,ap,be⟩
 | i+1,l,h=>by
   obtain⟨p,a,b⟩:=E2.1 h;obtain⟨c,d,e⟩:=dI i p a;unfold oo at b
   grind [aS]
end
section
open Go.bu Go.Conc
variable{m:Mo}{σ:af}{KF:YC}
def toldOf(n all:Int):Int:=if n=0 then 2 else if n=all then 1 else 3
def gC{n all}(a:0<=n)(b:n<=all)(c:0<all):dZ n all=toldOf n all:=by unfold dZ toldOf;omega
end
section
open Go.bu Go.Conc
def bD{w k}{i:Nat}(hi:i<w.length)(h:w.getD i 0=k):(i:Int)∈aN w k:=by
 unfold aN;refine CR.2 ⟨(w[i],i),LB.2 ⟨?_,?_⟩,rfl⟩
 . grind
 simp_all
def gn:RQ->RQ->RQ->RQ × List Int
 |[],w,s=>(w,s)
 |h::l,w,s=>if h∈s then gn l (w++[(s.idxOf h:Int)]) s else gn l (w++[(s.length:Int)]) (s++[h])
structure Canon(p w s:RQ):Prop where
 len:w.length=p.length
 many:aJ w=s.length
 nd:s.Nodup
 sub:∀x∈s,x∈p
 j7:∀k ,(hk:k<s.length)->aN w k=aN p s[k]
 part:w∈cu p.length
def Canon.all{p w s}(h:Canon p w s):∀x∈p,x∈s:=λx c=>by
 obtain⟨i,d,rfl⟩:=FG.1 c;have f:=(dI _ _ h.part).2.1;have a:i<w.length:=by rw[h.len];exact d
 have g:w[i]<aJ w:=by
  have e:w=w.take i++(w[i]::w.drop (i+1)):=aq
  have:aJ (w.take i++[w[i]])<=aJ w:=by
   have:=bO (w.take i++[w[i]]) (w.drop (i+1))
   grind
  rw[aS]at this;omega
 have k:=f _ (lb a);rw[h.many]at g;have j:w[i].toNat<s.length:=ac
 have b:(i:Int)∈aN w (w[i].toNat:Int):=bD a am;rw[h.j7 _ j]at b;have:=(aZ b).2.2
 simp_all
def dE{s:RQ}{h}(a:h∈s):∃b ,s[s.idxOf h]=h:=⟨List.idxOf_lt_length_iff.2 a,List.getElem_idxOf (List.idxOf_lt_length_iff.2 a)⟩
def iZ{s:RQ}(a:s.Nodup){i j hi}{hj:j<s.length}(e:s[i]=s[j]):i=j:=by
 rw[List.Nodup,List.pairwise_iff_getElem]at a
 grind
def gq:∀  l p w s ,Canon p w s->Canon (p++l) (gn l w s).1 (gn l w s).2
 |[],p,w,s,h=>by simpa[gn]using h
 | a :: l, p,w,s,h=>by
   have hlen:=h.len;rw[show p++a::l=(p++[a])++l by simp];unfold gn;split
   . next f=>
     obtain⟨i,t⟩:=dE f;refine gq l _ _ _ ⟨by simp[hlen],?_,h.nd,λx hx=>by simp[h.sub x hx],λk c=>?_,?_⟩
     . rw[aS,h.many];omega
     . rw[ba,ba,h.j7 k c,hlen]
       by_cases e:k=s.idxOf a
       . simp_all
       . rw[wN ac,wN (λj=>e (iZ h.nd (hi:=c) (hj:=i) ac))]
     . rw[zR,II,cu,E2]
       exact⟨w,h.part,CR.2 ⟨_,wL.2 (by rw[h.many];omega),rfl⟩⟩
   . next f=>
     refine gq l _ _ _ ⟨by simp[hlen],?_,?_,λx hx=>?_,λk c=>?_,?_⟩
     . rw[aS,h.many,zR];simp;omega
     . rw[MH]
       exact⟨h.nd,ap,λx hx y u=>am⟩
     . rcases E4.1 hx with hx|hx
       . simp[h.sub x hx]
       simp_all
     . rw [ba,ba,hlen]
       rw[zR,II]at c;by_cases e:k=s.length
       . subst e
         rw[wS rfl];have m:(s++[a])[s.length]=a:=ap
         rw[m,wS rfl];congr 1
         have n:aN w (s.length:Int)=[]:=by
          rw[List.eq_nil_iff_forall_not_mem];intro x hx;obtain⟨o,q,g⟩:=aZ hx;have b:x.toNat<w.length:=ac
          rw[sg,kn b,IE]at g;have e:w=w.take x.toNat++(w[x.toNat]::w.drop (x.toNat+1)):=by rw[<-List.drop_eq_getElem_cons b,Ji]
          have:=bO (w.take x.toNat++[w[x.toNat]]) (w.drop (x.toNat+1));rw[IG,K7,<-e,aS,h.many]at this;omega
         have r:aN p a=[]:=by
          rw[List.eq_nil_iff_forall_not_mem];intro x hx;obtain⟨o,q,g⟩:=aZ hx;have b:x.toNat<p.length:=ac
          rw[sg,kn b,IE]at g;exact f (g ▸ h.all _ (lb b))
         rw[n,r]
       . have d:k<s.length:=ac
         rw[wN ac,List.getElem_append_left d,wN (λj=>f aq),h.j7 k d]
     . rw[zR,II,cu,E2]
       exact⟨w,h.part,CR.2 ⟨_,wL.2 (by rw[h.many];omega),rfl⟩⟩
def rE  p :∃w s,Canon p w s:=⟨_,_,by
 have:=gq p [] [] [] ⟨rfl,rfl,KS,ap,λk a=>by simp at a,by simp[cu]⟩;simpa using this⟩
def rR{n all}(h:0<all):toldOf n all=2↔n=0:=by unfold toldOf;omega
def uh{α:Type}  p  (l:List α):(l.filter p).length=0↔∀x∈l,p x=false:=aq
section
variable{L:Wz}{n:Nat}
def ni(L:Wz)(x y:Nat):Int:=dZ ((L.filter (bo x y)).length:Int) L.length
def rS(a:0<L.length){x y}:ni L x y=2↔∀w∈L,bo x y w=false:=by
 have:=Rp (bo (x:Int) y) L;unfold ni;rw[gC ac ac ac,rR ac,<-uh];omega
def nj{p w s}(h:Canon p w s){i j}(hi:i<p.length)(hj:j<p.length)(e:p.getD i 0=p.getD j 0):bo i j w=true:=by
 have d:i<w.length:=by rw[h.len];exact hi
 have f:j<w.length:=by rw[h.len];exact hj
 have g:p.getD i 0=p[i]:=aq
 have k:p.getD i 0∈s:=h.all _ aq
 obtain⟨l,m⟩:=dE k;have a:=h.j7 _ l;rw[m]at a;have n:(i:Int)∈aN w ((s.idxOf (p.getD i 0):Nat):Int):=by rw[a];exact bD hi rfl
 have o:(j:Int)∈aN w ((s.idxOf (p.getD i 0):Nat):Int):=by rw[a];exact bD hj e.symm
 have b:=(aZ n).2.2;have c:=(aZ o).2.2;rw[FV]at b c;simp only[bo,wK,FV,b,c]
end
def lK  f   l :(aV f l).Pairwise λa b=>(aU f a).hour<=(aU f b).hour:=by
 rw[eV,List.pairwise_reverse]
 have key:∀(l r:RQ),Dn (λn=>(aU f n).hour) r->Dn (λn=>(aU f n).hour) (l.foldl (λr x=>cI (tF λn=>(aU f n).hour) x r) r):=by
  intro l;induction l with
  |nil=>grind
  |cons a l c=>grind [iD]
 exact key l [] List.Pairwise.nil
def gJ{R}:∀{l:RQ},l.Pairwise R->∀a∈l,∀b∈l,a≠b->R a b\/R b a
 |[],_,a,g,_,_,_=>am
 | c ::l,h,a,g,b,hb,d=>by
   obtain⟨j,i⟩:=KD.1 h;rcases Cv.1 g with rfl|e
   . grind
   . rcases Cv.1 hb with rfl|f
     . grind
     . exact gJ i a e b f d
def uY:∀a:Fin 32,∀b:Fin 32,cj (a.val:Int) (b.val:Int)=cj (b.val:Int) (a.val:Int):=v3
def Fr.Good.symm{f:Fr}(a:f.Good){i j}(hi:i<f.roads.length)(hj:j<f.roads.length):rd f.roads i j=rd f.roads j i:=by
 have h:=a.HH;unfold fD at h;split at h
 . cases h
 split at h
 . cases h
 split at h
 . omega
 split at h
 . cases h
 next q=>
 simp only[ES,wL,not_exists,not_and]at q;have b:=q i hi j hj;unfold cS at b
 grind
theorem uZ:∀a:Fin 32,cj (a.val:Int) (a.val:Int)=0:=v3
def rH{f}(a:f.Good){x}(b:0<=x/\x<f.ao.length):dg f x x=false:=by
 have e:=lf (a.pS _ (dL b));obtain⟨A,d⟩:=gu e.2.2.2.2.2
 have g:rd f.roads (aU f x).place.toNat (aU f x).place.toNat=0:=by
  have h:=a.HH;unfold fD at h;split at h
  . cases h
  split at h
  . cases h
  split at h
  . omega
  split at h
  . cases h
  next q=>
  simp only[ES,wL,not_exists,not_and]at q;have c:=q (aU f x).place.toNat ac (aU f x).place.toNat ac;unfold cS at c
  grind
 unfold dg
 grind [uZ]
theorem rI{f}(c:f.Good){a b}(d:0<=a/\a<f.ao.length)(hb:0<=b/\b<f.ao.length)(k:(aU f a).hour<=(aU f b).hour)(h:Fit f b a):Fit f a b:=by
 have e:=lf (c.pS _ (dL d));have g:=lf (c.pS _ (dL hb));obtain⟨A,l⟩:=gu e.2.2.2.2.2;obtain⟨B,m⟩:=gu g.2.2.2.2.2;have n:=uY A B;have o:=c.symm (i:=(aU f a).place.toNat) (j:=(aU f b).place.toNat) ac ac;unfold Fit dg at h ⊢
 grind
structure yq  f  (l:RQ):Prop where
 di:∀a∈l,∀b∈l,(aU f a).di=(aU f b).di
 Sv:∃h,∀j∈l,h∈cD f (aU f j)
 fit:∀a∈l,∀b∈l,a≠b->Fit f a b\/Fit f b a
def oq{f}(v:f.Good){l}(r:l≠[])(j:l.Nodup)(w:∀n∈l,0<=n/\n<f.ao.length):iS f l=0↔yq f l:=by
 have s:=jM f l;have i:∀n,n∈aV f l↔n∈l:=am;have k:=lK f l;have d:(aV f l).Nodup:=s.nodup_iff.2 j;have o:aV f l≠[]:=λe=>aq
 rw[jz];generalize aV f l=S at *;have t:S.getD 0 0∈S:=am
 constructor
 . rintro⟨u,m,y⟩
   unfold cR at u;refine⟨am,?_,λa g b hb c=>gJ (by grind [gi]) a ((i a).2 g) b am c⟩;unfold cd at m;simp only[K2]at m;obtain⟨x,p⟩:=HN _ m;exact⟨x,(by grind [kZ])⟩
 . intro h
   refine⟨?_,?_,gk ?_⟩
   . unfold cR
     rw[Ib];intro x p;rw[h.di x am _ ((i _).1 t)];simp
   . unfold cd
     obtain⟨x,p⟩:=h.Sv;have:x∈fM f S:=(by grind [kZ])
     grind
   . refine(k.and d).imp_of_mem λ{a b} g hb c=>?_
     have g:=(i a).1 g;have hb:=(i b).1 hb;rcases h.fit a g b hb c.2 with q|q
     . exact q
     grind [rI]
def eD  w   k :(aN w k).Nodup:=(nI k w 0).1.imp ac
def ui  L   x y  (a:0<L.length):ni L x y=1\/ni L x y=2\/ni L x y=3:=by
 have:=Rp (bo (x:Int) y) L;unfold ni;rw[gC ac ac ac];unfold toldOf;omega
def eM{w x}(h:x∈w):x<aJ w:=by obtain⟨a,b,rfl⟩:=List.append_of_mem h;have:=bO (a++[x]) b;rw[IG,K7,aS]at this;omega
section
variable{f x:Fr}{π ρ:Ct}
def nk{p w s}(h:Canon p w s){i j}(hi:i<p.length)(hj:j<p.length)(e:bo i j w=true):p.getD i 0=p.getD j 0:=by
 have a:i<w.length:=by rw[h.len];exact hi
 have b:j<w.length:=by rw[h.len];exact hj
 simp only[bo,wK,FV]at e;have f:w.getD i 0=w[i]:=aq
 have m:=((dI _ _ h.part).2.1 _ (lb a)).1;have g:=eM (lb a);rw[h.many]at g;have k:w[i].toNat<s.length:=ac
 have l:=h.j7 _ k;have c:(i:Int)∈aN w ((w[i].toNat:Nat):Int):=bD a ac
 have d:(j:Int)∈aN w ((w[i].toNat:Nat):Int):=bD b ac
 rw[l]at c d;have n:=(aZ c).2.2;have o:=(aZ d).2.2
 simp_all
end
def bT{l:RQ}{i}(h:i<l.length):l.getD i 0∈l:=aq
def u6{l:RQ}{x}(h:x∈l):∃i,i<l.length/\l.getD i 0=x:=by obtain⟨i,a,e⟩:=FG.1 h;exact⟨i,a,aq⟩
structure gM(f x:Fr)(L:RQ):Prop where
 roads:x.roads=f.roads
 fr:x.bs=f.bs
 to:x.fN=f.fN
 dN:x.dN=f.dN
 bc:f.bc<=x.bc
 Rh:∀i∈L,0<=i/\i<f.ao.length
 pS:x.ao=L.map (aU f)
section
variable{f x:Fr}{L:RQ}
def gM.len(h:gM f x L):x.ao.length=L.length:=by rw[h.pS,zD]
def gM.at(h:gM f x L){j:Int}(b:0<=j/\j<L.length):aU x j=aU f (L.getD j.toNat 0):=by
 have a:j.toNat<L.length:=ac
 unfold aU;rw[h.pS,sg,Hi,kn a,sg (l:=L),kn a];rfl
def gM.cD(h:gM f x L)(e:vU):cD x e=cD f e:=by unfold Go.Proofs.YtggpckcdfilkoaaGreatDoor.cD lg;rw[h.fr,h.to]
def gM.one(h:gM f x L)(n:x.Good){l i:RQ}(e:∀j∈i,(0<=j/\j<L.length)/\L.getD j.toNat 0∈l)(k:yq f l):yq x i:=by
 have c:∀j∈i,aU x j=aU f (L.getD j.toNat 0):=λj m=>h.at (e j m).1
 refine⟨λa d b hb=>?_,?_,λa d b hb o=>?_⟩
 . rw[c a d,c b hb];exact k.di _ (e a d).2 _ (e b hb).2
 . obtain⟨z,q⟩:=k.Sv
   exact⟨z,λj m=>by rw[h.cD,c j m];simp_all⟩
 . by_cases g:L.getD a.toNat 0=L.getD b.toNat 0
   . have r:=rH n (x:=b) (by rw[h.len];simp_all)
     have p:=c a d;rw[g,<-c b hb]at p;refine .inl ?_;unfold Fit dg at *
     simp_all
   have:=k.fit _ (e a d).2 _ (e b hb).2 g;unfold Fit dg at this ⊢;rw[c a d,c b hb,h.roads,h.dN];exact this
def gM.way(h:gM f x L)(E:f.Good)(u:x.Good){w}(F:w∈aG f []):∃v∈aG x [],∀i j ,i<L.length->j<L.length->bo i j v=bo (L.getD i 0) (L.getD j 0) w:=by
 rw[<-ib E,LB]at F;obtain⟨y,z⟩:=F;obtain⟨wl,G,_⟩:=dI _ _ y;obtain⟨p,R⟩:=S1 (L.map λj=>w.getD j.toNat 0)
 have g:p.length=L.length:=aq
 have o:∀j,j<L.length->0<=L.getD j 0/\(L.getD j 0).toNat<w.length:=λj l=>by have:=h.Rh _ (bT l);omega
 have m:∀j,j<L.length->p.getD j 0=w.getD (L.getD j 0).toNat 0:=λj l=>aq
 have r:∀c∈p,∃j,j<L.length/\p.getD j 0=c/\c∈w:=λc d=>by
  obtain⟨j,l,H⟩:=u6 d
  grind
 obtain⟨v,s,d⟩:=rE p;have A:=z;unfold ew at A;rw[vc,LF,wK]at A;refine⟨v,?_,λi j n l=>?_⟩
 . rw[<-ib u,LB,h.len,<-g]
   refine⟨d.part,?_⟩;unfold ew;rw[vc,LF,d.many];have J:=iJ w
   have S:=qR (aJ w).toNat s d.nd λc B=>by obtain⟨_,_,_,a⟩:=r c (d.sub c B);have:=G c a;have:=eM a;omega
   refine⟨decide_eq_true (by have:=h.bc;omega),λk T=>?_⟩
   have t:k<s.length:=am
   rw[wK,d.j7 k t];obtain⟨j,l,e,a⟩:=r _ (d.sub _ (lb t));generalize s[k]=c at *;have K:=G c a;have M:=eM a;have b:=FE (A.2 c.toNat (wL.2 ac))
   rw[show(c.toNat:Int)=c by omega]at b
   have C:aN w c≠[]:=Jg (bD (i:=(L.getD j 0).toNat) (o j l).2 am)
   have D:aN p c≠[]:=Jg (bD (i:=j) ac e)
   rw[oq E C (eD w c) λi n=>by have:=aZ n;omega]at b
   rw[oq u D (eD p c) λi n=>by have:=aZ n;rw[g,<-h.len]at this;omega]
   refine h.one u (λi n=>?_) b
   obtain⟨N,I,O⟩:=aZ n;rw[g]at I;have P:=o i.toNat ac
   refine⟨⟨N,I⟩,?_⟩;have:=bD (w:=w) (k:=c) (i:=(L.getD i.toNat 0).toNat) P.2 (by rw[<-m _ ac];exact O)
   rwa [show((L.getD i.toNat 0).toNat:Int)=L.getD i.toNat 0 by omega]at this
 . have Q:=m i n
   have H:=m j l;rw[IJ];constructor
   . intro q
     have:=nk d ac ac q
     rw[Q,H]at this;simp only[bo,wK];exact this
   . intro q
     simp only[bo,wK]at q;exact nj d ac ac ac
end
end
section
open Go Go.bu Go.Conc
variable{m:Mo}{σ:af}{KF:YC}
def ajP(f:m.solo=true){w}(g:w.pq)(e:w.fair.ao.length<=6/\w.ak.length<=3){h}(i:dR w [h] [] []=0)(j:KF (.val (.cx [Ae (aB (kE w h)),Ae (aB (kC w h)),Xn 0])) σ):ar prog m 22 [aT w,Xn h] σ KF:=by
 have k:Wl [aT w,.sl 1 [Xn h] .exact,fa,fa] [aT w,Ae [h],Ae [],Ae []]:=E9 (.refl _) (eo 1 _ _) (bK 1) (bK 1);refine S0 QZ func22 ?_;simp[f22];refine bp func51 rfl rfl k (kM f g ap (λq=>absurd i q) λq a fb mb l=>?_);have c:=l.less (.refl mb a);apply rn;simp;refine O1 func62 (CK.A8 e.1 e.2 ?_);refine aa.runN Ax [] 1 ?_;simp;refine bz.intro λd hd=>?_
 simp;change aa _ _ _ _ _ _ _ _ _;refine aa.runN Ax [] 1 ?_;simp;change aa _ _ _ _ _ _ _ _ _;refine aa.bj 9 (b:=d) (HI w h) (af.aj _ _ _) ap rfl ?_;rw[cy hd];apply rn;simp;refine O1 func63 (nN ?_);apply pg;simp;refine O1 func63 (nN ?_);apply pg;simp;apply rn;simp;exact .less c (.done j)
def Xe(a:m.solo=true){w}(c:w.pq)(d:w.Open){h i}(hi:0<=i/\i<6)(e:dR w [h] [i] []=0)(f:KF (.val (.cx [Ae (rV w h i),Xn 0])) σ):ar prog m 26 [aT w,Xn h,Xn i] σ KF:=by
 have g:Wl [aT w,.sl 1 [Xn h] .exact,.sl 1 [Xn i] .exact,fa] [aT w,Ae [h],Ae [i],Ae []]:=E9 (.refl _) (eo 1 _ _) (eo 1 _ _) (bK 1);refine S0 [] func26 ?_;simp[f26];refine bp func51 rfl rfl g (kM a c ap (λq=>absurd e q) λq j fb mb b=>?_);apply rn;simp;refine O1 func66 (HM a d hi b.BW λk n l=>?_);apply rn;simp;exact .less (b.less l) (.done f)
end
section
open Go.bu Go.Conc
def ja  p :∀n ,n<=6->(0<=bh ((fT n).filter p)/\bh ((fT n).filter p)<64)/\aB (bh ((fT n).filter p))=(fT n).filter p
 | 0,_=>by
   show(0<=bh []/\bh []<64)/\aB (bh [])=[];decide
 | n + 1,h=>by
   obtain⟨a,b⟩:=ja p n ac;rw[iu];split
   . rw[kP]
     exact⟨(A7 a ac).1,by grind [l8]⟩
   grind
section
variable{w:bF}
abbrev nJ(w:bF)(es cs:RQ):RQ:=es++cs.map λ(c:Int)=>c+(w.fair.ao.length:Int)
theorem rJ{i:Int}(h:0<=i/\i<w.fair.ao.length):aU (dM w) i=aU w.fair i:=by
 unfold aU dM
 grind
theorem rK{c:Int}(h:0<=c/\c<w.ak.length):aU (dM w) (c+w.fair.ao.length)=(fU w c).lost:=by
 have e:(c+w.fair.ao.length).toNat=w.fair.ao.length+c.toNat:=ac
 unfold aU dM fU
 simp_all
def Dy:(dM w).ao.length=w.fair.ao.length+w.ak.length:=am
def kL{es cs:RQ}(a:∀i∈es,0<=i/\i<w.fair.ao.length)(b:∀i∈cs,0<=i/\i<w.ak.length):gM (dM w) (cJ w es cs) (nJ w es cs):=
 ⟨rfl,rfl,rfl,rfl,FJ _,am,by grind [List.map_congr_left,rJ,rK]⟩
def po(hv:w.Valid){es cs:RQ}(d:∀i∈es,0<=i/\i<w.fair.ao.length)(f:∀i∈cs,0<=i/\i<w.ak.length)(h:es.length+cs.length<=6):(cJ w es cs).Good:=by
 have a:=gy hv.oX hv.jo;have b:=kL d f
 have c:∀e∈(cJ w es cs).ao,e∈(dM w).ao:=λe q=>by rw[b.pS]at q;obtain⟨i,g,rfl⟩:=CR.1 q;exact dL (b.Rh i g)
 have hlen:(cJ w es cs).ao.length=es.length+cs.length:=am
 exact⟨⟨ac,a.fits.roads,a.fits.row,λe q=>a.fits.marks e (c e q)⟩,a.fr,a.to,a.le,a.dN,a.bc,ac,λe q=>a.pS e (c e q),a.HH⟩
def bN{h i}(hi:i∈aH w h):0<=i/\i<w.fair.ao.length:=fE (LB.1 hi).1
def cC{h i}(hi:i∈aQ w h):0<=i/\i<w.ak.length:=fE (LB.1 hi).1
def eP  w   h :(aH w h).length<=w.fair.ao.length:=by
 have:=Rp (pE w h) (fT w.fair.ao.length)
 rwa [iF]at this
def eQ  w   h :(aQ w h).length<=w.ak.length:=by
 have:=Rp (pC w h) (fT w.ak.length)
 rwa [iF]at this
def bF.Valid.kE(hv:w.Valid)(h:Int):aB (kE w h)=aH w h:=(ja _ _ (by have:=hv.jo;omega)).2
def bF.Valid.kC(hv:w.Valid)(h:Int):aB (kC w h)=aQ w h:=(ja _ _ (by have:=hv.jo;omega)).2
abbrev bf(w:bF)(h:Int):Fr:=cJ w (aH w h) (aQ w h)
abbrev jb(w:bF)(h:Int):RQ:=nJ w (aH w h) (aQ w h)
def nK  w   h :gM (dM w) (bf w h) (jb w h):=kL (λ_=>bN) λ_=>cC
def dO(hv:w.Valid)  h :(bf w h).Good:=po hv (λ_=>bN) (λ_=>cC) (by have:=eP w h;have:=eQ w h;have:=hv.jo;omega)
def bF.Valid.open(hv:w.Valid):w.Open:=by
 have b:=hv.jo;refine⟨⟨ac,hv.jS.1⟩,λh=>?_⟩;have hb:=dO hv h;obtain⟨v,a⟩:=HN _ hv.some;obtain⟨u,c,_⟩:=(nK w h).way (gy hv.oX b) hb a;refine⟨?_,?_,?_,?_⟩<;>simp  [hv.kE,hv.kC]
 . exact λ_=>bN
 . exact λ_=>cC
 . omega
 grind
end
def GS(L:RQ)(g g':Int)(v:RQ):Bool:=bo (L.idxOf g:Int) (L.idxOf g':Int) v
def lL{L:RQ}{g}(h:g∈L):L.getD (L.idxOf g) 0=g:=am
def ot  f  (es cs:RQ)  x  (N:RQ) (a:cs.Nodup) (b:∀c∈cs,0<=c/\c<3) (d:3*(es.getD x 0).toNat+2<N.length)  q :∀n ,n<=cs.length ->
 ((List.range n).foldl (λN y=>N.set (3*(es.getD x 0).toNat+(cs.getD y 0).toNat) (jc f x ((es.length:Int)+y))) N).length=N.length/\
 (∀y<n,((List.range n).foldl (λN y=>N.set (3*(es.getD x 0).toNat+(cs.getD y 0).toNat) (jc f x ((es.length:Int)+y))) N).getD (3*(es.getD x 0).toNat+(cs.getD y 0).toNat) 0=jc f x ((es.length:Int)+y))/\
 ((∀y<n,q≠3*(es.getD x 0).toNat+(cs.getD y 0).toNat)->((List.range n).foldl (λN y=>N.set (3*(es.getD x 0).toNat+(cs.getD y 0).toNat) (jc f x ((es.length:Int)+y))) N).getD q 0=N.getD q 0)
 |0,_=>⟨rfl,ac,λ_=>rfl⟩
 | n + 1,m=>by
   obtain⟨o,p,g⟩:=ot f es cs x N a b d q n ac;rw[zU,ET,HW,Is];generalize (List.range n).foldl _ N=R at *;have r:=b _ (bT (l:=cs) (i:=n) ac);refine⟨am,λy s=>?_,λh=>?_⟩
   . by_cases e:y=n
     . subst e
       rw[sg,KC ac];rfl
     . have j:(cs.getD y 0).toNat≠(cs.getD n 0).toNat:=λq=>by
        have k:=b _ (bT (l:=cs) (i:=y) ac);have:cs.getD y 0=cs.getD n 0:=ac
        rw[sg,sg,kn (show y<cs.length by omega),kn (show n<cs.length by omega)]at this;exact e (iZ a this)
       grind
   . rw[sg,Fp (λe=>h n ac e.symm),<-List.getD_eq_getElem?_getD]
     exact g am
def lM  f   es cs  (a:es.Nodup) (g:∀i∈es,0<=i/\i<6) (b:cs.Nodup) (d:∀c∈cs,0<=c/\c<3)  q :∀n ,n<=es.length ->
 ((List.range n).foldl (λN x=>mG f es cs x N) (List.replicate 18 0)).length=18/\
 (∀x<n,∀y<cs.length,((List.range n).foldl (λN x=>mG f es cs x N) (List.replicate 18 0)).getD (3*(es.getD x 0).toNat+(cs.getD y 0).toNat) 0=jc f x ((es.length:Int)+y))/\
 ((∀x<n,∀y<cs.length,q≠3*(es.getD x 0).toNat+(cs.getD y 0).toNat)->((List.range n).foldl (λN x=>mG f es cs x N) (List.replicate 18 0)).getD q 0=0)
 |0,_=>⟨ap,ac,am⟩
 | n + 1,w=>by
   obtain⟨m,p,r⟩:=lM f es cs a g b d q n ac;rw[zU,ET,HW,Is];obtain⟨R,j⟩:=S1 ((List.range n).foldl (λN x=>mG f es cs x N) (List.replicate 18 0));rw[<-j]at m p r ⊢;have z:=g _ (bT (l:=es) (i:=n) ac);have s:3*(es.getD n 0).toNat+2<R.length:=ac
   have key:=λq=>ot f es cs n R b d s q cs.length (AK _)
   refine⟨by unfold mG;exact(key 0).1.trans m,λx A y o=>?_,λh=>?_⟩
   . by_cases e:x=n
     . subst e;exact(key 0).2.1 y o
     . have t:=g _ (bT (l:=es) (i:=x) ac)
       have u:(es.getD x 0).toNat≠(es.getD n 0).toNat:=λq=>by
        have:es.getD x 0=es.getD n 0:=ac
        rw[sg,sg,kn (show x<es.length by omega),kn (show n<es.length by omega)]at this;exact e (iZ a this)
       have v:=d _ (bT o);unfold mG;rw[(key _).2.2 λB k=>by have:=d _ (bT k);omega]
       grind
   . unfold mG
     grind
section
variable{w:bF}
def j8  n :(fT n).Nodup:=by grind [List.nodup_range]
def fF  w   h :(aH w h).Nodup:=(j8 _).filter _
def dw  w   h :(aQ w h).Nodup:=(j8 _).filter _
def gN{es cs i}(hi:i∈es):(nJ w es cs).idxOf i=es.idxOf i:=am
def u'{cs:RQ}{n c}:(cs.map fun  c=>c+n).idxOf (c+n)=cs.idxOf c:=by
 induction cs with
 |nil=>rfl
 |cons a l b=>grind
def gO{es cs:RQ}{c:Int}(a:∀i∈es,i<w.fair.ao.length)(b:0<=c):(nJ w es cs).idxOf (c+w.fair.ao.length)=es.length+cs.idxOf c:=by rw[Mg,wN λq=>am,u',LG]
abbrev wB(w:bF)(h i c:Int):Int:=ni (aG (bf w h) []) ((jb w h).idxOf i) ((jb w h).idxOf (c+w.fair.ao.length))
def va(hv:w.Valid){h i c}(hi:0<=i/\i<6)(a:0<=c/\c<3):fV w h i c=if i∈aH w h/\c∈aQ w h then wB w h i c else 0:=by
 have l:=hv.jo;have m:=hv.jS.1;obtain⟨_,b,d⟩:=lM (bf w h) (aH w h) (aQ w h) (fF w h) (λi q=>by have:=bN q;omega) (dw w h) (λi q=>by have:=cC q;omega) (3*i.toNat+c.toNat) _ (AK _)
 have e:fV w h i c=(rL (bf w h) (aH w h) (aQ w h)).getD (3*i.toNat+c.toNat) 0:=by show(rL (cJ w (aB (kE w h)) (aB (kC w h))) (aB (kE w h)) (aB (kC w h))).getD (3*i.toNat+c.toNat) 0=_;rw[hv.kE,hv.kC]
 rw[e];unfold rL;split
 . next q=>
   obtain⟨f,n⟩:=dE q.1;obtain⟨g,o⟩:=dE q.2;have:=b _ f _ g;rw[lL q.1,lL q.2]at this;rw[this];unfold wB ni jc;rw[gN q.1,gO (λi q=>(bN q).2) a.1]
   grind
 . next q=>
   refine d λx j y k e=>q ?_
   have p:=bN (bT j);have r:=cC (bT k);have s:(aH w h).getD x 0=i:=ac
   have t:(aQ w h).getD y 0=c:=ac
   grind
def nL(hv:w.Valid)  h :0<(aG (bf w h) []).length:=by
 have:=(hv.open.bk h).some;simp  [hv.kE,hv.kC]at this
 grind
def sO(hv:w.Valid){h i c}(hi:0<=i/\i<6)(b:0<=c/\c<3):nv (fV w h i c)=true↔(i∈aH w h/\c∈aQ w h)/\∃v∈aG (bf w h) [],GS (jb w h) i (c+w.fair.ao.length) v=true:=by
 have a:=nL hv h;rw[va hv hi b];split
 . next q=>
   have d:=rS a (x:=(jb w h).idxOf i) (y:=(jb w h).idxOf (c+w.fair.ao.length))
   have f:nv (wB w h i c)=true↔wB w h i c≠2:=by rcases ui _ ((jb w h).idxOf i) ((jb w h).idxOf (c+w.fair.ao.length)) a with e|e|e<;>simp[e,nv]
   unfold GS
   grind
 . next q=>exact⟨λz=>(by cases z),am⟩
end
end
section
open Go.bu Go.Conc
variable{m:Mo}{σ:af}{KF:YC}
def ahU(c:m.solo=true)(d:σ 0=some (.stay [fW])){w}(f:w.cA){t}(b:bg w [t] [] []≠0)(h:KF (.val (.cx [fa,fa,Xn (bg w [t] [] [])])) σ):ar prog m 22 [aT w,Xn t] σ KF:=by
 have g:Wl [aT w,.sl 1 [Xn t] .exact,fa,fa] [aT w,Ae [t],Ae [],Ae []]:=E9 (.refl _) (eo 1 _ _) (bK 1) (bK 1);have key:=λ(a:YC) i=>j9 (KF:=a) c d f    ⟨ap,ap,ap⟩ b i
 generalize bg w [t] [] []=e at b h key;have k:(e==0)=false:=am
 have j:(e !=0)=true:=am
 refine S0 QZ func22 ?_;simp;refine bp func51 rfl rfl g (key _ ?_);apply rn;simp[j];exact .done h
def ajO(c:m.solo=true)(d:σ 0=some (.stay [fW])){w}(f:w.cA){t}(b:bg w [t] [] []≠0)(h:KF (.val (.cx [fa,Xn (bg w [t] [] [])])) σ):ar prog m 24 [aT w,Xn t] σ KF:=by
 have g:Wl [aT w,.sl 1 [Xn t] .exact,fa,fa] [aT w,Ae [t],Ae [],Ae []]:=E9 (.refl _) (eo 1 _ _) (bK 1) (bK 1);have key:=λ(a:YC) i=>j9 (KF:=a) c d f    ⟨ap,ap,ap⟩ b i
 generalize bg w [t] [] []=e at b h key;have k:(e==0)=false:=am
 have j:(e !=0)=true:=am
 refine S0 [] func24 ?_;simp;refine bp func51 rfl rfl g (key _ ?_);apply rn;simp[j];exact .done h
def SU(c:m.solo=true)(d:σ 0=some (.stay [fW])){w}(f:w.cA){t i}(b:bg w [t] [i] []≠0)(h:KF (.val (.cx [fa,Xn (bg w [t] [i] [])])) σ):ar prog m 26 [aT w,Xn t,Xn i] σ KF:=by
 have g:Wl [aT w,.sl 1 [Xn t] .exact,.sl 1 [Xn i] .exact,fa] [aT w,Ae [t],Ae [i],Ae []]:=E9 (.refl _) (eo 1 _ _) (eo 1 _ _) (bK 1);have key:=λ(a:YC) j=>j9 (KF:=a) c d f    ⟨ap,ap,ap⟩ b j
 generalize bg w [t] [i] []=e at b h key;have l:(e==0)=false:=am
 have k:(e !=0)=true:=am
 refine S0 [] func26 ?_;simp;refine bp func51 rfl rfl g (key _ ?_);apply rn;simp[k];exact .done h
def rP{f}(b:f.Good){w}(a:w∈aG f []):w.length=f.ao.length/\∀x∈w,0<=x/\x<f.bc:=by
 refine⟨?_,jY f [] _ _ _ _ ap w a⟩;have:=qS f [] _ _ _ _ w a
 grind
abbrev cW(E C:RQ)(f:Fr)(W:Wz):AV:=.agg (Ae E::Ae C::(vK f++[Cu W]))
def nP{E C:RQ}{f:Fr}{W:Wz}{x y:Nat}(O:W.length<1000000000)(P:E.length<=1000)(I:y<=1000)(J:∀w∈W,x<w.length/\E.length+y<w.length)(h:KF (.val (Xn ((W.filter (bo (x:Int) ((E.length:Int)+y))).length:Int))) σ):ar prog m 101 [cW E C f W,Xn x,Xn y] σ KF:=by
 refine S0 Dx func101 ?_
 simp[f101];refine aa.loop W.length (λi=>MY σ λε=>ε 1=Xn x/\ε 2=Xn y/\ε 3=.cp (cW E C f W) 0/\ε 7=Xn (((W.take i).filter (bo (x:Int) ((E.length:Int)+y))).length:Int)/\ε 8=Xn i) aq ?_
 rintro Q i _ R ⟨ε,rfl,o,l,e,j,g⟩ G
 apply rn;simp[e,g];refine aM.intro (λb=>?_) (λb=>?_)<;>(try simp[-Int.not_lt,-Int.not_le,-Nat.not_lt,-Nat.not_le]at b)<;>(try simp[o,e,j,g,b])
 . obtain⟨v,hv⟩:=S1 (W[i])
   obtain⟨r,k⟩:=J v (by rw[hv];exact lb b)
   have K:W[i]?=some v:=am
   obtain⟨z,t⟩:=S1 (E.length+y);have u:(E.length:Int)+y=z:=ac
   rw[<-t]at k;obtain⟨A,c⟩:∃p,v[x]?=some p:=⟨_,kn r⟩;obtain⟨B,d⟩:∃p,v[z]?=some p:=⟨_,kn k⟩;have D:((W.take i).filter (bo (x:Int) ((E.length:Int)+y))).length<=i:=am
   have L:bo (x:Int) ((E.length:Int)+y) v=decide (A=B):=by rw[u];simp[bo,sg,c,d]
   have a:(W.take (i+1)).filter (bo (x:Int) ((E.length:Int)+y))=(W.take i).filter (bo (x:Int) ((E.length:Int)+y))++if bo (x:Int) ((E.length:Int)+y) v=true then[v]else[]:=by grind [List.take_succ_eq_append_getElem]
   rw[L]at a;have f1:=M1 ((z:Int))
   obtain⟨n,H⟩:=S1 (((W.take i).filter (bo (x:Int) ((E.length:Int)+y))).length);rw[<-H]at D j;simp only[<-hv]
   by_cases q:A=B
   . subst q
     simp at a;have F:((W.take (i+1)).filter (bo (x:Int) ((E.length:Int)+y))).length=n+1:=am
     simp[l,e,g,b,c,d,u,f1.1,f1.2,hv.symm];apply rn;simp[j,g];refine⟨ac,ac,G _ b ⟨_,rfl,by simp[o],by simp[l],by simp[e],by rw[F];simp,ap⟩⟩
   . have M:(A==B)=false:=am
     simp[q]at a;simp[l,e,g,b,c,d,u,f1.1,f1.2,M,hv.symm];apply rn;simp[g];refine⟨ac,G _ b ⟨_,rfl,by simp[o],by simp[l],by simp[e],by rw[a,<-H];simp[j],ap⟩⟩
 . have N:i=W.length:=ac
   subst N;rw[zH]at j;exact .done am
def jA(E:RQ)(W:Wz)(x y:Nat):Nat:=(W.filter (bo (x:Int) ((E.length:Int)+y))).length
def dk(E C:RQ)(W:Wz)(h:Int)(i k:Nat):RQ:=((List.range k).filter λj=>decide (E.getD i 0=h) && decide (0<jA E W i j)).map λj=>C.getD j 0
def jF(E C:RQ)(W:Wz)(h:Int)(n:Nat):RQ:=(List.range n).flatMap λi=>dk E C W h i C.length
theorem lO(E C:RQ)(W:Wz)(h:Int)(i k:Nat):(dk E C W h i k).length<=k:=by
 unfold dk
 grind
def pU(E C:RQ)(W:Wz)(h:Int)(i k:Nat):dk E C W h i (k+1)=dk E C W h i k++if E.getD i 0=h/\0<jA E W i k then[C.getD k 0]else[]:=by
 unfold dk
 grind [List.range_succ]
theorem nQ(E C:RQ)(W:Wz)(h:Int)(n:Nat):jF E C W h (n+1)=jF E C W h n++dk E C W h n C.length:=by
 unfold jF
 grind [List.range_succ]
def lP(E C:RQ)(W:Wz)(h:Int)(a:C.length<=6):∀n,(jF E C W h n).length<=6*n
 |0=>by simp[jF]
 | n+1=>by
   have:=lP E C W h a n
   grind [lO,nQ]
def uj{E C:RQ}{f:Fr}{W:Wz}{h:Int}(G:W.length<1000000000)(R:E.length<=6)(H:C.length<=6)(S:∀w∈W,E.length+C.length<=w.length)(I:KF (.val (Ae (jF E C W h E.length))) σ):ar prog m 68 [cW E C f W,Xn h] σ KF:=by
 refine S0 [] func68 ?_;simp[f68];refine aa.loop E.length (λi s=>∃ε c,s=⟨ε,c,[],.no⟩/\ε 1=Xn h/\ε 2=.cp (cW E C f W) 0/\ε 6=Xn i/\Tok σ c (ε 5) 1 ((jF E C W h i).map Xn)) ⟨_,_,rfl,ap,ap,ap,.nil σ 1⟩ ?_;rintro T i _ U ⟨ε,c,rfl,e,d,g,a⟩ J;apply rn;simp[d,g];refine aM.intro (λr=>?_) (λr=>?_)<;>(try simp[-Int.not_lt,-Int.not_le,-Nat.not_lt,-Nat.not_le]at r)<;>(try simp[r])
 . obtain⟨x,K⟩:=S1 (E[i])
   have p:E[i]?=some x:=am
   have u:E.getD i 0=x:=am
   have L:=lP E C W h H i;refine aa.loop C.length (λk s=>∃ε c,s=⟨ε,c,[],.no⟩/\ε 1=Xn h/\ε 2=.cp (cW E C f W) 0/\ε 6=Xn i/\ε 7=Xn k/\Tok σ c (ε 5) 1 ((jF E C W h i++dk E C W h i k).map Xn)) ⟨_,_,rfl,aq,aq,aq,ap,by simpa[dk]using a⟩ ?_;clear e d g a ε;rintro V k _ X ⟨ε,M,rfl,e,d,g,l,a⟩ j;apply rn;simp[d,l];refine aM.intro (λo=>?_) (λo=>?_)<;>(try simp[-Int.not_lt,-Int.not_le,-Nat.not_lt,-Nat.not_le]at o)<;>(try simp[d,g,o])
   . obtain⟨y,N⟩:=S1 (C[k])
     have v:C[k]?=some y:=am
     have A:C.getD k 0=y:=am
     have O:=lO E C W h i k;have b:=pU E C W h i k;rw[u,A]at b;by_cases q:x=h
     . have B:(x==h)=true:=am
       simp[e,d,g,l,p,B];refine O1 func101 (nP (x:=i) (y:=k) G ac ac am ?_);obtain⟨n,F⟩:=S1 (jA E W i k);rw[show (W.filter (bo (i:Int) ((E.length:Int)+k))).length=n from F.symm];rw[<-F]at b;by_cases t:0<n
       . rw[wS ⟨q,t⟩]at b
         have P:(0:Int)<n:=ac
         apply rn;simp[d,l,t,v];refine aP Ax rfl rfl rfl bX rfl bX rfl nM be am (σ0:=σ) (es:=(jF E C W h i++dk E C W h i k).map Xn) (xs:=[Xn y]) (by simpa using a) (.inr ⟨_,rfl⟩) λY Q D=>?_
         apply rn;simp[l];refine⟨ac,j _ o ⟨_,_,rfl,by simp[e],by simp[d],by simp[g],ap,by rw[b];simpa using D⟩⟩
       . rw[wN (λz=>t z.2),xx]at b
         have P:¬(0:Int)<n:=ac
         apply rn;simp[l,t];refine⟨ac,j _ o ⟨_,_,rfl,by simp[e],by simp[d],by simp[g],ap,by rw[b];simpa using a⟩⟩
     . have B:(x==h)=false:=am
       rw[wN (by simp[q]),xx]at b;simp[e,l,p,B];refine⟨ac,j _ o ⟨_,_,rfl,by simp[e],by simp[d],by simp[g],ap,by rw[b];simpa using a⟩⟩
   . have ek:k=C.length:=ac
     subst ek;refine⟨ac,J _ r ⟨_,_,rfl,by simp[e],by simp[d],ap,by rw[nQ];simpa using a⟩⟩
 . have ek:i=E.length:=ac
   subst ek;exact .dp a.W (.less a.1 (.done I))
def iK(E C:RQ)(W:Wz)(n:Nat):RQ:=((List.range n).filter λi=>decide (0<(jF E C W (E.getD i 0) E.length).length)).map λi=>E.getD i 0
def uk(E C:RQ)(W:Wz)(n:Nat):(iK E C W n).length<=n:=by
 unfold iK
 grind
def rU(E C:RQ)(W:Wz)(n:Nat):iK E C W (n+1)=iK E C W n++if 0<(jF E C W (E.getD n 0) E.length).length then[E.getD n 0]else[]:=by
 unfold iK
 grind [List.range_succ]
def um{E C:RQ}{f:Fr}{W:Wz}(p:W.length<1000000000)(r:E.length<=6)(n:C.length<=6)(t:∀w∈W,E.length+C.length<=w.length)(u:KF (.val (Ae (iK E C W E.length))) σ):ar prog m 65 [cW E C f W] σ KF:=by
 refine S0 SI func65 ?_;simp[f65];refine aa.loop E.length (λi s=>∃ε c,s=⟨ε,c,[],.no⟩/\ε 1=.cp (cW E C f W) 0/\ε 4=Xn i/\Tok σ c (ε 3) 1 ((iK E C W i).map Xn)) ⟨_,_,rfl,ap,ap,.nil σ 1⟩ ?_;rintro D i _ F ⟨ε,c,rfl,g,d,b⟩ o;apply rn;simp[g,d];refine aM.intro (λe=>?_) (λe=>?_)<;>(try simp[-Int.not_lt,-Int.not_le,-Nat.not_lt,-Nat.not_le]at e)<;>(try simp[g,d,e])
 . obtain⟨x,h⟩:=S1 (E[i])
   have j:E[i]?=some x:=am
   have k:E.getD i 0=x:=am
   have v:=uk E C W i;have a:=rU E C W i;rw[k]at a;have l:=lP E C W x n E.length;simp only[<-h];refine O1 func68 (uj p r n t ?_);obtain⟨L,y⟩:=S1 (jF E C W x E.length);rw[<-y]at l a ⊢;by_cases q:0<L.length
   . rw[wS q]at a
     have z:(0:Int)<L.length:=ac
     apply pg;simp[q];apply rn;simp[g,d,j];refine aP Ax rfl rfl rfl bX rfl bX rfl nM be am (σ0:=σ) (es:=(iK E C W i).map Xn) (xs:=[Xn x]) aq (.inr ⟨_,rfl⟩) λG A B=>?_
     apply rn;simp[d];refine⟨ac,o _ e ⟨_,_,rfl,aq,ap,aq⟩⟩
   . rw[wN q,xx]at a
     have z:¬(0:Int)<L.length:=ac
     apply pg;simp[q];apply rn;simp[d];refine⟨ac,o _ e ⟨_,_,rfl,aq,ap,aq⟩⟩
 . have ek:i=E.length:=ac
   subst ek;exact .dp b.W (.less b.1 (.done u))
end
section
open Go Go.bu Go.Conc
variable{m:Mo}{σ:af}{KF:YC}
namespace BK
abbrev L5:YA:=[⟨8,.take [0,1,3,4,5,6,7,8,11,12] false (.both 2 (MU [9,10,13] .done) (MU [9] (.take [2] true (MU [10,13] .done))))⟩,⟨15,.take [0,1,3,4,5,6,7,8,11,12] false (.both 2 (MU [9,10,13] .done) (MU [9] (.take [2] true (MU [10,13] .done))))⟩]
abbrev A9:We:=[.lit (.slice none 0 0),.lit (.slice none 0 0),.lit (.slice none 0 0),.lit (.slice none 0 0),Xn 0,Xn 0,Xn 0,Xn 0,.lit (.slice none 0 0)]
abbrev rQ(w:bF)(a b c d:AV):We:=[a,b,c,Cu w.fair.roads,Xn w.fair.bs,Xn w.fair.fN,Xn w.fair.dN,Xn w.fair.bc,d]
def kQ{w:bF}(hv:w.Valid){t:Int}{E' C':RQ}{f':Fr}{W':Wz}(c7:W'.length<1000000000)(ho:E'.length=(aH w t).length->C'.length=(aQ w t).length->0<W'.length->W'=aG (bf w t) [])
 (h:KF (.val (cW (aH w t) (aQ w t) (bf w t) (aG (bf w t) []))) σ):ar prog m 93 [aT w,Xn t,cW E' C' f' W'] σ KF:=by
 have h6:=hv.jo;refine S0 L5 func93 ?_
 simp[f93];refine bz.intro λrb b5=>?_
 simp;refine bz.intro λtb g=>?_
 obtain⟨n1,n2,b9⟩:=af.bd g;obtain⟨s0,xO⟩:=S1 (σ.set rb (.cells A9));have U:s0=σ.set rb (.cells [.lit (.slice none 0 0),.lit (.slice none 0 0),.lit (.slice none 0 0),.lit (.slice none 0 0),Xn 0,Xn 0,Xn 0,Xn 0,.lit (.slice none 0 0)]):=xO;rw[<-U]at g;simp only[<-U];have O:s0 rb=some (.cells A9):=by rw[xO];exact af.aj _ _ _
 have bm:σ.Le s0:=by rw[xO];exact af.bZ (af.le_refl _) b5
 clear xO U;simp[aI];refine aa.loop w.fair.ao.length (λk s=>∃ε d D j,s=⟨ε,d,[],.no⟩/\(ε 1=Xn t/\ε 3=.cp (aT w) 0/\ε 5=.cp (cW E' C' f' W') 0/\ε 6=.ref rb 0/\ε 7=.ref tb 0/\ε 8=Xn k)/\d tb=some (.cells (rQ w D .nil j .nil))/\kR s0 d [(D,1,((fT k).filter (pE w t)).map Xn),(j,6,(((fT k).filter (pE w t)).map (aU w.fair)).map bn)]) ?_ ?_
 . refine⟨_,_,.nil,.nil,rfl,⟨ap,ap,ap,ap,ap,ap⟩,af.aj _ _ _,?_⟩
   refine⟨af.bZ (af.le_refl _) g,λt q=>?_,?_⟩
   . simp at q
     rcases q with rfl|rfl<;>exact(Tok.nil _ _).beside g (by simp[bG])
   . simp[bG]
 rintro c0 k _ hk ⟨ε,d,D,j,rfl,⟨T,K,V,X,F,e8⟩,P,a⟩ ih
 rcases za k w.fair.ao.length with g1|g1
 . apply rn
   have z1:(k:Int)<w.fair.ao.length:=ac
   obtain⟨x,hx⟩:=S1 (w.fair.ao[k]);have R:w.fair.ao[k]?=some x:=by rw[hx];exact kn g1
   have eN:aU w.fair k=x:=by simp[aU,sg,R]
   simp[T,K,e8,z1,R];have G:=iu k (pE w t);obtain⟨B,Y⟩:=S1 ((fT k).filter (pE w t))
   have bq:B.length<=6:=by rw[Y];refine FL (Rp _ _) ?_;rw[iF];omega
   rw[<-Y]at a G;have br:=a.head.cells;have bw:=(a.perm (List.Perm.swap _ _ _)).head.cells
   by_cases g2:x.hour<=t
   . have hp:pE w t k=true:=by unfold pE;rw[eN];simpa using g2
     rw[hp,wS rfl]at G;simp[F,e8,g2,P];refine aP Ax rfl rfl rfl bX rfl bX rfl nM be (by simp only[zD,Ds,Dv];omega) (σ0:=d.off D) (es:=B.map Xn) (xs:=[Xn k]) (by simpa using a.head.here.1) (.inr ⟨_,by simp;rfl⟩) λL σ2 aL=>?_
     obtain⟨H,k2⟩:=a.app aL;have al:=H.head.cells;have r5:=k2 _ _ P;apply rn;simp[K,F,e8,r5,al.1,al.2,aI];obtain⟨n,u⟩:=S1 (σ2.set tb (.cells (rQ w L .nil j .nil)));have p5:n tb=some (.cells (rQ w L .nil j .nil)):=by rw[u];exact af.aj _ _ _
     have Z:kR s0 n [(L,1,B.map Xn++[Xn k]),(j,6,(B.map (aU w.fair)).map bn)]:=H.BV g ⟨_,r5⟩ λy hy=>by rw[u];exact af.ah _ _ hy
     simp only[<-u];simp[F,R,p5];refine⟨?_,?_⟩
     all_goals
      have a7:=Z.perm (List.Perm.swap (j,6,(B.map (aU w.fair)).map bn) _ _);refine aP Ax rfl rfl rfl kG rfl kG rfl vb be (by simp only[zD,Ds,Dv];omega) (σ0:=n.off j) (es:=(B.map (aU w.fair)).map bn) (xs:=[bn x]) (by simpa using a7.head.here.1) (.inr ⟨_,by simp;rfl⟩) λM a8 aO=>?_
      obtain⟨I,k4⟩:=a7.app aO;have J:=I.head.cells;have x5:=k4 _ _ p5;apply pg;simp[x5,J.1,J.2,aI];apply rn;simp[e8];refine⟨ac,ih _ g1 ⟨_,a8.set tb (.cells (rQ w L .nil M .nil)),L,M,rfl,⟨by simp[T],by simp[K],by simp[V],by simp[X],by simp[F],ap⟩,af.aj _ _ _,?_⟩⟩
      have:=(I.perm (List.Perm.swap (L,1,B.map Xn++[Xn k]) _ _)).BV (σ2:=a8.set tb (.cells (rQ w L .nil M .nil))) g ⟨_,x5⟩ λy hy=>af.ah _ _ hy
      rw[G,DL,DL,DL];simpa[eN]using this
   . have hp:pE w t k=false:=by unfold pE;rw[eN];simpa using g2
     rw[hp]at G;simp only[zA,LK,xx]at G;simp[e8,g2];refine⟨ac,ih _ g1 ⟨_,d,D,j,rfl,⟨by simp[T],by simp[K],by simp[V],by simp[X],by simp[F],ap⟩,P,by rw[G];exact a⟩⟩
 . have ek : k=w.fair.ao.length:=ac
   subst ek;obtain⟨E,hE⟩:=S1 (aH w t);rw[show(fT w.fair.ao.length).filter (pE w t)=E from hE.symm]at a
   have c8:E.length<=w.fair.ao.length:=by rw[hE];exact eP w t
   have br:=a.head.cells;apply rn;simp[K,e8];refine aa.loop w.ak.length (λk s=>∃ε d aC j,s=⟨ε,d,[],.no⟩/\(ε 1=Xn t/\ε 3=.cp (aT w) 0/\ε 5=.cp (cW E' C' f' W') 0/\ε 6=.ref rb 0/\ε 7=.ref tb 0/\ε 9=Xn k)/\d tb=some (.cells (rQ w D aC j .nil))/\kR s0 d [(aC,1,((fT k).filter (pC w t)).map Xn),(j,6,(E.map (aU w.fair)++((fT k).filter (pC w t)).map λc=>(fU w c).lost).map bn),(D,1,E.map Xn)]) ?_ ?_
   . refine⟨_,d,.nil,j,rfl,⟨by simp[T],by simp[K],by simp[V],by simp[X],by simp[F],ap⟩,P,?_⟩
     refine⟨a.1,λt q=>?_,?_⟩
     . simp at q
       rcases q with rfl|rfl|rfl
       . exact⟨a.1,.inl ⟨rfl,rfl⟩⟩
       . have:=(a.perm (List.Perm.swap _ _ _)).head
         simpa[fT]using this
       . exact a.head
     . have:=a.2.2
       simp[bG]at this ⊢;intro b bx bA;exact this b bA bx
   clear T K V X F e8 P a ε d j
   rintro c1 k _ c9 ⟨ε,d,aC,j,rfl,⟨T,K,V,X,F,e9⟩,P,a⟩ ab
   rcases za k w.ak.length with g1|g1
   . apply rn
     have z1:(k:Int)<w.ak.length:=ac
     obtain⟨x,hx⟩:=S1 (w.ak[k]);have R:w.ak[k]?=some x:=by rw[hx];exact kn g1
     have eN:fU w k=x:=by simp[fU,sg,R]
     have ca:=hv.jS.2 _ (lb g1);obtain⟨Q,av⟩:=uf hv g1;simp[K,e9,z1];refine O1 func71 (W7.qT (by have:=hv.YV;omega) hv.way hv.aX g1 ac ?_)
     obtain⟨o,bB⟩:=S1 ((sL w w.ak[k] w.aX.toNat).foldl iv none);rw[<-bB]at Q av ⊢;have G:=iu k (pC w t);obtain⟨B,Y⟩:=S1 ((fT k).filter (pC w t))
     have bq:B.length<=k:=by rw[Y];refine FL (Rp _ _) ?_;rw[iF];omega
     rw[<-Y]at a G;have cb:=a.head.cells;have bw:=(a.perm (List.Perm.swap _ _ _)).head.cells;cases o with
     | none=>
       have hp:pC w t k=false:=by
        unfold pC
        by_cases q:bP w k<=72
        . obtain⟨r,_,hr,_⟩:=Q q;cases hr
        . simp[q]
       rw[hp]at G;simp only[zA,LK,xx]at G;rw[show qw none=.agg [Ae [],Xn 0]from rfl,show np none=false from rfl]
       refine aa.runN Ax [] 6 ?_;simp;refine bz.intro λdb aW=>?_
       simp[aI]
       change aa _ _ _ _ _ _ _ _ _
       refine aa.bj 10 (b:=db) (.agg [Ae [],Xn 0]) (af.aj _ _ _) ap rfl ?_
       rw[cy aW];apply rn;simp[e9];refine⟨ac,ab _ g1 ⟨_,d,aC,j,rfl,⟨by simp[T],by simp[K],by simp[V],by simp[X],by simp[F],ap⟩,P,by rw[G];exact a⟩⟩
     | some r=>
       rw[show qw (some r)=lN r from rfl,show np (some r)=decide (r.2<=72)from rfl]
       refine aa.runN Ax [] 6 ?_;simp;refine bz.intro λdb aW=>?_
       simp[aI]
       change aa _ _ _ _ _ _ _ _ _
       refine aa.bj 10 (b:=db) (lN r) (af.aj _ _ _) ap rfl ?_
       rw[cy aW]
       by_cases g2:r.2<=72/\r.2<=t
       . have hc:bP w k<=72:=by
          by_cases q:bP w k<=72
          . exact q
          . have:=av ac r rfl;omega
         have hp:pC w t k=true:=by obtain⟨r',_,hr,he⟩:=Q hc;obtain rfl:=KE hr;unfold pC;simp[<-he,g2.1,g2.2]
         rw[hp,wS rfl]at G;apply rn;simp[T,F,e9,g2.1,g2.2,P];refine aP Ax rfl rfl rfl bX rfl bX rfl nM be (by simp only[zD,Ds,Dv];omega) (σ0:=d.off aC) (es:=B.map Xn) (xs:=[Xn k]) (by simpa using a.head.here.1) (.inr ⟨_,by simp;rfl⟩) λN σ2 aL=>?_
         obtain⟨H,k2⟩:=a.app aL;have ax:=H.head.cells;have r5:=k2 _ _ P;apply rn;simp[K,F,e9,r5,ax.1,ax.2,aI];obtain⟨n,u⟩:=S1 (σ2.set tb (.cells (rQ w D N j .nil)));have p5:n tb=some (.cells (rQ w D N j .nil)):=by rw[u];exact af.aj _ _ _
         have Z:kR s0 n [(N,1,B.map Xn++[Xn k]),(j,6,(E.map (aU w.fair)++B.map λc=>(fU w c).lost).map bn),(D,1,E.map Xn)]:=H.BV g ⟨_,r5⟩ λy hy=>by rw[u];exact af.ah _ _ hy
         simp only[<-u];simp[F,R,p5];refine⟨?_,?_⟩
         all_goals
          have a7:=Z.perm (List.Perm.swap (j,6,(E.map (aU w.fair)++B.map λc=>(fU w c).lost).map bn) _ _)
          refine aP Ax rfl rfl rfl kG rfl kG rfl vb be (by simp only[zD,zR,Ds,Dv];omega) (σ0:=n.off j) (es:=(E.map (aU w.fair)++B.map λc=>(fU w c).lost).map bn) (xs:=[bn x.lost]) (by simpa using a7.head.here.1) (.inr ⟨_,by simp;rfl⟩) λM a8 aO=>?_
          obtain⟨I,k4⟩:=a7.app aO;have J:=I.head.cells;have x5:=k4 _ _ p5;apply pg;simp[x5,J.1,J.2,aI];apply rn;simp[e9];refine⟨ac,ab _ g1 ⟨_,a8.set tb (.cells (rQ w D N M .nil)),N,M,rfl,⟨by simp[T],by simp[K],by simp[V],by simp[X],by simp[F],ap⟩,af.aj _ _ _,?_⟩⟩
          have:=(I.perm (List.Perm.swap (N,1,B.map Xn++[Xn k]) _ _)).BV (σ2:=a8.set tb (.cells (rQ w D N M .nil))) g ⟨_,x5⟩ λy hy=>af.ah _ _ hy
          rw[G];simpa[eN]using this
       . have hp:pC w t k=false:=by
          unfold pC
          by_cases q:bP w k<=72
          . obtain⟨r',_,hr,he⟩:=Q q
            obtain rfl:=KE hr;simp;omega
          . simp[q]
         rw[hp]at G;simp only[zA,LK,xx]at G
         by_cases g3:r.2<=72
         . have g4:¬r.2<=t:=λq=>g2 ⟨g3,q⟩
           apply rn;simp[T,e9,g3,g4];refine⟨ac,ab _ g1 ⟨_,d,aC,j,rfl,⟨by simp[T],by simp[K],by simp[V],by simp[X],by simp[F],ap⟩,P,by rw[G];exact a⟩⟩
         . apply rn
           simp[e9,g3];refine⟨ac,ab _ g1 ⟨_,d,aC,j,rfl,⟨by simp[T],by simp[K],by simp[V],by simp[X],by simp[F],ap⟩,P,by rw[G];exact a⟩⟩
   . have ek:k=w.ak.length:=ac
     subst ek;obtain⟨C,hC⟩:=S1 (aQ w t);rw[show(fT w.ak.length).filter (pC w t)=C from hC.symm]at a
     have cg:C.length<=w.ak.length:=by rw[hC];exact eQ w t
     have ad:=a.head;have b0:=(a.perm (List.Perm.swap _ _ _)).head;have S:Tok s0 d D 1 (E.map Xn):=a.2.1 (D,1,E.map Xn) ap
     have cm:=ad.cells;have b6:=b0.cells;have cr:=S.cells;rw[<-hE,<-hC]at ho h;obtain⟨f,hf⟩:=S1 (bf w t);have b3:(E.map (aU w.fair)++C.map λc=>(fU w c).lost)=f.ao:=by rw[hf,hE,hC]
     rw[<-hf]at ho h;rw[b3]at a b0;obtain⟨W,b7⟩:=S1 (aG f []);rw[<-b7]at ho h
     have b4:∀(D aC j:AV),D.W (Ae E)->aC.W (Ae C)->j.W (kg f.ao)->(AV.agg (rQ w D aC j (Cu W))).W (cW E C f W):=λD aC j h1 h2 h3=>ig rfl λi x y O q2=>by
      match i with
      |0=>cases O;cases q2;exact h1
      |1=>cases O;cases q2;exact h2
      |2=>cases O;cases q2;exact h3
      |3=>cases O;cases q2;rw[hf];exact .refl _
      |4=>cases O;cases q2;rw[hf];exact .refl _
      |5=>cases O;cases q2;rw[hf];exact .refl _
      |6=>cases O;cases q2;rw[hf];exact .refl _
      |7=>cases O;cases q2;rw[hf];exact .refl _
      |8=>cases O;cases q2;exact .refl _
      |i+9=>simp at O
     have w1:=S.W;have w2:=ad.W;have w3:=b0.W;have hg:f.Good:=by rw[hf];exact dO hv t
     have bC:Wl [AV.agg (j::zr w.fair)] [bR f]:=by rw[hf]at w3 ⊢;exact .cons (tA w3) .nil
     have b8:d rb=some (.cells A9):=S.1 _ _ O;have bE:rb≠tb:=λe=>by rw[e,g]at O;cases O
     have z1:¬(w.ak.length:Int)<w.ak.length:=ac
     have ay:∀A B:uK,σ.Le ((d.set tb A).set rb B):=λA B v z a9=>by
      have v1:v≠rb:=λe=>by rw[e,b5]at a9;cases a9
      have v2:v≠tb:=λe=>by rw[e,b9]at a9;cases a9
      rw[af.ah _ _ v1,af.ah _ _ v2];exact S.1 _ _ (bm _ _ a9)
     have x1:∀A,(d.set tb A) rb=some (.cells A9):=λA=>by rw[af.ah _ _ bE];exact b8
     have hl:∀{l:RQ},l.map Xn=[]->l.length=0:=λh=>by simpa using congrArg List.length h
     obtain⟨b1,y1⟩:∃b,((E.length:Int)==E'.length)=b:=⟨_,rfl⟩;obtain⟨b2,y2⟩:∃b,((C.length:Int)==C'.length)=b:=⟨_,rfl⟩
     by_cases g1:b1=true/\b2=true/\0<W'.length
     . obtain⟨rfl,rfl,g1⟩:=g1
       have eW:=ho (by have:=DW.1 y1;omega) (by have:=DW.1 y2;omega) g1
       have y3:(0:Int)<W'.length:=ac
       have y4:=JC.1 g1;rw[<-eW]at b4 h
       rcases S.uN with⟨rfl,lE⟩|⟨c5,rfl⟩<;>rcases ad.uN with⟨rfl,lC⟩|⟨c6,rfl⟩<;>(try simp only[hl lE,Int.natCast_zero]at y1)<;>(try simp only[hl lC,Int.natCast_zero]at y2)<;>apply rn
       all_goals
        simp[K,V,X,F,e9,P,b6.2,y1,y2,g1,aI,x1];exact .dp (b4 _ _ _ w1 w2 w3) (.less (ay _ _) (.done h))
     . have y4:b1=true->b2=true->W'=[]:=λp q=>List.eq_nil_of_length_eq_zero am
       rcases S.uN with⟨rfl,lE⟩|⟨c5,rfl⟩<;>rcases ad.uN with⟨rfl,lC⟩|⟨c6,rfl⟩<;>(try simp only[hl lE,Int.natCast_zero]at y1)<;>(try simp only[hl lC,Int.natCast_zero]at y2)<;>cases b1<;>cases b2<;>(try obtain rfl:=y4 rfl rfl)<;>apply rn
       all_goals
        simp[K,V,F,e9,P,y1,y2];refine bp func131 rfl rfl bC (zs hg ?_);rw[<-b7];apply rn;simp[X,F,P,b6.2,aI,x1];exact .dp (b4 _ _ _ w1 w2 w3) (.less (ay _ _) (.done h))
end BK
def pv  e :(AV.cx [.lit (.slice none 0 0),Xn e]).W (.cx [Ae [],Xn e]):=vf rfl λi x y a b=>by
 match i with
 |0=>grind [bK]
 |1=>cases a;cases b;exact .refl _
 |i+2=>grind
end
section
open Go.bu Go.Conc
def iL{C:RQ}{p:Nat->Bool}{q:Int->Bool}(h:∀y:Nat,y<C.length->p y=q (C.getD y 0)):((List.range C.length).filter p).map (λy=>C.getD y 0)=C.filter q:=by
 have a:C=(List.range C.length).map λy=>C.getD y 0:=by
  apply Ko
  grind
 conv=>rhs;rw[a]
 rw[List.filter_map];congr 1;apply Ff
 grind
def pV{F:RQ}{x0:Nat}{f:Nat->RQ}:∀n:Nat,(∀x,x<n->f x=if x=x0 then F else[])->(List.range n).flatMap f=if x0<n then F else[]
 |0,_=>ap
 | n+1,h=>by
   rw[zU,Fe,pV n λx a=>h x ac]
   grind
section
variable{w:bF}(hv:w.Valid)
include hv
theorem Ba{h i:Int}(hi:0<=i/\i<6):jF (aH w h) (aQ w h) (aG (bf w h) []) i (aH w h).length=rV w h i:=by
 have t:=hv.jS.1;have u:=fF w h;have z:=dw w h;have o:∀c∈aQ w h,0<=c/\c<w.ak.length:=λc=>cC
 have a:∀c∈aH w h,c<w.fair.ao.length:=λc q=>(bN q).2
 have j:=λ(c:Int) (q:0<=c/\c<3)=>sO hv (h:=h) hi q
 unfold jF rV;by_cases b:i∈aH w h
 . have k:=(dE b).1
   have p:∀x,x<(aH w h).length->((aH w h).getD x 0=i↔x=(aH w h).idxOf i):=λx g=>am
   rw[pV (F:=(aQ w h).filter λc=>decide (0<jA (aH w h) (aG (bf w h) []) ((aH w h).idxOf i) ((aQ w h).idxOf c))) (x0:=(aH w h).idxOf i) _ λx g=>?_,wS k]
   . rw[show aQ w h=(fT w.ak.length).filter (pC w h)from rfl,J4]
     apply Ff;intro c r;have d:=fE r;rw[IJ,j c ac,vc,wK]
     have l:c∈aQ w h↔pC w h c=true:=by
      rw[show aQ w h=(fT w.ak.length).filter (pC w h)from rfl,LB]
      simp_all
     rw[<-l];unfold jA;rw[List.length_pos_iff_exists_mem];constructor
     . rintro⟨⟨v,m⟩,q⟩
       obtain⟨n,f⟩:=LB.1 m;refine⟨⟨b,q⟩,v,n,?_⟩;unfold GS;rw[gN b,gO a d.1];exact f
     . rintro⟨⟨_,q⟩,v,n,f⟩
       refine⟨⟨v,LB.2 ⟨n,?_⟩⟩,q⟩;unfold GS at f;rw[gN b,gO a d.1]at f;exact f
   . unfold dk
     by_cases e:x=(aH w h).idxOf i
     . rw[wS e]
       refine iL λy A=>?_
       simp_all
     simp_all
 . have s:(fT w.ak.length).filter (λc=>nv (fV w h i c))=[]:=by
    rw[Hj]
    grind
   rw[s,List.flatMap_eq_nil_iff];intro x g;have g:=wL.1 g;unfold dk;rw[decide_eq_false λq=>b am];simp
theorem zy(h:Int):iK (aH w h) (aQ w h) (aG (bf w h) []) (aH w h).length=dc w h:=by
 have j:=hv.jo;unfold iK dc;rw[iL (q:=λi=>decide (0<(rV w h i).length)) λx k=>?_]
 . rw [show aH w h=(fT w.fair.ao.length).filter (pE w h)from rfl,J4]
   apply Ff;intro i a;have b:=fE a;by_cases q:pE w h i=true
   . simp[q]
   . have d:i∉aH w h:=λe=>q (LB.1 e).2
     have:rV w h i=[]:=by unfold rV;rw[Hj];intro c f z;exact d ((sO hv ac (by have:=fE f;have:=hv.jS.1;omega)).1 z).1.1
     simp_all
 . have g:(aH w h).getD x 0∈aH w h:=by
    simp_all
   have:=bN g;rw[Ba hv ac]
end
end
open Go Go.bu Go.Conc
variable{m:Mo}{σ:af}{KF:YC}
def Rk(w:bF)(t:Int)(yes:Bool):Int:=if ij w≠0 then ij w else if cz t 0 72=false then 1 else if yes=false then 3 else 0
abbrev Dz(w:bF)(t:Int):AV:=cW (aH w t) (aQ w t) (bf w t) (aG (bf w t) [])
def YW{w:bF}(b:w.cA)(t:Int):Rk w t true=bg w [t] [] []:=by
 unfold Rk bg dR;by_cases a:ij w=0
 . rw[wN (by simp[a]),wS a,wS (cX b a).2]
   simp
 omega
def N4{w:bF}(b:w.cA)(t i:Int):Rk w t (cz i 0 (w.fair.ao.length-1))=bg w [t] [i] []:=by
 unfold Rk bg dR;by_cases a:ij w=0
 . rw[wN (by simp[a]),wS a,wS (cX b a).2]
   simp
 omega
def zC{w:bF}(j:w.cA){t:Int}{yes:Bool}(a:Rk w t yes≠0->KF (.val (.cx [.agg BK.A9,Xn (Rk w t yes)])) σ)(c:Rk w t yes=0->w.Valid->KF (.val (.cx [Dz w t,Xn 0])) σ):ar prog m 64 [aT w,Xn t,T0 yes] σ KF:=by
 unfold Rk at a c;refine S0 [] func64 ?_;simp[f64];refine bz.intro λn h=>?_
 simp;refine O1 func34 (RC.jN j ?_);by_cases b:ij w=0
 . rw [wN (by simp[b])]at a c
   rw[b];apply rn;simp;refine O1 func67 (eY ?_);by_cases f:cz t 0 72=true
   . rw [wN (by simp[f])]at a c
     apply rn;simp[f];cases yes with
     |false=>simp[aI];exact .less (af.bZ (af.le_refl _) h) (.done (a be))
     | true=>
       have hv:=bF.valid (cX j b).1 (cX j b).2
       have k:Wl [aT w,Xn t,AV.agg BK.A9] [aT w,Xn t,cW [] [] ⟨[],[],0,0,0,0⟩ []]:=.cons (.refl _) (.cons (.refl _) (.cons (ig rfl λi x y d g=>by
        match i with
        |0|1=>cases d;cases g;exact bK 1
        |2=>cases d;cases g;exact bK 6
        |3=>cases d;cases g;exact bK 1
        |8=>cases d;cases g;exact bK 1
        |4|5|6|7=>cases d;cases g;exact .refl _
        |i+9=>cases d) .nil))
       simp;refine bp func93 rfl rfl k (BK.kQ hv ap (λ_ _ q=>by simp at q) ?_);apply rn;simp[aI];exact .less (af.bZ (af.le_refl _) h) (.done (c rfl hv))
   . rw[Bool.not_eq_true]at f
     rw[wS f]at a c;apply rn;simp[f,aI];exact .less (af.bZ (af.le_refl _) h) (.done (a be))
 . rw[wS b]at a c
   replace a:=a b
   generalize ij w=e at b a;have o:(e==0)=false:=aq
   have l:(e !=0)=true:=aq
   apply rn;simp[l,aI];exact .less (af.bZ (af.le_refl _) h) (.done a)
def DF(w:bF)(t:Int):RQ × List Int × Int:=if bg w [t] [] []≠0 then([],[],bg w [t] [] [])else(aH w t,aQ w t,0)
def JI(w:bF)(t:Int):RQ × Int:=if bg w [t] [] []≠0 then([],bg w [t] [] [])else(dc w t,0)
def JJ(w:bF)(t i:Int):RQ × Int:=if bg w [t] [i] []≠0 then([],bg w [t] [i] [])else(rV w t i,0)
def SX(e:Int):(AV.cx [.lit (.slice none 0 0),.lit (.slice none 0 0),Xn e]).W (.cx [Ae [],Ae [],Xn e]):=vf rfl λi x y a b=>by
 match i with
 |0|1=>cases a;cases b;exact bK 1
 |2=>cases a;cases b;exact .refl _
 |i+3=>simp at a
def fX{w:bF}(d:w.cA){a b c:RQ}(h:bg w a b c=0):w.Valid/\dR w a b c=0:=by obtain⟨e,f,g⟩:=pr d h;exact⟨bF.valid e f,g⟩
def JK{w:bF}(a:w.cA){t i:Int}(h:bg w [t] [i] []=0):0<=i/\i<w.fair.ao.length:=by
 rw[<-N4 a]at h;unfold Rk at h;by_cases q:cz i 0 (w.fair.ao.length-1)=true
 . have:=dJ q
   omega
 grind
def Xf(w:bF)(t i:Int):(rV w t i).length<=w.ak.length:=by
 unfold rV
 grind
def SY(a:m.solo=true)(c:σ 0=some (.stay [fW])){w:bF}(b:w.cA){t:Int}(h:KF (.val (.cx [Ae (DF w t).1,Ae (DF w t).2.1,Xn (DF w t).2.2])) σ):ar prog m 22 [aT w,Xn t] σ KF:=by
 unfold DF at h;by_cases q:bg w [t] [] []=0
 . obtain⟨hv,d⟩:=fX b q
   rw[wN (by simp[q])]at h;refine ajP a hv.oX hv.open.jo d ?_;rw[hv.kE,hv.kC];exact h
 . rw[wS q]at h
   exact ar.thaw (ahU a c b q (.dp (SX _) (.done h)))
def Xg(a:m.solo=true)(c:σ 0=some (.stay [fW])){w:bF}(b:w.cA){t:Int}(h:KF (.val (.cx [Ae (JI w t).1,Xn (JI w t).2])) σ):ar prog m 24 [aT w,Xn t] σ KF:=by
 unfold JI at h;by_cases q:bg w [t] [] []=0
 . obtain⟨hv,d⟩:=fX b q
   rw[wN (by simp[q])]at h;exact JL a hv.oX hv.open (λe=>absurd d e) λ_=>h
 . rw[wS q]at h
   exact ar.thaw (ajO a c b q (.dp (pv _) (.done h)))
def ZY(b:m.solo=true)(c:σ 0=some (.stay [fW])){w:bF}(a:w.cA){t i:Int}(h:KF (.val (.cx [Ae (JJ w t i).1,Xn (JJ w t i).2])) σ):ar prog m 26 [aT w,Xn t,Xn i] σ KF:=by
 unfold JJ at h;by_cases q:bg w [t] [i] []=0
 . obtain⟨hv,d⟩:=fX a q
   have e:=JK a q;have f:=hv.jo;rw[wN (by simp[q])]at h;exact Xe b hv.oX hv.open ac d h
 . rw[wS q]at h
   exact ar.thaw (SU b c a q (.dp (pv _) (.done h)))
def kh{w:bF}(hv:w.Valid)(t:Int):(aG (bf w t) []).length<1000000000/\(aH w t).length<=6/\(aQ w t).length<=6/\∀v∈aG (bf w t) [],(aH w t).length+(aQ w t).length<=v.length:=by
 have c:=hv.jo;have d:=eP w t;have e:=eQ w t;have a:=dO hv t;refine⟨?_,ac,ac,λv b=>?_⟩
 . have:=sM a []
   omega
 . rw[(rP a b).1]
   simp
def SZ{w:bF}(b:w.cA){t:Int}(h:KF (.val (.cx [Ae (DF w t).1,Ae (DF w t).2.1,Xn (DF w t).2.2])) σ):ar prog m 23 [aT w,Xn t] σ KF:=by
 unfold DF at h;rw[<-YW b]at h;refine S0 ae4 func23 ?_;simp[f23];refine O1 func64 (zC b (λq=>?_) λq hv=>?_)
 . rw[wS q]at h
   generalize Rk w t true=e at q h;apply rn;simp;refine bz.intro λc a=>?_
   simp[aI];apply rn;simp;exact .dp (SX _) (.less (af.bZ (af.le_refl _) a) (.done h))
 . rw[wN (by simp[q])]at h
   apply rn;simp;refine bz.intro λc a=>?_
   simp[aI];apply rn;simp;exact .less (af.bZ (af.le_refl _) a) (.done h)
def Xh{w:bF}(b:w.cA){t:Int}(h:KF (.val (.cx [Ae (JI w t).1,Xn (JI w t).2])) σ):ar prog m 25 [aT w,Xn t] σ KF:=by
 unfold JI at h;rw[<-YW b]at h;refine S0 [] func25 ?_;simp[f25];refine O1 func64 (zC b (λq=>?_) λq hv=>?_)
 . rw[wS q]at h
   generalize Rk w t true=e at q h;have k:(e==0)=false:=am
   have c:(e !=0)=true:=am
   apply rn;simp;refine bz.intro λd a=>?_
   simp[aI,c];exact .dp (pv _) (.less (af.bZ (af.le_refl _) a) (.done h))
 . rw[wN (by simp[q]),<-zy hv]at h
   obtain⟨f1,g,i,j⟩:=kh hv t;apply rn;simp;refine bz.intro λd a=>?_
   simp[aI];refine O1 func65 (um (f:=bf w t) f1 g i j ?_);apply rn;simp;exact .less (af.bZ (af.le_refl _) a) (.done h)
def ZZ{w:bF}(c:w.cA){t i:Int}(h:KF (.val (.cx [Ae (JJ w t i).1,Xn (JJ w t i).2])) σ):ar prog m 27 [aT w,Xn t,Xn i] σ KF:=by
 have u:=c.fits.ao;have f1:=M1 ((w.fair.ao.length:Int)-1)
 unfold JJ at h;rw[<-N4 c]at h;obtain⟨e,d⟩:=S1 (Rk w t (cz i 0 (w.fair.ao.length-1)))
 obtain⟨L,n,y,g,j⟩:∃L:We,(∀(b:YC) a,b (.val (.cx [.agg L,Xn e])) a->ar prog m 64 [aT w,Xn t,T0 (cz i 0 (w.fair.ao.length-1))] a b)/\(e=0->w.Valid/\AV.agg L=Dz w t)/\L.length=9/\∀x∈L,x.flat=true:=by
  by_cases q:e=0
  . by_cases hv:w.Valid
    . exact⟨_,λb a o=>zC c (λz=>absurd (d ▸ q) z) λ_ _=>am,λ_=>⟨hv,rfl⟩,rfl,by simp[AV.flat]⟩
    . exact⟨BK.A9,λb a o=>zC c (λz=>absurd (d ▸ q) z) λ_ v=>absurd v hv,λ_=>absurd (fX c (by rw[<-N4 c,<-d];exact q)).1 hv,rfl,by simp[AV.flat]⟩
  . exact⟨BK.A9,λb a o=>zC c (λ_=>d ▸ o) λz _=>absurd (d ▸ z) q,λz=>absurd z q,rfl,aq⟩
 rw[<-d]at h;refine S0 ae5 func27 ?_;simp[f27];apply sQ (I:=λε a=>∃l,σ l=none/\ε 2=Xn i/\ε 8=.ref l 0/\ε 9=Xn e/\a=σ.set l (.cells L))
 . intro k
   simp[f1.1,f1.2]
   repeat' (first
             |apply And.intro
             | (refine O1 func67 (eY ?_)
                apply pg;simp[aI,g,eq_true j])
             | (refine O1 func64 (n _ _ ?_)
                apply pg;simp[aI,g,eq_true j])
             | (refine qB.intro λl p=>?_
                simp[aI,g,eq_true j])
             |(refine k _ _ ⟨l,z0,?_,?_,?_,?_⟩<;>simp))
 rintro ε a ⟨l,p,A,B,s,rfl⟩;by_cases q:e=0
 . obtain⟨hv,r⟩:=y q
   have G:=JK c (by rw[<-N4 c,<-d];exact q);have H:=hv.jo;rw[wN (by simp[q]),<-Ba hv ac]at h;obtain⟨f1,C,D,E⟩:=kh hv t;cases r;apply rn;simp[A,B,s,q];refine O1 func68 (uj (f:=bf w t) f1 C D E ?_);apply rn;simp;exact .less (af.bZ (af.le_refl _) p) (.done h)
 . rw[wS q]at h
   have J:(e==0)=false:=am
   have F:(e !=0)=true:=am
   apply rn;simp[s,F];exact .dp (pv _) (.less (af.bZ (af.le_refl _) p) (.done h))
namespace RH
def Xi{w:bF}(a:w.cA)(t:Int):(DF w t).1.length<=6/\(DF w t).2.1.length<=6:=by
 unfold DF;by_cases q:bg w [t] [] []=0
 . obtain⟨hv,_⟩:=fX a q
   rw[wN (by simp[q])];exact⟨(kh hv t).2.1,(kh hv t).2.2.1⟩
 simp_all
def Xj{w:bF}(a:w.cA)(t:Int):(JI w t).1.length<=6:=by
 unfold JI;by_cases q:bg w [t] [] []=0
 . obtain⟨hv,_⟩:=fX a q
   have:=hv.jo;have:=qU w t
   grind
 simp_all
def S3{w:bF}(a:w.cA)(t i:Int):(JJ w t i).1.length<=6:=by
 unfold JJ;by_cases q:bg w [t] [i] []=0
 . obtain⟨hv,_⟩:=fX a q
   have:=hv.jo;have:=Xf w t i
   grind
 simp_all
def JM(F:m.solo=true)(O:σ 0=some (.stay [fW])){w:bF}{c:Az}{x:Way}{n P:Int}{j:RQ}(hw:w.Raw)(hm:c.lost.marks.length<1152921504606846976)(Q:j.length<1152921504606846976)(h:∀σ',KF (.val (T0 true)) σ'):ll prog Ax m 4 [aT w,cK c,fG x,Xn n,Xn P,Ae j] σ KF:=by
 refine ll.start Ax [] pl4 6 func4 rfl rfl (by rfl) s8 ?_
 simp[f4];refine O1 func8 (wD ?_ λhS=>?_)
 . apply rn
   simp;refine O1 func9 (jd F ?_);apply rn;simp;exact .done (h _)
 by_cases X:(20:Int)<c.lost.marks.length
 . apply rn
   simp[X];refine O1 func9 (jd F ?_);apply rn;simp;exact .done (h _)
 have J:c.lost.marks.length<=20:=ac
 apply rn;simp[X];refine O1 func10 (ug λb a7 R hb u=>?_)
 apply rn;simp;refine O1 func11 (pT ac Q hb λmade other own lost S hd ho K o=>?_)
 have t:∀v∈[w,made,other],v.Small:=λv hv=>by
  simp at hv
  rcases hv with rfl|rfl|rfl
  . exact hS
  . exact hd.small
  . exact hd.other J ho
 have hlen:[w,made,other].length=3:=rfl;generalize [w,made,other]=L at t hlen ⊢;have l:(0:Nat)≠b:=λe=>aq
 have M:S 0=some (.stay [fW]):=o 0 _ l aq
 apply rn;simp;refine aa.loop L.length (λi s=>∃ε σ',s=⟨ε,σ',[],.no⟩/\(ε 3=Xn n/\ε 4=Xn P/\ε 13=.ref b 0/\ε 14=.sl 9 (L.map aT) .any/\ε 15=Xn i)/\cq b j (601+3*i) σ'/\σ' 0=some (.stay [fW])) ⟨_,_,rfl,⟨ap,ap,ap,ap,ap⟩,K.mono ac,M⟩ ?_
 clear O M hb K u o R
 rintro c0 i _ hi ⟨ε,a8,rfl,⟨G,H,f,qC,tZ⟩,hb,O⟩ ih
 rcases za i L.length with g1|g1
 . have A:(i:Int)<L.length:=ac
   have f1:=M1 ((i:Int)+1)
   obtain⟨v,hv⟩:=S1 (L[i]);have p:=t v aq
   have a:=p.short;have a9:=p.ways;have ab:=p.ak;apply rn;simp[qC,tZ,g1,A,<-hv];refine O1 func12 (p.own ?_);refine aa.runN Ax [] 2 ?_;simp;refine bz.intro λd N=>?_
   simp;refine aa.bj 16 (b:=d) (aT v) ap ap rfl ?_
   rw[cy N];apply rn;simp[G,f];refine O1 func13 (gT ac Q ac hb λt1 ad al B=>?_)
   apply rn;simp[f];refine O1 func13 (gT ac Q ac B.1 λt2 av ax C=>?_)
   apply rn;simp[H,f];refine O1 func13 (gT ac Q ac C.1 λt3 D ay E=>?_)
   apply rn;simp;have r:D 0=some (.stay [fW]):=by rw[E.2 0 l,C.2 0 l,B.2 0 l];exact O
   have T:cq b j (601+3*(i+1)) D:=E.1.mono ac
   clear B C E O hb;obtain⟨q,U⟩:=S1 ([n,t1,t2,72]:RQ);obtain⟨ms,V⟩:=S1 ([P,t3,0,1]:RQ);have aC:q.length=4:=am
   have aE:q.length=ms.length:=am
   refine aa.loop q.length (λk s=>∃ε,s=⟨ε,D,[],.no⟩/\(ε 3=Xn n/\ε 4=Xn P/\ε 13=.ref b 0/\ε 14=.sl 9 (L.map aT) .any/\ε 15=Xn i/\ε 16=.cp (aT v) 0/\ε 17=.sl 1 (q.map Xn) .exact/\ε 18=.sl 1 (ms.map Xn) .exact)/\ε 19=Xn k) ⟨_,rfl,⟨by simp[G],by simp[H],by simp[f],by simp[qC],by simp[tZ],ap,by simp[U],by simp[V]⟩,ap⟩ ?_
   clear G H f qC tZ ε
   rintro c1 k _ aF ⟨ε,rfl,⟨G,H,f,qC,tZ,BR,g,qP⟩,xn⟩ W
   rcases za k q.length with g2|g2
   . have pL:(k:Int)<q.length:=ac
     have Y:k<ms.length:=ac
     have Cq:(k:Int)<ms.length:=ac
     have f2:=M1 ((k:Int)+1)
     obtain⟨y,I⟩:=S1 (q[k]);obtain⟨z,Z⟩:=S1 (ms[k]);obtain⟨l1,l2⟩:=Xi a y;have l3:=Xj a y;have l4:=S3 a y z;apply rn;simp[BR,g,xn,g2,pL,<-I];refine O1 func22 (SY F r a ?_);apply pg;simp;apply rn;simp[qC,tZ,g,xn,g1,g2,<-I,<-hv];refine O1 func23 (SZ a ?_);apply pg;simp;apply rn;simp[BR,g,xn,g2,<-I];refine O1 func24 (Xg F r a ?_);apply pg;simp
     apply rn;simp[qC,tZ,g,xn,g1,g2,<-I,<-hv];refine O1 func25 (Xh a ?_);apply pg;simp;apply rn;simp[BR,g,qP,xn,g2,Y,<-I,<-Z];refine O1 func26 (ZY F r a ?_);apply pg;simp;apply rn;simp[qC,tZ,g,qP,xn,g1,g2,Y,<-I,<-Z,<-hv];refine O1 func27 (ZZ a ?_);apply pg;simp;apply rn;simp;refine O1 func28 (iM ac ac ?_)
     apply rn;simp;refine O1 func28 (iM ac ac ?_)
     apply rn;simp;refine O1 func28 (iM ac ac ?_)
     apply rn;simp;refine O1 func28 (iM ac ac ?_)
     apply rn;simp[xn];exact⟨f2,W _ g2 ⟨_,rfl,⟨by simp[G],by simp[H],by simp[f],by simp[qC],by simp[tZ],by simp[BR],by simp[g],by simp[qP]⟩,ap⟩⟩
   . have pL:¬(k:Int)<q.length:=ac
     apply rn;simp[qC,tZ,BR,g,xn,pL,g1,<-hv];refine O1 func21 (SW.jw a.fits (λc hc=>by have:=p.lost c hc;omega) ac ac ?_)
     apply pg;simp;apply rn;simp[tZ];exact⟨f1,ih _ g1 ⟨_,_,rfl,⟨by simp[G],by simp[H],by simp[f],by simp[qC],ap⟩,T,r⟩⟩
 . have A:¬(i:Int)<L.length:=ac
   apply rn;simp[qC,tZ,A];refine O1 func9 (jd F ?_);apply rn;simp;exact .done (h _)
end RH

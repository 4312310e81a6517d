import Derived.Test.YtggpckcdfilkoaaGreatDoorC21
set_option linter.all false
set_option maxHeartbeats 2000000
set_option maxRecDepth 4000
namespace Go.Proofs.YtggpckcdfilkoaaGreatDoor
open Go.Proofs.Tryz hiding f0 f1 f10
section
open Go.bu
abbrev pl6:YA:=[⟨18,.take (MX 0 5) false (.both 5 (.take [6,7,8,11] false (MU [9,10] .done)) (MU [9,5] (.take [6,7,8,11] false (MU [10] .done))))⟩,⟨19,.take (MX 0 8) false (.both 8 (.take [9,10,11,14] false (MU [12,13] .done)) (MU [12,8] (.take [9,10,11,14] false (MU [13] .done))))⟩,⟨22,.take (MX 0 5) false (MU [5] (MV [6]))⟩]
abbrev ae6:YA:=[⟨11,.take [0,1,2,3,4,9] false (.both 5 (MU [6,7,8,10] .done) (MU [6,5,7,8,10] .done))⟩]
abbrev ZV:YA:=[⟨4,MV (MX 0 9)⟩]
abbrev SI:YA:=[⟨5,.take (MX 0 6) false (MU [6] (MV [7,8]))⟩]
abbrev Dx:YA:=[⟨5,MV (MX 0 21)⟩]
end
section
open Go.bu Go.Conc
variable{m:Mo}{σ:af}{KF:YC}
def jY  f   begun :∀  fuel   way   many   c ,(∀x∈way,0<=x/\x<f.bc)->∀w∈eu f begun fuel way many c,∀x∈w,0<=x/\x<f.bc
 |0,way,many,c,hb,w,b=>by simp[eu]at b;simp_all
 | fuel+1,way,many,c,hb,w,b=>by
   rw[iT,E2]at b;obtain⟨k,d,a⟩:=b;have:=wL.1 d;unfold nH at a;split at a
   . cases a
   split at a
   . refine jY f begun fuel _ _ _ (λx e=>?_) w a
     grind
   cases a
end
section
open Go.bu Go.Conc
section
variable{k:HK}
def Dn(k:HK)(r:RQ):Prop:=r.Pairwise λy z=>k z<=k y
def rC  x :∀{r},(∀z∈r,k z<=k x)->cI (tF k) x r=x::r
 |[],_=>rfl
 | y::r,h=>by
   unfold cI
   grind
def jZ  x :∀{r z},z∈cI (tF k) x r->z=x\/z∈r
 |[],z,h=>by simp[cI]at h;omega
 | y :: r,z,h=>by
   unfold cI at h;split at h
   . rcases Cv.1 h with rfl|h
     . grind
     rcases jZ x h with h|h
     . omega
     grind
   grind
theorem iD  x :∀{r},Dn k r->Dn k (cI (tF k) x r)
 |[],_=>by simp[cI,Dn]
 | y ::r,h=>by
   obtain⟨c,b⟩:=KD.1 h;unfold cI;split
   . next q=>
     have d:k x<k y:=am
     refine KD.2 ⟨λz a=>?_,iD x b⟩;rcases jZ x a with rfl|a
     . omega
     grind
   next q=>
   refine KD.2 ⟨λz a=>?_,h⟩
   grind
def lI  x :∀r:RQ,r.Sublist (cI (tF k) x r)
 |[]=>List.nil_sublist _
 | y::r=>by
   unfold cI;split
   . exact(lI x r).cons_cons y
   grind
theorem rD  x  {d r}(a:d.Sublist r) (hd:Dn k r):(cI (tF k) x d).Sublist (cI (tF k) x r):=by
 induction a with
 |slnil=>grind
 | cons y a b=>
   obtain⟨e,c⟩:=KD.1 hd;by_cases q:k x<k y
   . rw[lY q]
     exact(b c).cons y
   rw[qD q,rC x am]
   grind
 | cons_cons y a b=>
   obtain⟨e,c⟩:=KD.1 hd;by_cases q:k x<k y
   . rw[lY q,lY q]
     exact(b c).cons_cons y
   simp_all [qD]
def pn{c l:RQ}(a:c.Sublist l):∀{b r},b.Sublist r->Dn k r->(c.foldl (λr x=>cI (tF k) x r) b).Sublist (l.foldl (λr x=>cI (tF k) x r) r):=by
 induction a with
 |slnil=>grind
 |cons x a d=>intro b r h hd;exact d (h.trans (lI x r)) (iD x hd)
 |cons_cons x a d=>grind [rD,iD]
end
def kF{f a l}(b:a.Sublist l):(aV f a).Sublist (aV f l):=by rw[eV,eV];exact(pn b am List.Pairwise.nil).reverse
def iU  f   a b   r :bI f (a::b::r)=(dg f a b||bI f (b::r)):=by
 unfold bI;rw[show(a::b::r).length-1=r.length+1 from rfl,List.range_succ_eq_map,List.any_cons,List.any_map];rfl
theorem gi{f}(c:f.Good):∀{l},(∀n∈l,0<=n/\n<f.ao.length)->bI f l=false->l.Pairwise (Fit f)
 |[],_,_=>List.Pairwise.nil
 |[a],_,_=>List.pairwise_singleton _ _
 | a::b::r,i,h=>by
   rw[iU,L3]at h;have d:=gi c am h.2;refine KD.2 ⟨λz e=>?_,d⟩;rcases Cv.1 e with rfl|g
   . exact h.1
   exact xr c aq aq am h.1 aq
theorem gk{f}:∀{l},l.Pairwise (Fit f)->bI f l=false
 |[],_=>rfl
 |[a],_=>rfl
 |a::b::r,h=>by obtain⟨c,d⟩:=KD.1 h;rw[iU,gk d,LO];exact c b ap
def uX{f}(o:f.Good){b l}(i:b.Sublist l)(j:b≠[])(p:∀n∈l,0<=n/\n<f.ao.length)(h:iS f l=0):iS f b=0:=by
 obtain⟨k,c,q⟩:=jz.1 h;have s:=kF (f:=f) i
 have d:aV f b≠[]:=λe=>by
  cases b with
  |nil=>grind
  |cons a r=>have:a∈aV f (a::r):=iE.2 ap;grind
 have g:aV f l≠[]:=am;have t:∀n∈aV f l,0<=n/\n<f.ao.length:=(by grind [iE]);refine jz.2 ⟨?_,?_,(by grind [gk,gi])⟩
 . unfold cR at k ⊢
   grind
 generalize aV f b=m at *
 unfold cd at c ⊢;simp   at c ⊢;obtain⟨x,u⟩:=HN _ c;have:x∈fM f m:=(by grind [kZ])
 grind
def iV{β:Type}{G:Nat->List β}{c}:∀d ,(∀j,c<=j->j<c+d->G j=[])->(List.range (c+d)).flatMap G=(List.range c).flatMap G
 |0,_=>rfl
 | d+1,h=>by
   rw[<-Nat.add_assoc,zU,Fe,iV d am]
   grind
def oo(l:RQ):Wz:=(List.range (aJ l+1).toNat).map λk:Nat=>l++[(k:Int)]
def cu:Nat->Wz
 |0=>[[]]
 |i+1=>(cu i).flatMap oo
def jL:Nat->RQ->Wz
 |0,l=>[l]
 |n+1,l=>(List.range (aJ l+1).toNat).flatMap λk:Nat=>jL n (l++[(k:Int)])
def ew(f:Fr)(l:RQ):Bool:=decide (aJ l<=f.bc) && (List.range (aJ l).toNat).all λk:Nat=>decide (iS f (aN l k)=0)
def lJ  w t   k :(aN w k).Sublist (aN (w++t) k):=by
 unfold aN
 grind
def bO  w t :aJ w<=aJ (w++t):=by
 unfold aJ
 simp_all [mR]
def ir:∀  n   w l ,l∈jL n w->∃t,l=w++t/\t.length=n
 |0,w,l,h=>by simp[jL]at h;simp_all
 | n+1,w,l,h=>by
   obtain⟨k,_,a⟩:=E2.1 h;obtain⟨t,b,c⟩:=ir n _ l a
   grind
def jv:∀n m ,(cu m).flatMap (jL n)=cu (m+n)
 | 0,m=>by
   have:jL 0=λl=>[l]:=by rfl
   simp_all
 | n+1,m=>by
   have e:∀l,jL (n+1) l=(oo l).flatMap _:=λl=>by unfold oo;rw[List.flatMap_map];rfl
   rw[show m+(n+1)=m+1+n by omega,<-jv n _,cu,List.flatMap_assoc]
   grind [lZ]
def pR{f}(b:f.Good){w t}{k:Nat}(hlen:(w++t).length=f.ao.length)(e:(k:Int)<aJ w)(a:aN w k≠[])(h:ew f (w++t)=true):iS f (aN w k)=0:=by
 unfold ew at h;rw[vc,LF]at h;have g:=bO w t;have c:=h.2 k (wL.2 ac);refine uX b (lJ w t k) a (λn d=>?_) (FE c);have:=aZ d;omega
def iX{f}(o:f.Good):∀  fuel   way b ,way.length+fuel=f.ao.length->Hs f way.length b->(∀k ,k<6->aB (b.getD k 0)=aN way k)->aJ way<=f.bc->(∀k:Nat,(k:Int)<aJ way->iS f (aN way k)=0) ->
 eu f [] fuel way (aJ way) b=(jL fuel way).filter (ew f)
 | 0,way,b,_,_,_,v,w=>by
   have:ew f way=true:=by
    unfold ew
    grind
   simp[eu,jL,this]
 | fuel+1,way,b,B,p,hb,v,w=>by
   have q:=o.bc;have C:=o.jo;have x:=iJ way;rw[iT];unfold jL;rw[List.filter_flatMap];obtain⟨d,hd⟩:∃d,(aJ way+1).toNat=(min (aJ way+1) f.bc).toNat+d:=⟨(aJ way+1).toNat-(min (aJ way+1) f.bc).toNat,ac⟩
   rw[hd,iV d λj D E=>?_]
   . refine lZ λk u=>?_
     have u:=wL.1 u;have r:k<6:=ac
     have c:k<b.length:=by rw[p.jo];omega
     have h:b.getD k 0=b[k]:=am
     have i:way.length<6:=ac
     have m:aB (cM b[k] way.length)=aN (way++[(k:Int)]) k:=by rw[l8 (p.small _ (lb c)) i (p.bits _ (lb c)),<-h,hb k r,ba,wS rfl]
     unfold nH;rw[wN ap,h]
     by_cases n:iY f (cM b[k] way.length)=true
     . rw [wS n,<-aS]
       unfold iY at n;rw[wK,m]at n;have y:=p.set i c;refine iX o fuel _ _ am aq (λj s=>?_) (by rw[aS];omega) λj s=>?_
       . by_cases e:j=k
         . grind
         rw[sg,Fp (vj e),<-List.getD_eq_getElem?_getD,hb j s,ba,wN ac,xx]
       by_cases e:j=k
       . grind
       rw[aS]at s
       rw[ba,wN ac,xx]
       grind
     rw[wN n]
     symm;rw[Hj];intro l g a;obtain⟨t,rfl,z⟩:=ir _ _ _ g;refine n ?_;unfold iY;rw[wK,m];refine pR o am (by rw[aS];omega) ?_ a
     simp_all [ba]
   rw[Hj]
   intro l g a;obtain⟨t,rfl,z⟩:=ir _ _ _ g;unfold ew at a;rw[vc,wK]at a;have A:=bO (way++[(j:Int)]) t;rw[aS]at A;omega
def ib{f}(d:f.Good):(cu f.ao.length).filter (ew f)=aG f []:=by
 have j:=d.bc;have e:aJ []=0:=rfl;have g:aB 0=[]:=v3
 have h:Hs f ([]:RQ).length [0,0,0,0,0,0]:=⟨rfl,am,am⟩
 have c:∀k:Nat,k<6->aB (([0,0,0,0,0,0]:RQ).getD k 0)=aN [] k:=λk i=>by
  have:([0,0,0,0,0,0]:RQ).getD k 0=0:=by
   match k,i with
   |0,_=>rfl
   |1,_=>rfl
   |2,_=>rfl
   |3,_=>rfl
   |4,_=>rfl
   |5,_=>rfl
  rw[this,g];rfl
 have a:=iX d f.ao.length [] [0,0,0,0,0,0] ap h c ac ac;rw[e]at a;have b:=jv f.ao.length 0;rw[IC]at b;unfold aG;rw[a,<-b];simp[cu]
def dI:∀  i ,∀l∈cu i,l.length=i/\(∀x∈l,0<=x/\x<i)/\aJ l<=i
 |0,l,h=>by simp[cu]at h;subst h;exact⟨rfl,ap,be⟩
 | i+1,l,h=>by
   obtain⟨p,a,b⟩:=E2.1 h;obtain⟨c,d,e⟩:=dI i p a;unfold oo at b
   grind [aS]
end
section
open Go.bu Go.Conc
variable{m:Mo}{σ:af}{KF:YC}
def toldOf(n all:Int):Int:=if n=0 then 2 else if n=all then 1 else 3
def gC{n all}(a:0<=n)(b:n<=all)(c:0<all):dZ n all=toldOf n all:=by unfold dZ toldOf;omega
end
section
open Go.bu Go.Conc
def bD{w k}{i:Nat}(hi:i<w.length)(h:w.getD i 0=k):(i:Int)∈aN w k:=by
 unfold aN;refine CR.2 ⟨(w[i],i),LB.2 ⟨?_,?_⟩,rfl⟩
 . grind
 simp_all
def gn:RQ->RQ->RQ->RQ × List Int
 |[],w,s=>(w,s)
 |h::l,w,s=>if h∈s then gn l (w++[(s.idxOf h:Int)]) s else gn l (w++[(s.length:Int)]) (s++[h])
structure Canon(p w s:RQ):Prop where
 len:w.length=p.length
 many:aJ w=s.length
 nd:s.Nodup
 sub:∀x∈s,x∈p
 j7:∀k ,(hk:k<s.length)->aN w k=aN p s[k]
 part:w∈cu p.length
def Canon.all{p w s}(h:Canon p w s):∀x∈p,x∈s:=λx c=>by
 obtain⟨i,d,rfl⟩:=FG.1 c;have f:=(dI _ _ h.part).2.1;have a:i<w.length:=by rw[h.len];exact d
 have g:w[i]<aJ w:=by
  have e:w=w.take i++(w[i]::w.drop (i+1)):=aq
  have:aJ (w.take i++[w[i]])<=aJ w:=by
   have:=bO (w.take i++[w[i]]) (w.drop (i+1))
   grind
  rw[aS]at this;omega
 have k:=f _ (lb a);rw[h.many]at g;have j:w[i].toNat<s.length:=ac
 have b:(i:Int)∈aN w (w[i].toNat:Int):=bD a am;rw[h.j7 _ j]at b;have:=(aZ b).2.2
 simp_all
def dE{s:RQ}{h}(a:h∈s):∃b ,s[s.idxOf h]=h:=⟨List.idxOf_lt_length_iff.2 a,List.getElem_idxOf (List.idxOf_lt_length_iff.2 a)⟩
def iZ{s:RQ}(a:s.Nodup){i j hi}{hj:j<s.length}(e:s[i]=s[j]):i=j:=by
 rw[List.Nodup,List.pairwise_iff_getElem]at a
 grind
def gq:∀  l p w s ,Canon p w s->Canon (p++l) (gn l w s).1 (gn l w s).2
 |[],p,w,s,h=>by simpa[gn]using h
 | a :: l, p,w,s,h=>by
   have hlen:=h.len;rw[show p++a::l=(p++[a])++l by simp];unfold gn;split
   . next f=>
     obtain⟨i,t⟩:=dE f;refine gq l _ _ _ ⟨by simp[hlen],?_,h.nd,λx hx=>by simp[h.sub x hx],λk c=>?_,?_⟩
     . rw[aS,h.many];omega
     . rw[ba,ba,h.j7 k c,hlen]
       by_cases e:k=s.idxOf a
       . simp_all
       rw[wN ac,wN (λj=>e (iZ h.nd (hi:=c) (hj:=i) ac))]
     rw[zR,II,cu,E2]
     exact⟨w,h.part,CR.2 ⟨_,wL.2 (by rw[h.many];omega),rfl⟩⟩
   next f=>
   refine gq l _ _ _ ⟨by simp[hlen],?_,?_,λx hx=>?_,λk c=>?_,?_⟩
   . rw[aS,h.many,zR];simp;omega
   . rw[MH]
     exact⟨h.nd,ap,λx hx y u=>am⟩
   . rcases E4.1 hx with hx|hx
     . simp[h.sub x hx]
     simp_all
   . rw [ba,ba,hlen]
     rw[zR,II]at c;by_cases e:k=s.length
     . subst e
       rw[wS rfl];have m:(s++[a])[s.length]=a:=ap
       rw[m,wS rfl];congr 1
       have n:aN w (s.length:Int)=[]:=by
        rw[List.eq_nil_iff_forall_not_mem];intro x hx;obtain⟨o,q,g⟩:=aZ hx;have b:x.toNat<w.length:=ac
        rw[sg,kn b,IE]at g;have e:w=w.take x.toNat++(w[x.toNat]::w.drop (x.toNat+1)):=by rw[<-List.drop_eq_getElem_cons b,Ji]
        have:=bO (w.take x.toNat++[w[x.toNat]]) (w.drop (x.toNat+1));rw[IG,K7,<-e,aS,h.many]at this;omega
       have r:aN p a=[]:=by
        rw[List.eq_nil_iff_forall_not_mem];intro x hx;obtain⟨o,q,g⟩:=aZ hx;have b:x.toNat<p.length:=ac
        rw[sg,kn b,IE]at g;exact f (g ▸ h.all _ (lb b))
       rw[n,r]
     have d:k<s.length:=ac
     rw[wN ac,List.getElem_append_left d,wN (λj=>f aq),h.j7 k d]
   rw[zR,II,cu,E2]
   exact⟨w,h.part,CR.2 ⟨_,wL.2 (by rw[h.many];omega),rfl⟩⟩
def rE  p :∃w s,Canon p w s:=⟨_,_,by
 have:=gq p [] [] [] ⟨rfl,rfl,KS,ap,λk a=>by simp at a,by simp[cu]⟩;simpa using this⟩
def rR{n all}(h:0<all):toldOf n all=2↔n=0:=by unfold toldOf;omega
def uh{α:Type}  p  (l:List α):(l.filter p).length=0↔∀x∈l,p x=false:=aq
section
variable{L:Wz}{n:Nat}
def ni(L:Wz)(x y:Nat):Int:=dZ ((L.filter (bo x y)).length:Int) L.length
def rS(a:0<L.length){x y}:ni L x y=2↔∀w∈L,bo x y w=false:=by
 have:=Rp (bo (x:Int) y) L;unfold ni;rw[gC ac ac ac,rR ac,<-uh];omega
def nj{p w s}(h:Canon p w s){i j}(hi:i<p.length)(hj:j<p.length)(e:p.getD i 0=p.getD j 0):bo i j w=true:=by
 have d:i<w.length:=by rw[h.len];exact hi
 have f:j<w.length:=by rw[h.len];exact hj
 have g:p.getD i 0=p[i]:=aq
 have k:p.getD i 0∈s:=h.all _ aq
 obtain⟨l,m⟩:=dE k;have a:=h.j7 _ l;rw[m]at a;have n:(i:Int)∈aN w ((s.idxOf (p.getD i 0):Nat):Int):=by rw[a];exact bD hi rfl
 have o:(j:Int)∈aN w ((s.idxOf (p.getD i 0):Nat):Int):=by rw[a];exact bD hj e.symm
 have b:=(aZ n).2.2;have c:=(aZ o).2.2;rw[FV]at b c;simp only[bo,wK,FV,b,c]
end
def lK  f   l :(aV f l).Pairwise λa b=>(aU f a).hour<=(aU f b).hour:=by
 rw[eV,List.pairwise_reverse]
 have key:∀(l r:RQ),Dn (λn=>(aU f n).hour) r->Dn (λn=>(aU f n).hour) (l.foldl (λr x=>cI (tF λn=>(aU f n).hour) x r) r):=by
  intro l;induction l with
  |nil=>grind
  |cons a l c=>grind [iD]
 exact key l [] List.Pairwise.nil
def gJ{R}:∀{l:RQ},l.Pairwise R->∀a∈l,∀b∈l,a≠b->R a b\/R b a
 |[],_,a,g,_,_,_=>am
 | c ::l,h,a,g,b,hb,d=>by
   obtain⟨j,i⟩:=KD.1 h;rcases Cv.1 g with rfl|e
   . grind
   rcases Cv.1 hb with rfl|f
   . grind
   exact gJ i a e b f d
def uY:∀a:Fin 32,∀b:Fin 32,cj (a.val:Int) (b.val:Int)=cj (b.val:Int) (a.val:Int):=v3
def Fr.Good.symm{f:Fr}(a:f.Good){i j}(hi:i<f.roads.length)(hj:j<f.roads.length):rd f.roads i j=rd f.roads j i:=by
 have h:=a.HH;unfold fD at h;split at h
 . cases h
 split at h
 . cases h
 split at h
 . omega
 split at h
 . cases h
 next q=>
 simp only[ES,wL,not_exists,not_and]at q;have b:=q i hi j hj;unfold cS at b
 grind
theorem uZ:∀a:Fin 32,cj (a.val:Int) (a.val:Int)=0:=v3
def rH{f}(a:f.Good){x}(b:0<=x/\x<f.ao.length):dg f x x=false:=by
 have e:=lf (a.pS _ (dL b));obtain⟨A,d⟩:=gu e.2.2.2.2.2
 have g:rd f.roads (aU f x).place.toNat (aU f x).place.toNat=0:=by
  have h:=a.HH;unfold fD at h;split at h
  . cases h
  split at h
  . cases h
  split at h
  . omega
  split at h
  . cases h
  next q=>
  simp only[ES,wL,not_exists,not_and]at q;have c:=q (aU f x).place.toNat ac (aU f x).place.toNat ac;unfold cS at c
  grind
 unfold dg
 grind [uZ]
theorem rI{f}(c:f.Good){a b}(d:0<=a/\a<f.ao.length)(hb:0<=b/\b<f.ao.length)(k:(aU f a).hour<=(aU f b).hour)(h:Fit f b a):Fit f a b:=by
 have e:=lf (c.pS _ (dL d));have g:=lf (c.pS _ (dL hb));obtain⟨A,l⟩:=gu e.2.2.2.2.2;obtain⟨B,m⟩:=gu g.2.2.2.2.2;have n:=uY A B;have o:=c.symm (i:=(aU f a).place.toNat) (j:=(aU f b).place.toNat) ac ac;unfold Fit dg at h ⊢
 grind
structure yq  f  (l:RQ):Prop where
 di:∀a∈l,∀b∈l,(aU f a).di=(aU f b).di
 Sv:∃h,∀j∈l,h∈cD f (aU f j)
 fit:∀a∈l,∀b∈l,a≠b->Fit f a b\/Fit f b a
def oq{f}(v:f.Good){l}(r:l≠[])(j:l.Nodup)(w:∀n∈l,0<=n/\n<f.ao.length):iS f l=0↔yq f l:=by
 have s:=jM f l;have i:∀n,n∈aV f l↔n∈l:=am;have k:=lK f l;have d:(aV f l).Nodup:=s.nodup_iff.2 j;have o:aV f l≠[]:=λe=>aq
 rw[jz];generalize aV f l=S at *;have t:S.getD 0 0∈S:=am
 constructor
 . rintro⟨u,m,y⟩
   unfold cR at u;refine⟨am,?_,λa g b hb c=>gJ (by grind [gi]) a ((i a).2 g) b am c⟩;unfold cd at m;simp only[K2]at m;obtain⟨x,p⟩:=HN _ m;exact⟨x,(by grind [kZ])⟩
 intro h
 refine⟨?_,?_,gk ?_⟩
 . unfold cR
   rw[Ib];intro x p;rw[h.di x am _ ((i _).1 t)];simp
 . unfold cd
   obtain⟨x,p⟩:=h.Sv;have:x∈fM f S:=(by grind [kZ])
   grind
 refine(k.and d).imp_of_mem λ{a b} g hb c=>?_
 have g:=(i a).1 g;have hb:=(i b).1 hb;rcases h.fit a g b hb c.2 with q|q
 . exact q
 grind [rI]
def eD  w   k :(aN w k).Nodup:=(nI k w 0).1.imp ac
def ui  L   x y  (a:0<L.length):ni L x y=1\/ni L x y=2\/ni L x y=3:=by
 have:=Rp (bo (x:Int) y) L;unfold ni;rw[gC ac ac ac];unfold toldOf;omega
def eM{w x}(h:x∈w):x<aJ w:=by obtain⟨a,b,rfl⟩:=List.append_of_mem h;have:=bO (a++[x]) b;rw[IG,K7,aS]at this;omega
section
variable{f x:Fr}{π ρ:Ct}
def nk{p w s}(h:Canon p w s){i j}(hi:i<p.length)(hj:j<p.length)(e:bo i j w=true):p.getD i 0=p.getD j 0:=by
 have a:i<w.length:=by rw[h.len];exact hi
 have b:j<w.length:=by rw[h.len];exact hj
 simp only[bo,wK,FV]at e;have f:w.getD i 0=w[i]:=aq
 have m:=((dI _ _ h.part).2.1 _ (lb a)).1;have g:=eM (lb a);rw[h.many]at g;have k:w[i].toNat<s.length:=ac
 have l:=h.j7 _ k;have c:(i:Int)∈aN w ((w[i].toNat:Nat):Int):=bD a ac
 have d:(j:Int)∈aN w ((w[i].toNat:Nat):Int):=bD b ac
 rw[l]at c d;have n:=(aZ c).2.2;have o:=(aZ d).2.2
 simp_all
end
def bT{l:RQ}{i}(h:i<l.length):l.getD i 0∈l:=aq
def u6{l:RQ}{x}(h:x∈l):∃i,i<l.length/\l.getD i 0=x:=by obtain⟨i,a,e⟩:=FG.1 h;exact⟨i,a,aq⟩
structure gM(f x:Fr)(L:RQ):Prop where
 roads:x.roads=f.roads
 fr:x.bs=f.bs
 to:x.fN=f.fN
 dN:x.dN=f.dN
 bc:f.bc<=x.bc
 Rh:∀i∈L,0<=i/\i<f.ao.length
 pS:x.ao=L.map (aU f)
section
variable{f x:Fr}{L:RQ}
def gM.len(h:gM f x L):x.ao.length=L.length:=by rw[h.pS,zD]
def gM.at(h:gM f x L){j:Int}(b:0<=j/\j<L.length):aU x j=aU f (L.getD j.toNat 0):=by
 have a:j.toNat<L.length:=ac
 unfold aU;rw[h.pS,sg,Hi,kn a,sg (l:=L),kn a];rfl
def gM.cD(h:gM f x L)(e:vU):cD x e=cD f e:=by unfold Go.Proofs.YtggpckcdfilkoaaGreatDoor.cD lg;rw[h.fr,h.to]
def gM.one(h:gM f x L)(n:x.Good){l i:RQ}(e:∀j∈i,(0<=j/\j<L.length)/\L.getD j.toNat 0∈l)(k:yq f l):yq x i:=by
 have c:∀j∈i,aU x j=aU f (L.getD j.toNat 0):=λj m=>h.at (e j m).1
 refine⟨λa d b hb=>?_,?_,λa d b hb o=>?_⟩
 . rw[c a d,c b hb];exact k.di _ (e a d).2 _ (e b hb).2
 . obtain⟨z,q⟩:=k.Sv
   exact⟨z,λj m=>by rw[h.cD,c j m];simp_all⟩
 by_cases g:L.getD a.toNat 0=L.getD b.toNat 0
 . have r:=rH n (x:=b) (by rw[h.len];simp_all)
   have p:=c a d;rw[g,<-c b hb]at p;refine .inl ?_;unfold Fit dg at *
   simp_all
 have:=k.fit _ (e a d).2 _ (e b hb).2 g;unfold Fit dg at this ⊢;rw[c a d,c b hb,h.roads,h.dN];exact this
def gM.way(h:gM f x L)(E:f.Good)(u:x.Good){w}(F:w∈aG f []):∃v∈aG x [],∀i j ,i<L.length->j<L.length->bo i j v=bo (L.getD i 0) (L.getD j 0) w:=by
 rw[<-ib E,LB]at F;obtain⟨y,z⟩:=F;obtain⟨wl,G,_⟩:=dI _ _ y;obtain⟨p,R⟩:=S1 (L.map λj=>w.getD j.toNat 0)
 have g:p.length=L.length:=aq
 have o:∀j,j<L.length->0<=L.getD j 0/\(L.getD j 0).toNat<w.length:=λj l=>by have:=h.Rh _ (bT l);omega
 have m:∀j,j<L.length->p.getD j 0=w.getD (L.getD j 0).toNat 0:=λj l=>aq
 have r:∀c∈p,∃j,j<L.length/\p.getD j 0=c/\c∈w:=λc d=>by
  obtain⟨j,l,H⟩:=u6 d
  grind
 obtain⟨v,s,d⟩:=rE p;have A:=z;unfold ew at A;rw[vc,LF,wK]at A;refine⟨v,?_,λi j n l=>?_⟩
 . rw[<-ib u,LB,h.len,<-g]
   refine⟨d.part,?_⟩;unfold ew;rw[vc,LF,d.many];have J:=iJ w
   have S:=qR (aJ w).toNat s d.nd λc B=>by obtain⟨_,_,_,a⟩:=r c (d.sub c B);have:=G c a;have:=eM a;omega
   refine⟨decide_eq_true (by have:=h.bc;omega),λk T=>?_⟩
   have t:k<s.length:=am
   rw[wK,d.j7 k t];obtain⟨j,l,e,a⟩:=r _ (d.sub _ (lb t));generalize s[k]=c at *;have K:=G c a;have M:=eM a;have b:=FE (A.2 c.toNat (wL.2 ac))
   rw[show(c.toNat:Int)=c by omega]at b
   have C:aN w c≠[]:=Jg (bD (i:=(L.getD j 0).toNat) (o j l).2 am)
   have D:aN p c≠[]:=Jg (bD (i:=j) ac e)
   rw[oq E C (eD w c) λi n=>by have:=aZ n;omega]at b
   rw[oq u D (eD p c) λi n=>by have:=aZ n;rw[g,<-h.len]at this;omega]
   refine h.one u (λi n=>?_) b
   obtain⟨N,I,O⟩:=aZ n;rw[g]at I;have P:=o i.toNat ac
   refine⟨⟨N,I⟩,?_⟩;have:=bD (w:=w) (k:=c) (i:=(L.getD i.toNat 0).toNat) P.2 (by rw[<-m _ ac];exact O)
   rwa [show((L.getD i.toNat 0).toNat:Int)=L.getD i.toNat 0 by omega]at this
 have Q:=m i n
 have H:=m j l;rw[IJ];constructor
 . intro q
   have:=nk d ac ac q
   rw[Q,H]at this;simp only[bo,wK];exact this
 intro q
 simp only[bo,wK]at q;exact nj d ac ac ac
end
def ja  p :∀n ,n<=6->(0<=bh ((fT n).filter p)/\bh ((fT n).filter p)<64)/\aB (bh ((fT n).filter p))=(fT n).filter p
 | 0,_=>by
   show(0<=bh []/\bh []<64)/\aB (bh [])=[];decide
 | n + 1,h=>by
   obtain⟨a,b⟩:=ja p n ac;rw[iu];split
   . rw[kP]
     exact⟨(A7 a ac).1,by grind [l8]⟩
   grind
section
variable{w:bF}
abbrev nJ(w:bF)(es cs:RQ):RQ:=es++cs.map λ(c:Int)=>c+(w.fair.ao.length:Int)
theorem rJ{i:Int}(h:0<=i/\i<w.fair.ao.length):aU (dM w) i=aU w.fair i:=by
 unfold aU dM
 grind
theorem rK{c:Int}(h:0<=c/\c<w.ak.length):aU (dM w) (c+w.fair.ao.length)=(fU w c).lost:=by
 have e:(c+w.fair.ao.length).toNat=w.fair.ao.length+c.toNat:=ac
 unfold aU dM fU
 simp_all
def Dy:(dM w).ao.length=w.fair.ao.length+w.ak.length:=am
def kL{es cs:RQ}(a:∀i∈es,0<=i/\i<w.fair.ao.length)(b:∀i∈cs,0<=i/\i<w.ak.length):gM (dM w) (cJ w es cs) (nJ w es cs):=
 ⟨rfl,rfl,rfl,rfl,FJ _,am,by grind [List.map_congr_left,rJ,rK]⟩
def po(hv:w.Valid){es cs:RQ}(d:∀i∈es,0<=i/\i<w.fair.ao.length)(f:∀i∈cs,0<=i/\i<w.ak.length)(h:es.length+cs.length<=6):(cJ w es cs).Good:=by
 have a:=gy hv.oX hv.jo;have b:=kL d f
 have c:∀e∈(cJ w es cs).ao,e∈(dM w).ao:=λe q=>by rw[b.pS]at q;obtain⟨i,g,rfl⟩:=CR.1 q;exact dL (b.Rh i g)
 have hlen:(cJ w es cs).ao.length=es.length+cs.length:=am
 exact⟨⟨ac,a.fits.roads,a.fits.row,λe q=>a.fits.marks e (c e q)⟩,a.fr,a.to,a.le,a.dN,a.bc,ac,λe q=>a.pS e (c e q),a.HH⟩
def bN{h i}(hi:i∈aH w h):0<=i/\i<w.fair.ao.length:=fE (LB.1 hi).1
def cC{h i}(hi:i∈aQ w h):0<=i/\i<w.ak.length:=fE (LB.1 hi).1
def eP  w   h :(aH w h).length<=w.fair.ao.length:=by
 have:=Rp (pE w h) (fT w.fair.ao.length)
 rwa [iF]at this
def eQ  w   h :(aQ w h).length<=w.ak.length:=by
 have:=Rp (pC w h) (fT w.ak.length)
 rwa [iF]at this
def bF.Valid.kE(hv:w.Valid)(h:Int):aB (kE w h)=aH w h:=(ja _ _ (by have:=hv.jo;omega)).2
def bF.Valid.kC(hv:w.Valid)(h:Int):aB (kC w h)=aQ w h:=(ja _ _ (by have:=hv.jo;omega)).2
abbrev bf(w:bF)(h:Int):Fr:=cJ w (aH w h) (aQ w h)
abbrev jb(w:bF)(h:Int):RQ:=nJ w (aH w h) (aQ w h)
def nK  w   h :gM (dM w) (bf w h) (jb w h):=kL (λ_=>bN) λ_=>cC
def dO(hv:w.Valid)  h :(bf w h).Good:=po hv (λ_=>bN) (λ_=>cC) (by have:=eP w h;have:=eQ w h;have:=hv.jo;omega)
def bF.Valid.open(hv:w.Valid):w.Open:=by
 have b:=hv.jo;refine⟨⟨ac,hv.jS.1⟩,λh=>?_⟩;have hb:=dO hv h;obtain⟨v,a⟩:=HN _ hv.some;obtain⟨u,c,_⟩:=(nK w h).way (gy hv.oX b) hb a;refine⟨?_,?_,?_,?_⟩<;>simp  [hv.kE,hv.kC]
 . exact λ_=>bN
 . exact λ_=>cC
 . omega
 grind
def DG{l}(d:∀c∈l,0<=c/\c<(w.ak.length:Int)):(w.only l).ak=l.map (fU w):=by
 show l.filterMap _=_;induction l with
 |nil=>rfl
 | cons a l e=>
   have f:=d a ap;have b:a.toNat<w.ak.length:=ac
   rw[List.filterMap_cons,LM,kn b];simp;exact⟨by simp[fU,b],am⟩
theorem Xk{c:Int}(h:0<=c/\c<w.ak.length):fU w c∈w.ak:=by
 unfold fU
 grind
def bF.Valid.only(hv:w.Valid){l}(f:∀c∈l,0<=c/\c<(w.ak.length:Int))(m:l.length<=w.ak.length):(w.only l).Valid:=by
 have h:=DG f;have j:=hv.jo;have d:∀c∈(w.only l).ak,c∈w.ak:=(by grind [Xk])
 have hlen:(w.only l).ak.length=l.length:=am
 have g:(w.only l).pq:=⟨hv.oX.fits,hv.oX.Jc,λc q=>hv.oX.Rl c (d c q),hv.oX.ways,ac⟩
 have a:(w.only l).fair.ao.length+(w.only l).ak.length<=6:=by rw[hlen];show w.fair.ao.length+l.length<=6;omega
 refine⟨g,hv.aX,hv.way,hv.YV,⟨by have:=hv.jS.1;omega,λc q=>hv.jS.2 c (d c q)⟩,λc q=>hv.late c (d c q),a,?_⟩
 obtain⟨v,e⟩:=HN _ hv.some
 have b:gM (dM w) (dM (w.only l)) (nJ w (fT w.fair.ao.length) l):=by
  have:=kL    (λ_=>fE) f
  refine⟨rfl,rfl,rfl,rfl,FJ _,this.Rh,?_⟩;rw[<-this.pS];show w.fair.ao++(w.only l).ak.map _=(fT w.fair.ao.length).map _++l.map λc=>(fU w c).lost
  rw[h,List.map_map];congr 1;refine Mf am λi k n=>?_
  rw[MG,MG,List.getElem_range];simp[aU,k]
 obtain⟨u,o,_⟩:=b.way (gy hv.oX j) (gy g a) e
 grind
end
def GS(L:RQ)(g g':Int)(v:RQ):Bool:=bo (L.idxOf g:Int) (L.idxOf g':Int) v
def lL{L:RQ}{g}(h:g∈L):L.getD (L.idxOf g) 0=g:=am
def ot  f  (es cs:RQ)  x  (N:RQ) (a:cs.Nodup) (b:∀c∈cs,0<=c/\c<3) (d:3*(es.getD x 0).toNat+2<N.length)  q :∀n ,n<=cs.length ->
 ((List.range n).foldl (λN y=>N.set (3*(es.getD x 0).toNat+(cs.getD y 0).toNat) (jc f x ((es.length:Int)+y))) N).length=N.length/\
 (∀y<n,((List.range n).foldl (λN y=>N.set (3*(es.getD x 0).toNat+(cs.getD y 0).toNat) (jc f x ((es.length:Int)+y))) N).getD (3*(es.getD x 0).toNat+(cs.getD y 0).toNat) 0=jc f x ((es.length:Int)+y))/\
 ((∀y<n,q≠3*(es.getD x 0).toNat+(cs.getD y 0).toNat)->((List.range n).foldl (λN y=>N.set (3*(es.getD x 0).toNat+(cs.getD y 0).toNat) (jc f x ((es.length:Int)+y))) N).getD q 0=N.getD q 0)
 |0,_=>⟨rfl,ac,λ_=>rfl⟩
 | n + 1,m=>by
   obtain⟨o,p,g⟩:=ot f es cs x N a b d q n ac;rw[zU,ET,HW,Is];generalize (List.range n).foldl _ N=R at *;have r:=b _ (bT (l:=cs) (i:=n) ac);refine⟨am,λy s=>?_,λh=>?_⟩
   . by_cases e:y=n
     . subst e
       rw[sg,KC ac];rfl
     have j:(cs.getD y 0).toNat≠(cs.getD n 0).toNat:=λq=>by
      have k:=b _ (bT (l:=cs) (i:=y) ac);have:cs.getD y 0=cs.getD n 0:=ac
      rw[sg,sg,kn (show y<cs.length by omega),kn (show n<cs.length by omega)]at this;exact e (iZ a this)
     grind
   rw[sg,Fp (λe=>h n ac e.symm),<-List.getD_eq_getElem?_getD]
   exact g am
def lM  f   es cs  (a:es.Nodup) (g:∀i∈es,0<=i/\i<6) (b:cs.Nodup) (d:∀c∈cs,0<=c/\c<3)  q :∀n ,n<=es.length ->
 ((List.range n).foldl (λN x=>mG f es cs x N) (List.replicate 18 0)).length=18/\
 (∀x<n,∀y<cs.length,((List.range n).foldl (λN x=>mG f es cs x N) (List.replicate 18 0)).getD (3*(es.getD x 0).toNat+(cs.getD y 0).toNat) 0=jc f x ((es.length:Int)+y))/\
 ((∀x<n,∀y<cs.length,q≠3*(es.getD x 0).toNat+(cs.getD y 0).toNat)->((List.range n).foldl (λN x=>mG f es cs x N) (List.replicate 18 0)).getD q 0=0)
 |0,_=>⟨ap,ac,am⟩
 | n + 1,w=>by
   obtain⟨m,p,r⟩:=lM f es cs a g b d q n ac;rw[zU,ET,HW,Is];obtain⟨R,j⟩:=S1 ((List.range n).foldl (λN x=>mG f es cs x N) (List.replicate 18 0));rw[<-j]at m p r ⊢;have z:=g _ (bT (l:=es) (i:=n) ac);have s:3*(es.getD n 0).toNat+2<R.length:=ac
   have key:=λq=>ot f es cs n R b d s q cs.length (AK _)
   refine⟨by unfold mG;exact(key 0).1.trans m,λx A y o=>?_,λh=>?_⟩
   . by_cases e:x=n
     . subst e;exact(key 0).2.1 y o
     have t:=g _ (bT (l:=es) (i:=x) ac)
     have u:(es.getD x 0).toNat≠(es.getD n 0).toNat:=λq=>by
      have:es.getD x 0=es.getD n 0:=ac
      rw[sg,sg,kn (show x<es.length by omega),kn (show n<es.length by omega)]at this;exact e (iZ a this)
     have v:=d _ (bT o);unfold mG;rw[(key _).2.2 λB k=>by have:=d _ (bT k);omega]
     grind
   unfold mG
   grind
section
variable{w:bF}
def j8  n :(fT n).Nodup:=by grind [List.nodup_range]
def fF  w   h :(aH w h).Nodup:=(j8 _).filter _
def dw  w   h :(aQ w h).Nodup:=(j8 _).filter _
def gN{es cs i}(hi:i∈es):(nJ w es cs).idxOf i=es.idxOf i:=am
def u'{cs:RQ}{n c}:(cs.map fun  c=>c+n).idxOf (c+n)=cs.idxOf c:=by
 induction cs with
 |nil=>rfl
 |cons a l b=>grind
def gO{es cs:RQ}{c:Int}(a:∀i∈es,i<w.fair.ao.length)(b:0<=c):(nJ w es cs).idxOf (c+w.fair.ao.length)=es.length+cs.idxOf c:=by rw[Mg,wN λq=>am,u',LG]
abbrev wB(w:bF)(h i c:Int):Int:=ni (aG (bf w h) []) ((jb w h).idxOf i) ((jb w h).idxOf (c+w.fair.ao.length))
def va(hv:w.Valid){h i c}(hi:0<=i/\i<6)(a:0<=c/\c<3):fV w h i c=if i∈aH w h/\c∈aQ w h then wB w h i c else 0:=by
 have l:=hv.jo;have m:=hv.jS.1;obtain⟨_,b,d⟩:=lM (bf w h) (aH w h) (aQ w h) (fF w h) (λi q=>by have:=bN q;omega) (dw w h) (λi q=>by have:=cC q;omega) (3*i.toNat+c.toNat) _ (AK _)
 have e:fV w h i c=(rL (bf w h) (aH w h) (aQ w h)).getD (3*i.toNat+c.toNat) 0:=by show(rL (cJ w (aB (kE w h)) (aB (kC w h))) (aB (kE w h)) (aB (kC w h))).getD (3*i.toNat+c.toNat) 0=_;rw[hv.kE,hv.kC]
 rw[e];unfold rL;split
 . next q=>
   obtain⟨f,n⟩:=dE q.1;obtain⟨g,o⟩:=dE q.2;have:=b _ f _ g;rw[lL q.1,lL q.2]at this;rw[this];unfold wB ni jc;rw[gN q.1,gO (λi q=>(bN q).2) a.1]
   grind
 next q=>
 refine d λx j y k e=>q ?_
 have p:=bN (bT j);have r:=cC (bT k);have s:(aH w h).getD x 0=i:=ac
 have t:(aQ w h).getD y 0=c:=ac
 grind
def nL(hv:w.Valid)  h :0<(aG (bf w h) []).length:=by
 have:=(hv.open.bk h).some;simp  [hv.kE,hv.kC]at this
 grind
def sO(hv:w.Valid){h i c}(hi:0<=i/\i<6)(b:0<=c/\c<3):nv (fV w h i c)=true↔(i∈aH w h/\c∈aQ w h)/\∃v∈aG (bf w h) [],GS (jb w h) i (c+w.fair.ao.length) v=true:=by
 have a:=nL hv h;rw[va hv hi b];split
 . next q=>
   have d:=rS a (x:=(jb w h).idxOf i) (y:=(jb w h).idxOf (c+w.fair.ao.length))
   have f:nv (wB w h i c)=true↔wB w h i c≠2:=by rcases ui _ ((jb w h).idxOf i) ((jb w h).idxOf (c+w.fair.ao.length)) a with e|e|e<;>simp[e,nv]
   unfold GS
   grind
 next q=>exact⟨λz=>(by cases z),am⟩
def S4(w:bF):w.only (fT w.ak.length)=w:=by
 have h:=DG (w:=w)  λc q=>fE q
 have e:(fT w.ak.length).map (fU w)=w.ak:=Mf am λi d a=>by rw[MG,MG,List.getElem_range];simp[fU,a]
 have b:(fT w.ak.length).filterMap _=w.ak:=h.trans e;unfold bF.only;rw[b]
def ahS:∀n:Fin 4,fT n.1∈yJ n.1 n.1:=v3
end
end
section
open Go.bu Go.Conc
variable{m:Mo}{σ:af}{KF:YC}
def JN{l}(e:l.length<=1000000000)(h:KF (.val (Ae l)) σ):ar prog m 99 [Ae l] σ KF:=by
 by_cases b:l=[]
 . subst b
   refine ar.thaw ?_;refine S0 [] func99 ?_;simp;refine uQ (es:=[]) (sp:=.any) (kk:=1) Ax rfl bX rfl rfl ?_ (.inl rfl) (λ_=>?_) ?_
   . simp
   . apply rn
     simp;exact .done (.dp (bK 1) (.done h))
   have f:(BinOp.eql==BinOp.neq)=false:=rfl
   apply rn;simp[f];refine kA Ax rfl rfl rfl bX rfl bX rfl nM be ap   (xs:=([]:RQ).map Xn) (.empty σ 1) (.inl (.inr ⟨_,by rfl⟩)) ap λg c d=>?_
   apply rn;simp;exact .done ((show cV σ c g 1 _ by simp_all).thaw h)
 exact(Gm b e λa c d=>d.thaw h).thaw
def Xl{σ0 σ a kk es}(h:Tok σ0 σ a kk es)(c:es≠[]):∃sp,a=.sl kk es sp:=by
 rcases h.2 with⟨_,q⟩|q|⟨b,e,_,q,_⟩
 . grind
 . grind
 grind
namespace AD
end AD
end
section
open Go Go.bu Go.Conc
variable{m:Mo}{σ:af}{KF:YC}
def N5{e}(c:e.marks.length<=1000000000)(h:KF (.val (bn e)) σ):ar prog m 97 [bn e] σ KF:=by
 refine ar.start Ax [1] [] 1 func97 rfl rfl (by rfl) s8 ?_;simp;refine bz.intro λb hb=>?_
 simp;refine bz.intro λd hd=>?_
 obtain⟨f,a,hd⟩:=af.bd hd;simp[a,af.ah];refine O1 func99 (JN c ?_);refine aa.run Ax [1] ?_;simp[f,a,af.ah];refine .less (λy x g=>?_) (.done h)
 grind [af.ah]
def abp{l}(e:l.length<=1000)(h:KF (.val (rW l)) σ):ar prog m 98 [rW l] σ KF:=by
 refine S0 [] func98 ?_;simp;refine uQ (es:=l.map fG) (sp:=.any) (kk:=5) Ax rfl Cr rfl rfl ap (.inl rfl) (λb=>?_) ?_
 . have:l=[]:=aq
   subst this;apply rn;simp;exact .dp (bK 5) (.done h)
 have c:(BinOp.eql==BinOp.neq)=false:=rfl
 apply rn;simp[c];refine aP Ax rfl rfl rfl Cr rfl Cr rfl Ps be am  (es:=[])  ⟨af.le_refl _,.inr (.inl ap)⟩ (.inr ⟨_,rfl⟩) λf d a=>?_
 apply rn;simp;exact .dp a.W (.less a.1 (.done h))
def bF.more(w:bF)(c:Az):bF:={w with ak:=w.ak++[c]}
abbrev JO:We:=[.lit (.slice none 0 0),.lit (.slice none 0 0),Xn 0,Xn 0,Xn 0,Xn 0,Xn 0,.lit (.slice none 0 0),.lit (.slice none 0 0)]
abbrev HO(w:bF)(p q a:AV):We:=[p,q,Xn w.fair.bs,Xn w.fair.fN,Xn w.fair.dN,Xn w.fair.bc,Xn w.aX,rW w.ways,a]
def vg{a a' b}(h:a.W a'):(AV.cx [a,b]).W (.cx [a',b]):=λk v hv=>by
 cases hv with
 | cx c l d e=>
   refine .cx c _ d λi v x f g=>?_
   cases i with
   |zero=>cases g;exact h k v (e 0 v a f rfl)
   |succ i=>grind
namespace AD
end AD
end
section
open Go.bu Go.Conc
variable{m:Mo}{σ:af}{KF:YC}
def agd(c:m.solo=true)(d:σ 0=some (.stay [fW])){w}(f:w.cA)  (b:bg w [] [] []≠0) (h:KF (.val (.cx [fa,Xn (bg w [] [] [])])) σ):ar prog m 35 [aT w] σ KF:=by
 have g:Wl [aT w,fa,fa,fa] [aT w,Ae [],Ae [],Ae []]:=E9 (.refl _) (bK 1) (bK 1) (bK 1);have key:=λ(a:YC) i=>j9 (KF:=a) c d f    ⟨ap,ap,ap⟩ b i
 generalize bg w [] [] []=e at b h key;have k:(e==0)=false:=am
 have j:(e !=0)=true:=am
 refine S0 [] func35 ?_;simp;refine bp func51 rfl rfl g (key _ ?_);apply rn;simp[j];exact .done h
def rP{f}(b:f.Good){w}(a:w∈aG f []):w.length=f.ao.length/\∀x∈w,0<=x/\x<f.bc:=by
 refine⟨?_,jY f [] _ _ _ _ ap w a⟩;have:=qS f [] _ _ _ _ w a
 grind
abbrev cW(E C:RQ)(f:Fr)(W:Wz):AV:=.agg (Ae E::Ae C::(vK f++[Cu W]))
def nP{E C:RQ}{f:Fr}{W:Wz}{x y:Nat}(O:W.length<1000000000)(P:E.length<=1000)(I:y<=1000)(J:∀w∈W,x<w.length/\E.length+y<w.length)(h:KF (.val (Xn ((W.filter (bo (x:Int) ((E.length:Int)+y))).length:Int))) σ):ar prog m 101 [cW E C f W,Xn x,Xn y] σ KF:=by
 refine S0 Dx func101 ?_
 simp[f101];refine aa.loop W.length (λi=>MY σ λε=>ε 1=Xn x/\ε 2=Xn y/\ε 3=.cp (cW E C f W) 0/\ε 7=Xn (((W.take i).filter (bo (x:Int) ((E.length:Int)+y))).length:Int)/\ε 8=Xn i) aq ?_
 rintro Q i _ R ⟨ε,rfl,o,l,e,j,g⟩ G
 apply rn;simp[e,g];refine aM.intro (λb=>?_) (λb=>?_)<;>(try simp[-Int.not_lt,-Int.not_le,-Nat.not_lt,-Nat.not_le]at b)<;>(try simp[o,e,j,g,b])
 . obtain⟨v,hv⟩:=S1 (W[i])
   obtain⟨r,k⟩:=J v (by rw[hv];exact lb b)
   have K:W[i]?=some v:=am
   obtain⟨z,t⟩:=S1 (E.length+y);have u:(E.length:Int)+y=z:=ac
   rw[<-t]at k;obtain⟨A,c⟩:∃p,v[x]?=some p:=⟨_,kn r⟩;obtain⟨B,d⟩:∃p,v[z]?=some p:=⟨_,kn k⟩;have D:((W.take i).filter (bo (x:Int) ((E.length:Int)+y))).length<=i:=am
   have L:bo (x:Int) ((E.length:Int)+y) v=decide (A=B):=by rw[u];simp[bo,sg,c,d]
   have a:(W.take (i+1)).filter (bo (x:Int) ((E.length:Int)+y))=(W.take i).filter (bo (x:Int) ((E.length:Int)+y))++if bo (x:Int) ((E.length:Int)+y) v=true then[v]else[]:=by grind [List.take_succ_eq_append_getElem]
   rw[L]at a;have f1:=M1 ((z:Int))
   obtain⟨n,H⟩:=S1 (((W.take i).filter (bo (x:Int) ((E.length:Int)+y))).length);rw[<-H]at D j;simp only[<-hv]
   by_cases q:A=B
   . subst q
     simp at a;have F:((W.take (i+1)).filter (bo (x:Int) ((E.length:Int)+y))).length=n+1:=am
     simp[l,e,g,b,c,d,u,f1.1,f1.2,hv.symm];apply rn;simp[j,g];refine⟨ac,ac,G _ b ⟨_,rfl,by simp[o],by simp[l],by simp[e],by rw[F];simp,ap⟩⟩
   have M:(A==B)=false:=am
   simp[q]at a;simp[l,e,g,b,c,d,u,f1.1,f1.2,M,hv.symm];apply rn;simp[g];refine⟨ac,G _ b ⟨_,rfl,by simp[o],by simp[l],by simp[e],by rw[a,<-H];simp[j],ap⟩⟩
 have N:i=W.length:=ac
 subst N;rw[zH]at j;exact .done am
def jA(E:RQ)(W:Wz)(x y:Nat):Nat:=(W.filter (bo (x:Int) ((E.length:Int)+y))).length
def dk(E C:RQ)(W:Wz)(h:Int)(i k:Nat):RQ:=((List.range k).filter λj=>decide (E.getD i 0=h) && decide (0<jA E W i j)).map λj=>C.getD j 0
def jF(E C:RQ)(W:Wz)(h:Int)(n:Nat):RQ:=(List.range n).flatMap λi=>dk E C W h i C.length
theorem lO(E C:RQ)(W:Wz)(h:Int)(i k:Nat):(dk E C W h i k).length<=k:=by
 unfold dk
 grind
def pU(E C:RQ)(W:Wz)(h:Int)(i k:Nat):dk E C W h i (k+1)=dk E C W h i k++if E.getD i 0=h/\0<jA E W i k then[C.getD k 0]else[]:=by
 unfold dk
 grind [List.range_succ]
theorem nQ(E C:RQ)(W:Wz)(h:Int)(n:Nat):jF E C W h (n+1)=jF E C W h n++dk E C W h n C.length:=by
 unfold jF
 grind [List.range_succ]
def lP(E C:RQ)(W:Wz)(h:Int)(a:C.length<=6):∀n,(jF E C W h n).length<=6*n
 |0=>by simp[jF]
 | n+1=>by
   have:=lP E C W h a n
   grind [lO,nQ]
def uj{E C:RQ}{f:Fr}{W:Wz}{h:Int}(G:W.length<1000000000)(R:E.length<=6)(H:C.length<=6)(S:∀w∈W,E.length+C.length<=w.length)(I:KF (.val (Ae (jF E C W h E.length))) σ):ar prog m 68 [cW E C f W,Xn h] σ KF:=by
 refine S0 [] func68 ?_;simp[f68];refine aa.loop E.length (λi s=>∃ε c,s=⟨ε,c,[],.no⟩/\ε 1=Xn h/\ε 2=.cp (cW E C f W) 0/\ε 6=Xn i/\Tok σ c (ε 5) 1 ((jF E C W h i).map Xn)) ⟨_,_,rfl,ap,ap,ap,.nil σ 1⟩ ?_;rintro T i _ U ⟨ε,c,rfl,e,d,g,a⟩ J;apply rn;simp[d,g];refine aM.intro (λr=>?_) (λr=>?_)<;>(try simp[-Int.not_lt,-Int.not_le,-Nat.not_lt,-Nat.not_le]at r)<;>(try simp[r])
 . obtain⟨x,K⟩:=S1 (E[i])
   have p:E[i]?=some x:=am
   have u:E.getD i 0=x:=am
   have L:=lP E C W h H i;refine aa.loop C.length (λk s=>∃ε c,s=⟨ε,c,[],.no⟩/\ε 1=Xn h/\ε 2=.cp (cW E C f W) 0/\ε 6=Xn i/\ε 7=Xn k/\Tok σ c (ε 5) 1 ((jF E C W h i++dk E C W h i k).map Xn)) ⟨_,_,rfl,aq,aq,aq,ap,by simpa[dk]using a⟩ ?_;clear e d g a ε;rintro V k _ X ⟨ε,M,rfl,e,d,g,l,a⟩ j;apply rn;simp[d,l];refine aM.intro (λo=>?_) (λo=>?_)<;>(try simp[-Int.not_lt,-Int.not_le,-Nat.not_lt,-Nat.not_le]at o)<;>(try simp[d,g,o])
   . obtain⟨y,N⟩:=S1 (C[k])
     have v:C[k]?=some y:=am
     have A:C.getD k 0=y:=am
     have O:=lO E C W h i k;have b:=pU E C W h i k;rw[u,A]at b;by_cases q:x=h
     . have B:(x==h)=true:=am
       simp[e,d,g,l,p,B];refine O1 func101 (nP (x:=i) (y:=k) G ac ac am ?_);obtain⟨n,F⟩:=S1 (jA E W i k);rw[show (W.filter (bo (i:Int) ((E.length:Int)+k))).length=n from F.symm];rw[<-F]at b;by_cases t:0<n
       . rw[wS ⟨q,t⟩]at b
         have P:(0:Int)<n:=ac
         apply rn;simp[d,l,t,v];refine aP Ax rfl rfl rfl bX rfl bX rfl nM be am (σ0:=σ) (es:=(jF E C W h i++dk E C W h i k).map Xn) (xs:=[Xn y]) (by simpa using a) (.inr ⟨_,rfl⟩) λY Q D=>?_
         apply rn;simp[l];refine⟨ac,j _ o ⟨_,_,rfl,by simp[e],by simp[d],by simp[g],ap,by rw[b];simpa using D⟩⟩
       rw[wN (λz=>t z.2),xx]at b
       have P:¬(0:Int)<n:=ac
       apply rn;simp[l,t];refine⟨ac,j _ o ⟨_,_,rfl,by simp[e],by simp[d],by simp[g],ap,by rw[b];simpa using a⟩⟩
     have B:(x==h)=false:=am
     rw[wN (by simp[q]),xx]at b;simp[e,l,p,B];refine⟨ac,j _ o ⟨_,_,rfl,by simp[e],by simp[d],by simp[g],ap,by rw[b];simpa using a⟩⟩
   have ek:k=C.length:=ac
   subst ek;refine⟨ac,J _ r ⟨_,_,rfl,by simp[e],by simp[d],ap,by rw[nQ];simpa using a⟩⟩
 have ek:i=E.length:=ac
 subst ek;exact .dp a.W (.less a.1 (.done I))
def iK(E C:RQ)(W:Wz)(n:Nat):RQ:=((List.range n).filter λi=>decide (0<(jF E C W (E.getD i 0) E.length).length)).map λi=>E.getD i 0
def uk(E C:RQ)(W:Wz)(n:Nat):(iK E C W n).length<=n:=by
 unfold iK
 grind
def rU(E C:RQ)(W:Wz)(n:Nat):iK E C W (n+1)=iK E C W n++if 0<(jF E C W (E.getD n 0) E.length).length then[E.getD n 0]else[]:=by
 unfold iK
 grind [List.range_succ]
def um{E C:RQ}{f:Fr}{W:Wz}(p:W.length<1000000000)(r:E.length<=6)(n:C.length<=6)(t:∀w∈W,E.length+C.length<=w.length)(u:KF (.val (Ae (iK E C W E.length))) σ):ar prog m 65 [cW E C f W] σ KF:=by
 refine S0 SI func65 ?_;simp[f65];refine aa.loop E.length (λi s=>∃ε c,s=⟨ε,c,[],.no⟩/\ε 1=.cp (cW E C f W) 0/\ε 4=Xn i/\Tok σ c (ε 3) 1 ((iK E C W i).map Xn)) ⟨_,_,rfl,ap,ap,.nil σ 1⟩ ?_;rintro D i _ F ⟨ε,c,rfl,g,d,b⟩ o;apply rn;simp[g,d];refine aM.intro (λe=>?_) (λe=>?_)<;>(try simp[-Int.not_lt,-Int.not_le,-Nat.not_lt,-Nat.not_le]at e)<;>(try simp[g,d,e])
 . obtain⟨x,h⟩:=S1 (E[i])
   have j:E[i]?=some x:=am
   have k:E.getD i 0=x:=am
   have v:=uk E C W i;have a:=rU E C W i;rw[k]at a;have l:=lP E C W x n E.length;simp only[<-h];refine O1 func68 (uj p r n t ?_);obtain⟨L,y⟩:=S1 (jF E C W x E.length);rw[<-y]at l a ⊢;by_cases q:0<L.length
   . rw[wS q]at a
     have z:(0:Int)<L.length:=ac
     apply pg;simp[q];apply rn;simp[g,d,j];refine aP Ax rfl rfl rfl bX rfl bX rfl nM be am (σ0:=σ) (es:=(iK E C W i).map Xn) (xs:=[Xn x]) aq (.inr ⟨_,rfl⟩) λG A B=>?_
     apply rn;simp[d];refine⟨ac,o _ e ⟨_,_,rfl,aq,ap,aq⟩⟩
   rw[wN q,xx]at a
   have z:¬(0:Int)<L.length:=ac
   apply pg;simp[q];apply rn;simp[d];refine⟨ac,o _ e ⟨_,_,rfl,aq,ap,aq⟩⟩
 have ek:i=E.length:=ac
 subst ek;exact .dp b.W (.less b.1 (.done u))
end
section
open Go Go.bu Go.Conc
variable{m:Mo}{σ:af}{KF:YC}
namespace BK
abbrev L5:YA:=[⟨8,.take [0,1,3,4,5,6,7,8,11,12] false (.both 2 (MU [9,10,13] .done) (MU [9] (.take [2] true (MU [10,13] .done))))⟩,⟨15,.take [0,1,3,4,5,6,7,8,11,12] false (.both 2 (MU [9,10,13] .done) (MU [9] (.take [2] true (MU [10,13] .done))))⟩]
abbrev A9:We:=[.lit (.slice none 0 0),.lit (.slice none 0 0),.lit (.slice none 0 0),.lit (.slice none 0 0),Xn 0,Xn 0,Xn 0,Xn 0,.lit (.slice none 0 0)]
abbrev rQ(w:bF)(a b c d:AV):We:=[a,b,c,Cu w.fair.roads,Xn w.fair.bs,Xn w.fair.fN,Xn w.fair.dN,Xn w.fair.bc,d]
def kQ{w:bF}(hv:w.Valid){t:Int}{E' C':RQ}{f':Fr}{W':Wz}(c7:W'.length<1000000000)(ho:E'.length=(aH w t).length->C'.length=(aQ w t).length->0<W'.length->W'=aG (bf w t) [])
 (h:KF (.val (cW (aH w t) (aQ w t) (bf w t) (aG (bf w t) []))) σ):ar prog m 93 [aT w,Xn t,cW E' C' f' W'] σ KF:=by
 have h6:=hv.jo;refine S0 L5 func93 ?_
 simp[f93];refine bz.intro λrb b5=>?_
 simp;refine bz.intro λtb g=>?_
 obtain⟨n1,n2,b9⟩:=af.bd g;obtain⟨s0,xO⟩:=S1 (σ.set rb (.cells A9));have U:s0=σ.set rb (.cells [.lit (.slice none 0 0),.lit (.slice none 0 0),.lit (.slice none 0 0),.lit (.slice none 0 0),Xn 0,Xn 0,Xn 0,Xn 0,.lit (.slice none 0 0)]):=xO;rw[<-U]at g;simp only[<-U];have O:s0 rb=some (.cells A9):=by rw[xO];exact af.aj _ _ _
 have bm:σ.Le s0:=by rw[xO];exact af.bZ (af.le_refl _) b5
 clear xO U;simp[aI];refine aa.loop w.fair.ao.length (λk s=>∃ε d D j,s=⟨ε,d,[],.no⟩/\(ε 1=Xn t/\ε 3=.cp (aT w) 0/\ε 5=.cp (cW E' C' f' W') 0/\ε 6=.ref rb 0/\ε 7=.ref tb 0/\ε 8=Xn k)/\d tb=some (.cells (rQ w D .nil j .nil))/\kR s0 d [(D,1,((fT k).filter (pE w t)).map Xn),(j,6,(((fT k).filter (pE w t)).map (aU w.fair)).map bn)]) ?_ ?_
 . refine⟨_,_,.nil,.nil,rfl,⟨ap,ap,ap,ap,ap,ap⟩,af.aj _ _ _,?_⟩
   refine⟨af.bZ (af.le_refl _) g,λt q=>?_,?_⟩
   . simp at q
     rcases q with rfl|rfl<;>exact(Tok.nil _ _).beside g (by simp[bG])
   simp[bG]
 rintro c0 k _ hk ⟨ε,d,D,j,rfl,⟨T,K,V,X,F,e8⟩,P,a⟩ ih
 rcases za k w.fair.ao.length with g1|g1
 . apply rn
   have z1:(k:Int)<w.fair.ao.length:=ac
   obtain⟨x,hx⟩:=S1 (w.fair.ao[k]);have R:w.fair.ao[k]?=some x:=by rw[hx];exact kn g1
   have eN:aU w.fair k=x:=by simp[aU,sg,R]
   simp[T,K,e8,z1,R];have G:=iu k (pE w t);obtain⟨B,Y⟩:=S1 ((fT k).filter (pE w t))
   have bq:B.length<=6:=by rw[Y];refine FL (Rp _ _) ?_;rw[iF];omega
   rw[<-Y]at a G;have br:=a.head.cells;have bw:=(a.perm (List.Perm.swap _ _ _)).head.cells
   by_cases g2:x.hour<=t
   . have hp:pE w t k=true:=by unfold pE;rw[eN];simpa using g2
     rw[hp,wS rfl]at G;simp[F,e8,g2,P];refine aP Ax rfl rfl rfl bX rfl bX rfl nM be (by simp only[zD,Ds,Dv];omega) (σ0:=d.off D) (es:=B.map Xn) (xs:=[Xn k]) (by simpa using a.head.here.1) (.inr ⟨_,by simp;rfl⟩) λL σ2 aL=>?_
     obtain⟨H,k2⟩:=a.app aL;have al:=H.head.cells;have r5:=k2 _ _ P;apply rn;simp[K,F,e8,r5,al.1,al.2,aI];obtain⟨n,u⟩:=S1 (σ2.set tb (.cells (rQ w L .nil j .nil)));have p5:n tb=some (.cells (rQ w L .nil j .nil)):=by rw[u];exact af.aj _ _ _
     have Z:kR s0 n [(L,1,B.map Xn++[Xn k]),(j,6,(B.map (aU w.fair)).map bn)]:=H.BV g ⟨_,r5⟩ λy hy=>by rw[u];exact af.ah _ _ hy
     simp only[<-u];simp[F,R,p5];refine⟨?_,?_⟩
     all_goals
      have a7:=Z.perm (List.Perm.swap (j,6,(B.map (aU w.fair)).map bn) _ _);refine aP Ax rfl rfl rfl kG rfl kG rfl vb be (by simp only[zD,Ds,Dv];omega) (σ0:=n.off j) (es:=(B.map (aU w.fair)).map bn) (xs:=[bn x]) (by simpa using a7.head.here.1) (.inr ⟨_,by simp;rfl⟩) λM a8 aO=>?_
      obtain⟨I,k4⟩:=a7.app aO;have J:=I.head.cells;have x5:=k4 _ _ p5;apply pg;simp[x5,J.1,J.2,aI];apply rn;simp[e8];refine⟨ac,ih _ g1 ⟨_,a8.set tb (.cells (rQ w L .nil M .nil)),L,M,rfl,⟨by simp[T],by simp[K],by simp[V],by simp[X],by simp[F],ap⟩,af.aj _ _ _,?_⟩⟩
      have:=(I.perm (List.Perm.swap (L,1,B.map Xn++[Xn k]) _ _)).BV (σ2:=a8.set tb (.cells (rQ w L .nil M .nil))) g ⟨_,x5⟩ λy hy=>af.ah _ _ hy
      rw[G,DL,DL,DL];simpa[eN]using this
   have hp:pE w t k=false:=by unfold pE;rw[eN];simpa using g2
   rw[hp]at G;simp only[zA,LK,xx]at G;simp[e8,g2];refine⟨ac,ih _ g1 ⟨_,d,D,j,rfl,⟨by simp[T],by simp[K],by simp[V],by simp[X],by simp[F],ap⟩,P,by rw[G];exact a⟩⟩
 have ek : k=w.fair.ao.length:=ac
 subst ek;obtain⟨E,hE⟩:=S1 (aH w t);rw[show(fT w.fair.ao.length).filter (pE w t)=E from hE.symm]at a
 have c8:E.length<=w.fair.ao.length:=by rw[hE];exact eP w t
 have br:=a.head.cells;apply rn;simp[K,e8];refine aa.loop w.ak.length (λk s=>∃ε d aC j,s=⟨ε,d,[],.no⟩/\(ε 1=Xn t/\ε 3=.cp (aT w) 0/\ε 5=.cp (cW E' C' f' W') 0/\ε 6=.ref rb 0/\ε 7=.ref tb 0/\ε 9=Xn k)/\d tb=some (.cells (rQ w D aC j .nil))/\kR s0 d [(aC,1,((fT k).filter (pC w t)).map Xn),(j,6,(E.map (aU w.fair)++((fT k).filter (pC w t)).map λc=>(fU w c).lost).map bn),(D,1,E.map Xn)]) ?_ ?_
 . refine⟨_,d,.nil,j,rfl,⟨by simp[T],by simp[K],by simp[V],by simp[X],by simp[F],ap⟩,P,?_⟩
   refine⟨a.1,λt q=>?_,?_⟩
   . simp at q
     rcases q with rfl|rfl|rfl
     . exact⟨a.1,.inl ⟨rfl,rfl⟩⟩
     . have:=(a.perm (List.Perm.swap _ _ _)).head
       simpa[fT]using this
     exact a.head
   have:=a.2.2
   simp[bG]at this ⊢;intro b bx bA;exact this b bA bx
 clear T K V X F e8 P a ε d j
 rintro c1 k _ c9 ⟨ε,d,aC,j,rfl,⟨T,K,V,X,F,e9⟩,P,a⟩ ab
 rcases za k w.ak.length with g1|g1
 . apply rn
   have z1:(k:Int)<w.ak.length:=ac
   obtain⟨x,hx⟩:=S1 (w.ak[k]);have R:w.ak[k]?=some x:=by rw[hx];exact kn g1
   have eN:fU w k=x:=by simp[fU,sg,R]
   have ca:=hv.jS.2 _ (lb g1);obtain⟨Q,av⟩:=uf hv g1;simp[K,e9,z1];refine O1 func71 (W7.qT (by have:=hv.YV;omega) hv.way hv.aX g1 ac ?_)
   obtain⟨o,bB⟩:=S1 ((sL w w.ak[k] w.aX.toNat).foldl iv none);rw[<-bB]at Q av ⊢;have G:=iu k (pC w t);obtain⟨B,Y⟩:=S1 ((fT k).filter (pC w t))
   have bq:B.length<=k:=by rw[Y];refine FL (Rp _ _) ?_;rw[iF];omega
   rw[<-Y]at a G;have cb:=a.head.cells;have bw:=(a.perm (List.Perm.swap _ _ _)).head.cells;cases o with
   | none=>
     have hp:pC w t k=false:=by
      unfold pC
      by_cases q:bP w k<=72
      . obtain⟨r,_,hr,_⟩:=Q q;cases hr
      simp[q]
     rw[hp]at G;simp only[zA,LK,xx]at G;rw[show qw none=.agg [Ae [],Xn 0]from rfl,show np none=false from rfl]
     refine aa.runN Ax [] 6 ?_;simp;refine bz.intro λdb aW=>?_
     simp[aI]
     change aa _ _ _ _ _ _ _ _ _
     refine aa.bj 10 (b:=db) (.agg [Ae [],Xn 0]) (af.aj _ _ _) ap rfl ?_
     rw[cy aW];apply rn;simp[e9];refine⟨ac,ab _ g1 ⟨_,d,aC,j,rfl,⟨by simp[T],by simp[K],by simp[V],by simp[X],by simp[F],ap⟩,P,by rw[G];exact a⟩⟩
   | some r=>
     rw[show qw (some r)=lN r from rfl,show np (some r)=decide (r.2<=72)from rfl]
     refine aa.runN Ax [] 6 ?_;simp;refine bz.intro λdb aW=>?_
     simp[aI]
     change aa _ _ _ _ _ _ _ _ _
     refine aa.bj 10 (b:=db) (lN r) (af.aj _ _ _) ap rfl ?_
     rw[cy aW]
     by_cases g2:r.2<=72/\r.2<=t
     . have hc:bP w k<=72:=by
        by_cases q:bP w k<=72
        . exact q
        have:=av ac r rfl;omega
       have hp:pC w t k=true:=by obtain⟨r',_,hr,he⟩:=Q hc;obtain rfl:=KE hr;unfold pC;simp[<-he,g2.1,g2.2]
       rw[hp,wS rfl]at G;apply rn;simp[T,F,e9,g2.1,g2.2,P];refine aP Ax rfl rfl rfl bX rfl bX rfl nM be (by simp only[zD,Ds,Dv];omega) (σ0:=d.off aC) (es:=B.map Xn) (xs:=[Xn k]) (by simpa using a.head.here.1) (.inr ⟨_,by simp;rfl⟩) λN σ2 aL=>?_
       obtain⟨H,k2⟩:=a.app aL;have ax:=H.head.cells;have r5:=k2 _ _ P;apply rn;simp[K,F,e9,r5,ax.1,ax.2,aI];obtain⟨n,u⟩:=S1 (σ2.set tb (.cells (rQ w D N j .nil)));have p5:n tb=some (.cells (rQ w D N j .nil)):=by rw[u];exact af.aj _ _ _
       have Z:kR s0 n [(N,1,B.map Xn++[Xn k]),(j,6,(E.map (aU w.fair)++B.map λc=>(fU w c).lost).map bn),(D,1,E.map Xn)]:=H.BV g ⟨_,r5⟩ λy hy=>by rw[u];exact af.ah _ _ hy
       simp only[<-u];simp[F,R,p5];refine⟨?_,?_⟩
       all_goals
        have a7:=Z.perm (List.Perm.swap (j,6,(E.map (aU w.fair)++B.map λc=>(fU w c).lost).map bn) _ _)
        refine aP Ax rfl rfl rfl kG rfl kG rfl vb be (by simp only[zD,zR,Ds,Dv];omega) (σ0:=n.off j) (es:=(E.map (aU w.fair)++B.map λc=>(fU w c).lost).map bn) (xs:=[bn x.lost]) (by simpa using a7.head.here.1) (.inr ⟨_,by simp;rfl⟩) λM a8 aO=>?_
        obtain⟨I,k4⟩:=a7.app aO;have J:=I.head.cells;have x5:=k4 _ _ p5;apply pg;simp[x5,J.1,J.2,aI];apply rn;simp[e9];refine⟨ac,ab _ g1 ⟨_,a8.set tb (.cells (rQ w D N M .nil)),N,M,rfl,⟨by simp[T],by simp[K],by simp[V],by simp[X],by simp[F],ap⟩,af.aj _ _ _,?_⟩⟩
        have:=(I.perm (List.Perm.swap (N,1,B.map Xn++[Xn k]) _ _)).BV (σ2:=a8.set tb (.cells (rQ w D N M .nil))) g ⟨_,x5⟩ λy hy=>af.ah _ _ hy
        rw[G];simpa[eN]using this
     have hp:pC w t k=false:=by
      unfold pC
      by_cases q:bP w k<=72
      . obtain⟨r',_,hr,he⟩:=Q q
        obtain rfl:=KE hr;simp;omega
      simp[q]
     rw[hp]at G;simp only[zA,LK,xx]at G
     by_cases g3:r.2<=72
     . have g4:¬r.2<=t:=λq=>g2 ⟨g3,q⟩
       apply rn;simp[T,e9,g3,g4];refine⟨ac,ab _ g1 ⟨_,d,aC,j,rfl,⟨by simp[T],by simp[K],by simp[V],by simp[X],by simp[F],ap⟩,P,by rw[G];exact a⟩⟩
     apply rn
     simp[e9,g3];refine⟨ac,ab _ g1 ⟨_,d,aC,j,rfl,⟨by simp[T],by simp[K],by simp[V],by simp[X],by simp[F],ap⟩,P,by rw[G];exact a⟩⟩
 have ek:k=w.ak.length:=ac
 subst ek;obtain⟨C,hC⟩:=S1 (aQ w t);rw[show(fT w.ak.length).filter (pC w t)=C from hC.symm]at a
 have cg:C.length<=w.ak.length:=by rw[hC];exact eQ w t
 have ad:=a.head;have b0:=(a.perm (List.Perm.swap _ _ _)).head;have S:Tok s0 d D 1 (E.map Xn):=a.2.1 (D,1,E.map Xn) ap
 have cm:=ad.cells;have b6:=b0.cells;have cr:=S.cells;rw[<-hE,<-hC]at ho h;obtain⟨f,hf⟩:=S1 (bf w t);have b3:(E.map (aU w.fair)++C.map λc=>(fU w c).lost)=f.ao:=by rw[hf,hE,hC]
 rw[<-hf]at ho h;rw[b3]at a b0;obtain⟨W,b7⟩:=S1 (aG f []);rw[<-b7]at ho h
 have b4:∀(D aC j:AV),D.W (Ae E)->aC.W (Ae C)->j.W (kg f.ao)->(AV.agg (rQ w D aC j (Cu W))).W (cW E C f W):=λD aC j h1 h2 h3=>ig rfl λi x y O q2=>by
  match i with
  |0=>cases O;cases q2;exact h1
  |1=>cases O;cases q2;exact h2
  |2=>cases O;cases q2;exact h3
  |3=>cases O;cases q2;rw[hf];exact .refl _
  |4=>cases O;cases q2;rw[hf];exact .refl _
  |5=>cases O;cases q2;rw[hf];exact .refl _
  |6=>cases O;cases q2;rw[hf];exact .refl _
  |7=>cases O;cases q2;rw[hf];exact .refl _
  |8=>cases O;cases q2;exact .refl _
  |i+9=>simp at O
 have w1:=S.W;have w2:=ad.W;have w3:=b0.W;have hg:f.Good:=by rw[hf];exact dO hv t
 have bC:Wl [AV.agg (j::zr w.fair)] [bR f]:=by rw[hf]at w3 ⊢;exact .cons (tA w3) .nil
 have b8:d rb=some (.cells A9):=S.1 _ _ O;have bE:rb≠tb:=λe=>by rw[e,g]at O;cases O
 have z1:¬(w.ak.length:Int)<w.ak.length:=ac
 have ay:∀A B:uK,σ.Le ((d.set tb A).set rb B):=λA B v z a9=>by
  have v1:v≠rb:=λe=>by rw[e,b5]at a9;cases a9
  have v2:v≠tb:=λe=>by rw[e,b9]at a9;cases a9
  rw[af.ah _ _ v1,af.ah _ _ v2];exact S.1 _ _ (bm _ _ a9)
 have x1:∀A,(d.set tb A) rb=some (.cells A9):=λA=>by rw[af.ah _ _ bE];exact b8
 have hl:∀{l:RQ},l.map Xn=[]->l.length=0:=λh=>by simpa using congrArg List.length h
 obtain⟨b1,y1⟩:∃b,((E.length:Int)==E'.length)=b:=⟨_,rfl⟩;obtain⟨b2,y2⟩:∃b,((C.length:Int)==C'.length)=b:=⟨_,rfl⟩
 by_cases g1:b1=true/\b2=true/\0<W'.length
 . obtain⟨rfl,rfl,g1⟩:=g1
   have eW:=ho (by have:=DW.1 y1;omega) (by have:=DW.1 y2;omega) g1
   have y3:(0:Int)<W'.length:=ac
   have y4:=JC.1 g1;rw[<-eW]at b4 h
   rcases S.uN with⟨rfl,lE⟩|⟨c5,rfl⟩<;>rcases ad.uN with⟨rfl,lC⟩|⟨c6,rfl⟩<;>(try simp only[hl lE,Int.natCast_zero]at y1)<;>(try simp only[hl lC,Int.natCast_zero]at y2)<;>apply rn
   all_goals
    simp[K,V,X,F,e9,P,b6.2,y1,y2,g1,aI,x1];exact .dp (b4 _ _ _ w1 w2 w3) (.less (ay _ _) (.done h))
 have y4:b1=true->b2=true->W'=[]:=λp q=>List.eq_nil_of_length_eq_zero am
 rcases S.uN with⟨rfl,lE⟩|⟨c5,rfl⟩<;>rcases ad.uN with⟨rfl,lC⟩|⟨c6,rfl⟩<;>(try simp only[hl lE,Int.natCast_zero]at y1)<;>(try simp only[hl lC,Int.natCast_zero]at y2)<;>cases b1<;>cases b2<;>(try obtain rfl:=y4 rfl rfl)<;>apply rn
 all_goals
  simp[K,V,F,e9,P,y1,y2];refine bp func131 rfl rfl bC (zs hg ?_);rw[<-b7];apply rn;simp[X,F,P,b6.2,aI,x1];exact .dp (b4 _ _ _ w1 w2 w3) (.less (ay _ _) (.done h))
end BK
def pv  e :(AV.cx [.lit (.slice none 0 0),Xn e]).W (.cx [Ae [],Xn e]):=vf rfl λi x y a b=>by
 match i with
 |0=>grind [bK]
 |1=>cases a;cases b;exact .refl _
 |i+2=>grind
end
section
open Go.bu Go.Conc
def iL{C:RQ}{p:Nat->Bool}{q:Int->Bool}(h:∀y:Nat,y<C.length->p y=q (C.getD y 0)):((List.range C.length).filter p).map (λy=>C.getD y 0)=C.filter q:=by
 have a:C=(List.range C.length).map λy=>C.getD y 0:=by
  apply Ko
  grind
 conv=>rhs;rw[a]
 rw[List.filter_map];congr 1;apply Ff
 grind
def pV{F:RQ}{x0:Nat}{f:Nat->RQ}:∀n:Nat,(∀x,x<n->f x=if x=x0 then F else[])->(List.range n).flatMap f=if x0<n then F else[]
 |0,_=>ap
 | n+1,h=>by
   rw[zU,Fe,pV n λx a=>h x ac]
   grind
section
variable{w:bF}(hv:w.Valid)
include hv
theorem Ba{h i:Int}(hi:0<=i/\i<6):jF (aH w h) (aQ w h) (aG (bf w h) []) i (aH w h).length=rV w h i:=by
 have t:=hv.jS.1;have u:=fF w h;have z:=dw w h;have o:∀c∈aQ w h,0<=c/\c<w.ak.length:=λc=>cC
 have a:∀c∈aH w h,c<w.fair.ao.length:=λc q=>(bN q).2
 have j:=λ(c:Int) (q:0<=c/\c<3)=>sO hv (h:=h) hi q
 unfold jF rV;by_cases b:i∈aH w h
 . have k:=(dE b).1
   have p:∀x,x<(aH w h).length->((aH w h).getD x 0=i↔x=(aH w h).idxOf i):=λx g=>am
   rw[pV (F:=(aQ w h).filter λc=>decide (0<jA (aH w h) (aG (bf w h) []) ((aH w h).idxOf i) ((aQ w h).idxOf c))) (x0:=(aH w h).idxOf i) _ λx g=>?_,wS k]
   . rw[show aQ w h=(fT w.ak.length).filter (pC w h)from rfl,J4]
     apply Ff;intro c r;have d:=fE r;rw[IJ,j c ac,vc,wK]
     have l:c∈aQ w h↔pC w h c=true:=by
      rw[show aQ w h=(fT w.ak.length).filter (pC w h)from rfl,LB]
      simp_all
     rw[<-l];unfold jA;rw[List.length_pos_iff_exists_mem];constructor
     . rintro⟨⟨v,m⟩,q⟩
       obtain⟨n,f⟩:=LB.1 m;refine⟨⟨b,q⟩,v,n,?_⟩;unfold GS;rw[gN b,gO a d.1];exact f
     rintro⟨⟨_,q⟩,v,n,f⟩
     refine⟨⟨v,LB.2 ⟨n,?_⟩⟩,q⟩;unfold GS at f;rw[gN b,gO a d.1]at f;exact f
   unfold dk
   by_cases e:x=(aH w h).idxOf i
   . rw[wS e]
     refine iL λy A=>?_
     simp_all
   simp_all
 have s:(fT w.ak.length).filter (λc=>nv (fV w h i c))=[]:=by
  rw[Hj]
  grind
 rw[s,List.flatMap_eq_nil_iff];intro x g;have g:=wL.1 g;unfold dk;rw[decide_eq_false λq=>b am];simp
theorem zy(h:Int):iK (aH w h) (aQ w h) (aG (bf w h) []) (aH w h).length=dc w h:=by
 have j:=hv.jo;unfold iK dc;rw[iL (q:=λi=>decide (0<(rV w h i).length)) λx k=>?_]
 . rw [show aH w h=(fT w.fair.ao.length).filter (pE w h)from rfl,J4]
   apply Ff;intro i a;have b:=fE a;by_cases q:pE w h i=true
   . simp[q]
   have d:i∉aH w h:=λe=>q (LB.1 e).2
   have:rV w h i=[]:=by unfold rV;rw[Hj];intro c f z;exact d ((sO hv ac (by have:=fE f;have:=hv.jS.1;omega)).1 z).1.1
   simp_all
 have g:(aH w h).getD x 0∈aH w h:=by
  simp_all
 have:=bN g;rw[Ba hv ac]
end
end
section
open Go Go.bu Go.Conc
variable{m:Mo}{σ:af}{KF:YC}
abbrev Dz(w:bF)(t:Int):AV:=cW (aH w t) (aQ w t) (bf w t) (aG (bf w t) [])
def fX{w:bF}(d:w.cA){a b c:RQ}(h:bg w a b c=0):w.Valid/\dR w a b c=0:=by obtain⟨e,f,g⟩:=pr d h;exact⟨bF.valid e f,g⟩
def kh{w:bF}(hv:w.Valid)(t:Int):(aG (bf w t) []).length<1000000000/\(aH w t).length<=6/\(aQ w t).length<=6/\∀v∈aG (bf w t) [],(aH w t).length+(aQ w t).length<=v.length:=by
 have c:=hv.jo;have d:=eP w t;have e:=eQ w t;have a:=dO hv t;refine⟨?_,ac,ac,λv b=>?_⟩
 . have:=sM a []
   omega
 rw[(rP a b).1]
 simp
def N2{w:bF}(b:w.cA):bg w [] [] []=ij w:=by
 unfold bg dR;by_cases a:ij w=0
 . rw[wS a,wS (cX b a).2,a];simp
 omega
def zB{w:bF}(hv:w.Valid)(h:Int):(dc w h).length<=6:=by have:=hv.jo;have:=qU w h;omega
def ve{a b:RQ}(w:a.length<1000000)(hb:b.length<1000000)(h:KF (.val (T0 (decide (a=b)))) σ):ar prog m 59 [Ae a,Ae b] σ KF:=by
 refine S0 ZV func59 ?_
 simp[f59];refine aa.loop a.length (λk=>MY σ λε=>ε 0=Ae a/\ε 1=Ae b/\ε 5=Xn k/\k<=b.length/\a.take k=b.take k) ⟨_,rfl,ap⟩ ?_
 rintro z k _ A ⟨ε,rfl,i,j,g,r,t⟩ u
 by_cases l:k<a.length
 . have c:(k:Int)<a.length:=ac
   by_cases n:k<b.length
   . have pL:(k:Int)<b.length:=ac
     obtain⟨x,o⟩:=S1 (a[k]);obtain⟨y,p⟩:=S1 (b[k])
     by_cases e:x=y
     . have d:(x !=y)=false:=by simp[e]
       apply rn;simp[i,j,g,l,c,n,pL,<-o,<-p,d];apply rn;simp[g];refine⟨ac,u _ l ⟨_,rfl,aq,aq,ap,n,?_⟩⟩
       rw[so l,so n,t,<-o,<-p,e]
     have d:(x !=y)=true:=by simp[e]
     apply rn;simp[i,j,g,l,c,n,pL,<-o,<-p,d];apply rn;simp;have:a≠b:=λq=>e aq
     rw[decide_eq_false this]at h;exact .done h
   have pL:¬(k:Int)<b.length:=ac
   have:a.length≠b.length:=ac
   have f:a≠b:=λq=>this (by rw[q])
   rw[decide_eq_false f]at h;have e:¬(a.length:Int)=b.length:=ac
   have d:((a.length:Int)==b.length)=false:=F2
   apply rn;simp[i,j,g,c,pL,d];exact .done h
 have c:¬(k:Int)<a.length:=ac
 have v:k=a.length:=ac
 by_cases e:a.length=b.length
 . have:a=b:=am
   rw[decide_eq_true this]at h;apply rn;simp[i,j,g,c,<-e];exact .done h
 have f:a≠b:=λq=>e (by rw[q])
 rw[decide_eq_false f]at h;have d:((a.length:Int)==b.length)=false:=F2
 apply rn;simp[i,j,g,c,d];exact .done h
namespace NO
abbrev ae7:YA:=[⟨5,.take [0,1,3,4,5,6] false (MU [2] (.take [7,8] false (MU [9,10] (MV [11]))))⟩]
def JQ{w:bF}(X:w.ak.length<=1000){l:RQ}(A:∀c∈l,0<=c/\c<(w.ak.length:Int))(Y:l.length<=1000)(h:KF (.val (aT (w.only l))) σ):ar prog m 95 [aT w,Ae l] σ KF:=by
 refine ar.start Ax [2] ae7 2 func95 rfl rfl (by rfl) s8 ?_
 simp[f95];refine bz.intro λj g=>?_
 simp;refine bz.intro λk I=>?_
 obtain⟨J,Z,K⟩:=af.bd I;simp;obtain⟨n,xO⟩:=S1 ((σ.set j (.cells (xP w))).set k (.cells [.lit (.slice none 0 0),.lit (.slice none 0 0),Xn 0,Xn 0,Xn 0,Xn 0,Xn 0,.lit (.slice none 0 0),.lit (.slice none 0 0)]));have L:n j=some (.cells (xP w)):=by rw[xO];exact(af.ah _ _ z0).trans (af.aj _ _ _)
 have M:n k=some (.cells [.lit (.slice none 0 0),.lit (.slice none 0 0),Xn 0,Xn 0,Xn 0,Xn 0,Xn 0,.lit (.slice none 0 0),.lit (.slice none 0 0)]):=aq
 change aa _ _ _ _ _ _ _ ⟨_,(σ.set j _).set k _,_,_⟩ _
 rw[<-xO];refine aa.loop l.length (λi s=>∃ε d a,s=⟨ε,d,[],.no⟩/\(ε 1=Ae l/\ε 2=.ref j 0/\ε 4=.ref k 0/\ε 5=a/\ε 6=Xn i)/\Tok n d a 8 ((l.take i).map λc=>cK (fU w c))) ⟨_,_,.nil,rfl,⟨ap,ap,ap,ap,ap⟩,af.le_refl _,.inl ⟨ap,rfl⟩⟩ ?_
 rintro c0 i _ hi ⟨ε,d,a,rfl,⟨r,t,v,B,u⟩,b⟩ N
 have C:=b.1 _ _ L;have O:=b.1 _ _ M;have o:=b.cells
 rcases za i l.length with g1|g1
 . have f:(i:Int)<l.length:=ac
   obtain⟨x,D⟩:=S1 (l[i]);obtain⟨P,x2⟩:=A x am
   have Q:x.toNat<w.ak.length:=ac
   have R:w.ak[x.toNat]=fU w x:=by
    unfold fU
    grind
   refine aa.run Ax [2] ?_;simp[r,t,B,u,C,g1,f,<-D,P,Q,R]
   repeat' (first
             |apply And.intro
             | (refine aP Ax rfl rfl rfl wI rfl wI rfl HP be F2 (σ0:=d.off a) (es:=(l.take i).map λc=>cK (fU w c)) (xs:=[cK (fU w x)]) (by simpa using b.here.1) (.inr ⟨_,by simp;rfl⟩) λS T E=>?_
                have p:=E.cells;have q:=E.base b.here.2;apply pg;simp[r,t,v,u,p.1,p.2];apply rn;simp[u];refine⟨ac,N _ g1 ⟨_,_,S,rfl,⟨by simp[r],by simp[t],by simp[v],ap,ap⟩,?_⟩⟩
                rw[so g1,DL,<-D];simpa using q))
 have z:i=l.length:=ac
 have f:¬(i:Int)<l.length:=ac
 rw[z,zH]at b;refine aa.run Ax [2] ?_;simp[r,t,v,B,u,C,o.1,o.2,f,O,aI,af.ah,J]
 have U:(AV.agg (rX w a)).W (aT (w.only l)):=ig rfl λi x y F g=>by
  change (rX w (kr (w.only l).ak))[i]?=some y at g
  rw[<-zE w a]at g
  by_cases e:i=8
  . subst e
    cases F;cases g;rw[DG A];show a.W (.sl 8 ((l.map (fU w)).map cK) .any);rw[List.map_map];exact b.W
  rw[Fp (vj e),F]at g
  cases g;exact .refl _
 refine .dp U (.less (λy x V=>?_) (.done h))
 have G:y≠j:=λe=>aq
 have H:y≠k:=λe=>am
 rw[af.ah _ _ H,af.ah _ _ G];refine b.1 _ _ ?_;rw[xO,af.ah _ _ H,af.ah _ _ G];exact V
end NO
end
section
open Go.bu Go.Conc
def uq(n:Nat):Nat->Nat->Wz
 |0,_=>[[]]
 |more+1,a=>(List.range' a (n-a)).flatMap λx:Nat=>(uq n more (x+1)).map λr=>(x:Int)::r
end
open Go Go.bu Go.Conc
variable{m:Mo}{σ:af}{KF:YC}
namespace NE
def vM(n more x:Nat):Wz:=(uq n more (x+1)).map λr=>(x:Int)::r
def yw(n more a:Nat):uq n (more+1) a=(List.range' a (n-a)).flatMap (vM n more):=rfl
def Be(n:Nat):∀(more a:Nat),(uq n more a).length<=(n+1) ^ more
 |0,a=>by simp[uq]
 | more+1,a=>by
   rw[yw,Nat.pow_succ,Jw];refine FL (xw (B:=(n+1) ^ more) _ λk _=>?_) (IQ _ ?_)
   . unfold vM
     rw[zD];exact Be n more _
   grind
def Gn(n:Nat):∀(more a:Nat),∀r∈uq n more a,r.length=more
 |0,a,r,b=>by simp[uq]at b;grind
 |more+1,a,r,b=>by rw[yw]at b;obtain⟨k,_,d⟩:=E2.1 b;unfold vM at d;obtain⟨e,c,rfl⟩:=CR.1 d;simp[Gn n more _ e c]
def YX{n more:Nat}(b:n<=6)(a:more<=6):(n+1) ^ more<=117649:=FL (Nat.pow_le_pow_left (show n+1<=7 by omega) more) (HQ a)
def ahQ{n:Nat}(O:n<=6):∀(more b:Nat) (σ:af) (KF:YC),more<=6->b<=100->KF (.val (Cu (uq n more b))) σ->ar prog m 94 [Xn b,Xn n,Xn more] σ KF:=by
 intro more
 induction more with
 | zero=>
   intro b σ KF T y h
   have U:(AV.sl 1 [.lit (.slice none 0 0)] .exact).W (Cu (uq n 0 b)):=S5 rfl ap (by simp[uq]) (λi a a' z P=>by
    match i with
    |0=>simp[uq]at z P;subst z;subst P;exact bK 1
    |i+1=>simp at z)
   refine S0 [] func94 ?_
   simp[f94];exact .dp U (.done h)
 | succ more A=>
   intro b σ KF T y h;have V:(((more+1:Nat):Int)==0)=false:=am
   have C:(((more:Int)+1)==0)=false:=aq
   have X:((more+1:Nat):Int)-1=(more:Int):=ac
   rw[yw]at h;refine S0 [] func94 ?_
   simp[f94,C];refine aa.loop (n-b) (λj s=>∃ε d a,s=⟨ε,d,[],.no⟩/\ε 1=Xn n/\ε 2=Xn ((more:Int)+1)/\ε 7=a/\ε 8=Xn ((b:Int)+j)/\Tok σ d a 1 (((List.range' b j).flatMap (vM n more)).map Ae)) ⟨_,σ,.lit (.slice none 0 0),rfl,ap,ap,ap,ap,Tok.nil σ 1⟩ ?_
   rintro c0 j _ hj ⟨ε,d,a,rfl,f,p,q,e,c⟩ Y
   have t:=c.cells
   rcases za j (n-b)with g1|g1
   . have Z:(b:Int)+j<n:=ac
     have f1:=M1 ((b:Int)+j+1)
     have Q:=M1 ((more:Int))
     obtain⟨x,hx⟩:=S1 (b+j);have a7:(b:Int)+j+1=((x+1:Nat):Int):=ac
     have D:(b:Int)+j=(x:Int):=ac
     obtain⟨R,v⟩:=S1 (uq n more (x+1));have a8:R.length<=117649:=by rw[v];exact FL (Be n more _) (YX O ac)
     have E:∀r∈R,r.length=more:=λr hr=>Gn n more _ r (by rw[<-v];exact hr)
     have F:(List.range' b (j+1)).flatMap (vM n more)=(List.range' b j).flatMap (vM n more)++R.map λr=>(x:Int)::r:=by rw[List.range'_concat,Fe,v,Nat.one_mul,<-hx];simp[vM]
     have a9:((List.range' b j).flatMap (vM n more)).length<=j*117649:=by
      have:=xw (B:=117649) (g:=vM n more) (List.range' b j) λk _=>by unfold vM;rw[zD];exact FL (Be n more _) (YX O ac)
      grind
     have ab:j*117649<=6*117649:=IQ _ ac
     rw[D]at e;have w:=M1 ((x:Int)+1)
     have g2:(x:Int)<n:=ac
     apply rn;simp[f,p,e,g2,w.1,w.2,Q.1,Q.2];have G:(x:Int)+1=((x+1:Nat):Int):=ac
     rw[G];refine O1 func94 (A (x+1) _ _ ac ac ?_)
     rw[<-v];apply rn;simp;refine aa.loop R.length (λk s=>∃ε d a,s=⟨ε,d,[],.no⟩/\ε 1=Xn n/\ε 2=Xn ((more:Int)+1)/\ε 7=a/\ε 8=Xn x/\ε 9=Cu R/\ε 10=Xn k/\Tok σ d a 1 (((List.range' b j).flatMap (vM n more)++(R.take k).map λr=>(x:Int)::r).map Ae)) ⟨_,d,a,rfl,by simp[f],by simp[p],by simp[q],by simp[e],ap,ap,am⟩ ?_
     clear f p q e c t
     rintro c1 k _ hk ⟨ε,u,a,rfl,f,p,q,e,H,er,c⟩ I
     have t:=c.cells
     rcases za k R.length with g3|g3
     . have Cq:(k:Int)<R.length:=ac
       have S:=M1 ((k:Int)+1)
       have ad:=E _ (lb g3);have al:((R.take k).map λr=>(x:Int)::r).length<=117649:=am
       have av:(R.take (k+1)).map (λr=>(x:Int)::r)=(R.take k).map (λr=>(x:Int)::r)++[(x:Int)::R[k]]:=by rw[so g3,DL];rfl
       apply rn;simp[q,e,H,er,g3,Cq];refine aP Ax rfl rfl rfl bX rfl bX rfl nM be F2 (σ0:=u) (es:=[Xn x]) (xs:=R[k].map Xn) ⟨af.le_refl _,.inr (.inl rfl)⟩ (.inr ⟨_,by simp;rfl⟩) λa1 ax l=>?_
       have ay:=l.cells;have J:a1.W (Ae ((x:Int)::R[k])):=l.W;refine aa.Fs 39 (a':=Ae ((x:Int)::R[k])) (by simpa using J) ?_
       have o:=c.up l.1;apply rn;simp;refine aP Ax rfl rfl rfl sA rfl sA rfl bX be am (σ0:=σ) (es:=((List.range' b j).flatMap (vM n more)++(R.take k).map λr=>(x:Int)::r).map Ae) (xs:=[Ae ((x:Int)::R[k])]) (by simpa using o) (.inr ⟨_,by simp;rfl⟩) λa3 K L=>?_
       have aC:=L.cells;apply rn;simp[er,S.1,S.2];refine I _ g3 ⟨_,K,a3,rfl,by simp[f],by simp[p],ap,by simp[e],by simp[H],ap,?_⟩
       grind
     have M:k=R.length:=ac
     subst M;rw[zH]at c;apply rn;simp[e,H,er,w.1,w.2];refine Y _ g1 ⟨_,u,a,rfl,by simp[f],by simp[p],by simp[q],F2,?_⟩
     grind
   have N:j=n-b:=ac
   have n1:¬(b:Int)+j<n:=ac
   rw[N]at c;apply rn;simp[f,q,e,n1];exact .dp c.W (.less c.1 (.done h))
def S6:∀n:Fin 4,∀k:Fin 4,uq n.1 k.1 0=yJ n.1 k.1:=v3
end NE
def zF(w:bF):RQ × Int:=if bg w [] [] []≠0 then([],bg w [] [] [])else(zI w,0)
namespace NE
def DH(w:bF)(t:Int):Wl [aT w,Xn t,AV.agg BK.A9] [aT w,Xn t,cW [] [] ⟨[],[],0,0,0,0⟩ []]:=.cons (.refl _) (.cons (.refl _) (.cons (ig rfl λi x y a b=>by
 match i with
 |0|1=>cases a;cases b;exact bK 1
 |2=>cases a;cases b;exact bK 6
 |3=>cases a;cases b;exact bK 1
 |8=>cases a;cases b;exact bK 1
 |4|5|6|7=>cases a;cases b;exact .refl _
 |i+9=>cases a) .nil))
def HR{w:bF}(hv:w.Valid)(h:KF (.val (Ae (dc w 72))) σ):ar prog m 65 [Dz w 72] σ KF:=by obtain⟨a,b,c,d⟩:=kh hv 72;refine um (f:=bf w 72) a b c d ?_;rw[zy hv];exact h
def Pt{w : bF}(v:w.cA)(h:KF (.val (.cx [Ae (zF w).1,Xn (zF w).2])) σ):ar prog m 36 [aT w] σ KF:=by
 unfold zF at h;rw[N2 v]at h;refine S0 ae6 func36 ?_;simp[f36];refine O1 func34 (RC.jN v ?_);by_cases q:ij w=0
 . have hv:=bF.valid (cX v q).1 (cX v q).2
   rw[wN (by simp[q])]at h;rw[q];apply rn;simp;refine bp func93 rfl rfl (DH _ _) (BK.kQ hv ap (λ_ _ q=>by simp at q) ?_);apply rn;simp;refine O1 func65 (HR hv ?_);have A:w.ak.length<=3:=hv.jS.1;have F:dc (w.only (fT w.ak.length)) 72=dc w 72:=by rw[S4]
   obtain⟨G,K⟩:=S1 (λl=>decide (dc (w.only l) 72=dc w 72):RQ->Bool)
   unfold zI at h;rw[<-K]at h;apply rn;simp;refine aa.loop (w.ak.length+1) (λk=>MY σ λε=>ε 1=.cp (aT w) 0/\ε 5=Ae (dc w 72)/\ε 6=Xn k/\k<=w.ak.length/\∀H<k,∀x∈yJ w.ak.length H,G x=false) ⟨_,rfl,ap,ap,ap,ac,λ_ z=>ac⟩ ?_;rintro U k _ V ⟨ε,rfl,a,b,c,W,B⟩ M;apply rn;simp[a,c];refine O1 func94 (ahQ (n:=w.ak.length) ac k 0 _ _ ac ac ?_);rw[S6 ⟨w.ak.length,ac⟩ ⟨k,ac⟩];have hlen:=HS w.ak.length k;have p:=HT w.ak.length k;obtain⟨L,C⟩:=S1 (yJ w.ak.length k);simp only[<-C];rw[<-C]at hlen p;have N:L.length<=27:=FL hlen (FL (Nat.pow_le_pow_left A k) (KQ ac (show k<=3 by omega)))
   apply rn;simp;refine aa.loop L.length (λi s=>∃ε,s=⟨ε,σ,[],.no⟩/\(ε 1=.cp (aT w) 0/\ε 5=Ae (dc w 72)/\ε 6=Xn k/\ε 7=Cu L/\ε 8=Xn i)/\∀x∈L.take i,G x=false) ⟨_,rfl,⟨by simp[a],by simp[b],by simp[c],ap,ap⟩,ap⟩ ?_;rintro X i _ O ⟨ε,rfl,⟨a,b,c,d,f⟩,j⟩ D;rcases za i L.length with g1|g1
   . have r : (i:Int)<L.length:=ac
     obtain⟨x,o⟩:=S1 (L[i]);obtain⟨Y,E,Z⟩:=p x am;have g:(w.only x).Valid:=hv.only E ac;have P:=zB hv 72;have z2:=zB g 72;by_cases t:dc (w.only x) 72=dc w 72
     . have I : Ft w.ak.length G=x:=by
        subst C;rw[o];exact N6 ac g1 B j am
       rw[I]at h;apply rn;simp[a,b,d,f,g1,r,<-o]
       repeat' (first
                 |apply And.intro
                 | (refine O1 func95 (NO.JQ ac E ac ?_)
                    apply pg;simp[a,b,c,d,f])
                 | (refine bp func93 rfl rfl (DH _ _) (BK.kQ g ap (λ_ _ q=>by simp at q) ?_)
                    apply pg;simp[a,b,c,d,f])
                 | (refine O1 func65 (HR g ?_)
                    apply pg;simp[a,b,c,d,f])
                 | (refine O1 func59 (ve ac ac ?_)
                    apply pg;simp[a,b,c,d,f,t];apply rn;simp[a,b,c,d,f,g1,<-o]))
       all_goals exact .done h
     have I : G x=false:=am
     apply rn;simp[a,b,d,f,g1,r,<-o]
     have u:∀y∈L.take (i+1),G y=false:=λy J=>by
      rw[so g1,<-o]at J
      grind
     repeat' (first
               |apply And.intro
               | (refine O1 func95 (NO.JQ ac E ac ?_)
                  apply pg;simp[a,b,c,d,f])
               | (refine bp func93 rfl rfl (DH _ _) (BK.kQ g ap (λ_ _ q=>by simp at q) ?_)
                  apply pg;simp[a,b,c,d,f])
               | (refine O1 func65 (HR g ?_)
                  apply pg;simp[a,b,c,d,f])
               | (refine O1 func59 (ve ac ac ?_)
                  apply pg;simp[a,b,c,d,f,t];apply rn;simp[a,b,c,d,f,g1,<-o]))
     all_goals first|omega|exact D _ g1 ⟨_,rfl,⟨by simp[a],by simp[b],by simp[c],by simp[d],ap⟩,u⟩
   have Q:¬(i:Int)<L.length:=ac
   rw[IL g1]at j
   have R:k<w.ak.length:=by
    rcases za k w.ak.length with z|z
    . exact z
    exfalso
    have P:=ahS ⟨w.ak.length,ac⟩
    grind
   apply rn;simp[c,d,f,Q];refine⟨ac,M _ ac ⟨_,rfl,by simp[a],by simp[b],ap,ac,λH S y J=>?_⟩⟩
   grind
 rw[wS q]at h
 generalize ij w=e at q h;have b1:(e==0)=false:=am
 have T:(e !=0)=true:=am
 apply rn;simp[T];exact .dp (pv _) (.done h)
def Pu(a:m.solo=true)(c:σ 0=some (.stay [fW])){w:bF}(b:w.cA)(h:KF (.val (.cx [Ae (zF w).1,Xn (zF w).2])) σ):ar prog m 35 [aT w] σ KF:=by
 unfold zF at h;by_cases q:bg w [] [] []=0
 . obtain⟨hv,d⟩:=fX b q
   rw[wN (by simp[q])]at h;exact DI a hv.oX hv.open (λl e f=>(hv.only e f).open) d h
 rw[wS q]at h
 exact ar.thaw (agd a c b q (.dp (pv _) (.done h)))
end NE
def yx:bF:=⟨⟨[],[],0,0,0,0⟩,0,[],[]⟩
def vh(w:bF)(c:Az):bF × Int:=if ij w≠0 then(yx,ij w)else if w.ak.length=3 then(yx,6)else if ij (w.more c)≠0 then(yx,ij (w.more c))else(w.more c,0)
def Bf:(AV.agg JO).W (aT yx):=ig rfl λi x y a b=>by
 match i with
 |0|1|7|8=>cases a;cases b;exact bK _
 |2|3|4|5|6=>cases a;cases b;exact .refl _
 |i+9=>cases a
namespace Z1
def Gp{w:bF}{c:Az}(a:w.Small)(d:c.lost.marks.length<=20):∀x∈(w.more c).ak,x.lost.marks.length<=1000:=λx b=>by
 rcases E4.1 b with q|q
 . have:=a.lost x q;omega
 grind
def DJ{w:bF}{c:Az}(a:w.Small)(hv:w.Valid)(g:c.lost.marks.length<=20)(h:w.ak.length<3):(w.more c).cA:=by
 have b:=a.short;refine⟨b.fits,λd hd=>?_,b.ways,by simp[bF.more];omega⟩;rcases E4.1 hd with q|q
 . exact b.Rl d q
 rw[sN.1 q]
 refine⟨ap,by show w.fair.roads.length<_;have:=a.roads;omega,λr f=>by have:=a.row r f;omega,λe i=>?_⟩
 grind
abbrev ae8:YA:=[⟨8,.take [0,1,2,3,4,5,6,7,9,13] false (.both 8 (MU [10,11] (MV [12])) (MU [10,8,11] (MV [12])))⟩,⟨22,.take [0,1,7,8] false (.both 2 (MU [3,4,5,6,9] .done) (MU [3] (.both 2 (MU [4,5,6,9] .done) (MU [4] (.both 2 (MU [5,6,9] .done) (MU [5] (.take [2] true (MU [6,9] .done))))))))⟩,⟨28,.take [0,1,3,7,8] false (.both 2 (MU [4,5,6,9] .done) (MU [4] (.both 2 (MU [5,6,9] .done) (MU [5] (.take [2] true (MU [6,9] .done))))))⟩]
def S7(hs:m.solo=true)(hg:σ 0=some (.stay [fW])){w:bF}{c:Az}(hw:w.Small)(hc:c.lost.marks.length<=20)(h:KF (.val (.cx [aT (vh w c).1,Xn (vh w c).2])) σ):ar prog m 38 [aT w,cK c] σ KF:=by
 unfold vh at h;refine S0 ae8 func38 ?_
 simp[f38];refine bz.intro λo ep=>?_
 have bC:0≠o:=λq=>aq
 simp;refine O1 func33 (vi hs (by rw[af.ah _ _ bC];exact hg) hw.short ?_)
 have ab:∀Y,σ.Le (σ.set o Y):=λY y v n=>(af.ah _ _ λe=>aq).trans n
 by_cases h0:ij w=0
 rotate_left
 . rw[wS h0]at h
   generalize ij w=e at h0 h ⊢;have b1:(e==0)=false:=aq
   have b2:(e !=0)=true:=aq
   apply rn;simp[b2];exact .dp (vg Bf) (.less (ab _) (.done h))
 have hv:=bF.valid (cX hw.short h0).1 (cX hw.short h0).2;rw[wN (by simp[h0])]at h
 rw[h0]
 by_cases aL:w.ak.length=3
 . rw[wS aL]at h
   have q3:((w.ak.length:Int)==3)=true:=F2
   apply rn;simp[q3];exact .dp (vg Bf) (.less (ab _) (.done h))
 rw[wN aL]at h;have h3:w.ak.length<3:=by have:=hv.jS.1;omega
 have bE:=DJ hw hv hc h3;have c5:w.fair.roads.length<=1000/\∀r∈w.fair.roads,r.length<=1000000000:=⟨by have:=hw.roads;omega,λr hr=>by have:=hw.row r hr;omega⟩
 have c6:∀x∈w.fair.ao,x.marks.length<=1000000000:=λx hx=>by have:=hw.marks x hx;omega
 have c7:∀x∈(w.more c).ak,x.lost.marks.length<=1000000000:=λx hx=>by have:=Gp hw hc x hx;omega
 have q3:((w.ak.length:Int)==3)=false:=am
 apply rn;simp[q3];refine bz.intro λd aO=>?_
 obtain⟨z1,z2,ee⟩:=af.bd aO;simp;generalize a7:((σ.set o (.cells JO)).set d (.cells (rX w (.lit (.slice none 0 0)))))=sb;have b4:sb o=some (.cells JO):=by subst a7;rw[af.ah _ _ z0];simp_all
 have bx:sb d=some (.cells (rX w (.lit (.slice none 0 0)))):=by subst a7;simp_all
 have aW:σ.Le sb:=λy v n=>by
  have J:y≠o:=λe=>aq
  have D:y≠d:=λe=>aq
  subst a7;rw[af.ah _ _ D,af.ah _ _ J];exact n
 have c8:(w.ak.map cK).length+[cK c].length<=1073741824:=F2
 have c9:w.ak.map cK++[cK c]≠[]:=ap
 have ca:∀sp,(AV.sl 8 (w.ak.map cK++[cK c]) sp).W (kr (w.more c).ak):=λsp=>by
  rw[show kr (w.more c).ak=.sl 8 (w.ak.map cK++[cK c]) .any by simp[bF.more]]
  exact eo _ _ _
 apply HJ
 . intro key
   repeat' first
    |refine⟨?_,?_⟩
    | (refine pN Ax rfl wI rfl HP (es:=w.ak.map cK) (sp:=.any) (l:=0) (h:=w.ak.length) ap (λcap b0=>⟨⟨⟨.i64,ap⟩,by simpa using b0⟩,⟨⟨.i64,ap⟩,AK _⟩,rfl⟩) ap λa hq=>?_
       have N:bu.Tok sb sb a 8 (w.ak.map cK):=by
        rcases hq with rfl|⟨h1,rfl⟩
        . have:List.take (w.ak.length-0) (List.drop 0 (w.ak.map cK))=w.ak.map cK:=by rw[IB,IL ap]
          rw[this];exact⟨af.le_refl _,.inr (.inl rfl)⟩
        exact⟨af.le_refl _,.inl ⟨rfl,h1⟩⟩
       have b3:=N.cells;clear hq;apply pg;simp)
    | (refine aP Ax rfl rfl rfl wI rfl wI rfl HP be c8 (σ0:=sb) (es:=w.ak.map cK) (xs:=[cK c]) (by simpa using N) (.inr ⟨_,by simp;rfl⟩) λa2 et b5=>?_
       obtain⟨cb,rfl⟩:=Xl b5 c9;apply pg;simp;refine aa.Fs 39 (a':=kr (w.more c).ak) (ca cb) ?_;refine aa.lh (λe s=>(e 2=.cp (aT w) 0/\e 4=.ref o 0/\e 7=.ref d 0/\e 39=kr (w.more c).ak/\e 40=Xn ((w.ak.length:Int)+1)/\e 41=Xn 0)/\sb.Le s) ⟨ap,b5.1⟩ ?_
       exact key)
 rintro ε s0 ⟨⟨X,Z,H,O,ax,P⟩,I⟩
 have cg:=I _ _ bx;have cm:=I _ _ b4;have ad:=af.le_trans aW I;clear I bx b4 aW a7 aO q3;obtain⟨K,Q⟩:=S1 ((w.more c).ak);have eg:K.length=w.ak.length+1:=by rw[Q];simp[bF.more]
 rw[<-Q]at O;apply rn;simp;refine aa.loop K.length (λi s=>∃ε b a,s=⟨ε,b,[],.no⟩/\(ε 2=.cp (aT w) 0/\ε 4=.ref o 0/\ε 7=.ref d 0/\ε 39=kr K/\ε 40=Xn K.length/\ε 41=Xn i)/\bu.Tok (s0.del d) b a 8 ((K.take i).map cK)/\b d=some (.cells (rX w a))) ⟨ε,s0,.nil,rfl,⟨X,Z,H,O,aq,P⟩,⟨λy v n=>?_,.inl ⟨rfl,ap⟩⟩,cg⟩ ?_
 . simp only[af.del]at n
   simp_all
 rintro c0 i _ hi ⟨ε,b,a,rfl,⟨X,Z,H,O,ax,P⟩,j,k⟩ ih
 apply rn;simp[ax,P];refine aM.intro (λg1=>?_) (λg1=>?_)<;>(try simp[-Int.not_lt,-Int.not_le,-Nat.not_lt,-Nat.not_le]at g1)<;>(try simp[H,O,P,g1])
 . have u:=c7 _ (by rw[<-Q];exact lb g1)
   obtain⟨x,z⟩:=S1 (K[i]);simp only[<-z]at u ⊢;refine bz.intro λM b6=>?_
   have nx:d≠M:=λe=>aq
   simp;refine O1 func97 (N5 (e:=x.lost) u ?_);have E:∀Y,(b.set M Y) d=some (.cells (rX w a)):=λY=>(af.ah _ _ nx).trans k
   apply rn;simp[H,E,aI];have R:∀Y,b.Le (b.set M Y):=λY y v h=>(af.ah _ _ λe=>by rw[e,b6]at h;cases h).trans h
   generalize A:b.set M _=sa;have S:sa d=some (.cells (rX w a)):=by subst A;exact E _
   have F:bu.Tok (s0.del d) sa a 8 ((K.take i).map cK):=by subst A;exact j.up (R _)
   clear R E A;have T:(K.take (i+1)).map cK=(K.take i).map cK++[cK x]:=by rw[so g1,DL,<-z];rfl
   have U:bG a≠some d:=λe=>by obtain⟨_,y,q⟩:=F.bH e;rw[S]at q;cases q
   refine aP Ax rfl rfl rfl wI rfl wI rfl HP be (by simp only[zD,HX,Ds,Dv];omega) (σ0:=sa.off a) (es:=(K.take i).map cK) (xs:=[cK x]) (by simpa using F.here.1) (.inr ⟨_,rfl⟩) λa' g f=>?_
   rw[<-T]at f;have B:g d=some (.cells (rX w a)):=f.1 _ _ ((af.hQ U).trans S);have V:=f.cells;have C:bG a'≠some d:=λe=>by obtain⟨_,y,q⟩:=f.bH e;rw[B]at q;cases q
   apply rn;simp[H,P,B,V];refine⟨ac,ih _ ac ⟨_,_,a',rfl,by simp[X,Z,H,O,ax],(f.base F.here.2).beside (by simp[af.del]) C,af.aj _ _ _⟩⟩
 have ei : i=K.length:=ac
 subst ei;rw[zH]at j
 have cr:Wl [.agg (rX w a)] [aT (w.more c)]:=.cons (ig rfl λi x y L G=>by
  change (rX w (kr (w.more c).ak))[i]?=some y at G
  rw[<-zE w a]at G
  by_cases e:i=8
  . subst e
    cases L;cases G;rw[<-Q];exact j.W
  rw[Fp (vj e),L]at G
  cases G;exact .refl _) .nil
 have cv:b 0=some (.stay [fW]):=by
  have dj:0≠d:=λe=>aq
  exact j.1 _ _ (by simp only[af.del,dj,LK];exact ad _ _ hg)
 simp[k];refine bp func33 rfl rfl cr (vi hs cv bE ?_);apply rn;simp;have br:b o=some (.cells JO):=j.1 _ _ (by simp only[af.del,z2,LK];exact cm)
 have ay:∀y v,σ y=some v->y≠o/\y≠d/\b y=some v:=λy v n=>by
  have J:y≠o:=λe=>am
  have D:y≠d:=λe=>am
  exact⟨J,D,j.1 _ _ (by simp only[af.del,D,LK];exact ad _ _ n)⟩
 refine aM.intro (λg5=>?_) (λg5=>?_)<;>(try simp[-Int.not_lt,-Int.not_le,-Nat.not_lt,-Nat.not_le]at g5)<;>(try simp[X,Z,g5,br])
 . refine .less (λy v n=>?_) (.dp (vg Bf) (.done (by rw[wS g5]at h;exact h)))
   obtain⟨J,D,y5⟩:=ay y v n;exact (af.ah _ _ J).trans y5
 rw [wN ac]at h
 have ej:=hv.YV;have ev:=hv.jo;refine O1 func98 (abp ac ?_)
 apply rn;simp[X,H,k];have b3:=j.cells;have dm:a.W (kr (w.more c).ak):=by rw[<-Q];exact j.W
 generalize a8:b.set d _=s1;have b7:s1 d=some (.cells (HO w (.lit (.slice none 0 0)) (Cu w.fair.roads) a)):=by subst a8;exact af.aj _ _ _
 have b8:s1 o=some (.cells JO):=by subst a8;exact (af.ah _ _ z2).trans br
 have al:∀y v,σ y=some v->y≠o/\y≠d/\s1 y=some v:=λy v n=>by obtain⟨J,D,y5⟩:=ay y v n;subst a8;exact⟨J,D,(af.ah _ _ D).trans y5⟩
 clear a8 ay br k j ih;refine aa.loop w.fair.ao.length (λi s=>∃ε g p,s=⟨ε,g,[],.no⟩/\(ε 2=.cp (aT w) 0/\ε 4=.ref o 0/\ε 7=.ref d 0/\ε 70=kg w.fair.ao/\ε 71=Xn w.fair.ao.length/\ε 72=Xn i)/\bu.Tok (s1.del d) g p 6 ((w.fair.ao.take i).map bn)/\g d=some (.cells (HO w p (Cu w.fair.roads) a))) ⟨_,s1,.nil,rfl,aq,⟨λy v n=>?_,.inl ⟨rfl,ap⟩⟩,b7⟩ ?_
 . simp only[af.del]at n
   simp_all
 rintro c1 i _ hi ⟨ε,b,p,rfl,⟨X,Z,H,b9,Wi,aC⟩,j,k⟩ ih
 apply rn;simp[Wi,aC];refine aM.intro (λg6=>?_) (λg6=>?_)<;>(try simp[-Int.not_lt,-Int.not_le,-Nat.not_lt,-Nat.not_le]at g6)<;>(try simp[H,b9,aC,g6])
 . have u:=c6 _ (lb g6)
   obtain⟨x,z⟩:=S1 (w.fair.ao[i]);simp only[<-z]at u ⊢;refine bz.intro λM b6=>?_
   have nx:d≠M:=λe=>aq
   have E:∀Y,(b.set M Y) d=some (.cells (HO w p (Cu w.fair.roads) a)):=λY=>(af.ah _ _ nx).trans k
   simp[H,E];have R:∀Y,b.Le (b.set M Y):=λY y v h=>(af.ah _ _ λe=>am).trans h
   have bm:∀Y,(b.set M Y) M=some Y:=λY=>af.aj _ _ _
   generalize A:b.set M _=sa;have S:sa d=some (.cells (HO w p (Cu w.fair.roads) a)):=by subst A;exact E _
   have ey:sa M=some (.cells [Xn x.hour,Xn x.place,Xn x.di,Ae x.marks,Xn x.bY,Xn x.ma]):=by subst A;exact bm _
   have F:bu.Tok (s1.del d) sa p 6 ((w.fair.ao.take i).map bn):=by subst A;exact j.up (R _)
   clear R E bm A;have T:(w.fair.ao.take (i+1)).map bn=(w.fair.ao.take i).map bn++[bn x]:=by rw[so g6,DL,<-z];rfl
   have U:bG p≠some d:=λe=>by obtain⟨_,y,q⟩:=F.bH e;grind
   have aE:((w.fair.ao.take i).map bn).length+[bn x].length<=1073741824:=by simp only[zD,HX,Ds,Dv];omega
   repeat' first
    |refine⟨?_,?_⟩
    | (refine O1 func97 (N5 (e:=x) u ?_)
       apply pg;simp[S])
    | (refine aP Ax rfl rfl rfl kG rfl kG rfl vb be aE (σ0:=sa.off p) (es:=(w.fair.ao.take i).map bn) (xs:=[bn x]) (by simpa using F.here.1) (.inr ⟨_,rfl⟩) λa' g f=>?_
       rw[<-T]at f;have B:g d=some (.cells (HO w p (Cu w.fair.roads) a)):=f.1 _ _ ((af.hQ U).trans S);have V:=f.cells;have C:bG a'≠some d:=λe=>by obtain⟨_,y,q⟩:=f.bH e;rw[B]at q;cases q
       apply pg;simp[B,V,aI];apply rn;simp[aC];refine⟨ac,ih _ ac ⟨_,_,a',rfl,by simp[X,Z,H,b9,Wi],(f.base F.here.2).beside (by simp[af.del]) C,af.aj _ _ _⟩⟩)
 have ei:i=w.fair.ao.length:=ac
 subst ei;rw[zH]at j;have dr:=j.W;have dx:=j.cells;have bq:b o=some (.cells JO):=j.1 _ _ (by simp only[af.del,z2,LK];exact b8)
 have av:∀y v,σ y=some v->y≠o/\y≠d/\b y=some v:=λy v n=>by obtain⟨J,D,y5⟩:=al y v n;exact⟨J,D,j.1 _ _ (by simp only[af.del,D,LK];exact y5)⟩
 simp[X,k,aI];generalize a9:b.set d _=s2;have dy:s2 d=some (.cells (HO w p (.lit (.slice none 0 0)) a)):=by subst a9;exact af.aj _ _ _
 have e0:s2 o=some (.cells JO):=by subst a9;exact (af.ah _ _ z2).trans bq
 have bw:∀y v,σ y=some v->y≠o/\y≠d/\s2 y=some v:=λy v n=>by obtain⟨J,D,y5⟩:=av y v n;subst a9;exact⟨J,D,(af.ah _ _ D).trans y5⟩
 clear a9 av al bq b8 b7 k j ih;refine aa.loop w.fair.roads.length (λi s=>∃ε g q,s=⟨ε,g,[],.no⟩/\(ε 2=.cp (aT w) 0/\ε 4=.ref o 0/\ε 7=.ref d 0/\ε 90=Cu w.fair.roads/\ε 91=Xn w.fair.roads.length/\ε 92=Xn i)/\bu.Tok (s2.del d) g q 1 ((w.fair.roads.take i).map Ae)/\g d=some (.cells (HO w p q a))) ⟨_,s2,.nil,rfl,aq,⟨λy v n=>?_,.inl ⟨rfl,ap⟩⟩,dy⟩ ?_
 . simp only[af.del]at n
   simp_all
 rintro c2 i _ hi ⟨ε,b,q,rfl,⟨X,Z,H,bA,bB,aF⟩,j,k⟩ ih
 apply rn;simp[bB,aF];refine aM.intro (λg7=>?_) (λg7=>?_)<;>(try simp[-Int.not_lt,-Int.not_le,-Nat.not_lt,-Nat.not_le]at g7)<;>(try simp[Z,H,bA,aF,g7,k])
 . have u:=c5.2 _ (lb g7)
   obtain⟨x,z⟩:=S1 (w.fair.roads[i]);simp only[<-z]at u ⊢;have T:(w.fair.roads.take (i+1)).map Ae=(w.fair.roads.take i).map Ae++[Ae x]:=by rw[so g7,DL,<-z];rfl
   have U:bG q≠some d:=λe=>by obtain⟨_,y,t⟩:=j.bH e;simp_all
   have aE:((w.fair.roads.take i).map Ae).length+[Ae x].length<=1073741824:=am
   repeat' first
    |refine⟨?_,?_⟩
    | (refine O1 func99 (JN u ?_)
       apply pg;simp[k])
    | (refine aP Ax rfl rfl rfl sA rfl sA rfl bX be aE (σ0:=b.off q) (es:=(w.fair.roads.take i).map Ae) (xs:=[Ae x]) (by simpa using j.here.1) (.inr ⟨_,rfl⟩) λa' g f=>?_
       rw[<-T]at f;have B:g d=some (.cells (HO w p q a)):=f.1 _ _ ((af.hQ U).trans k);have V:=f.cells;have C:bG a'≠some d:=λe=>by obtain⟨_,y,t⟩:=f.bH e;rw[B]at t;cases t
       apply pg;simp[B,V,aI];apply rn;simp[aF];refine⟨ac,ih _ ac ⟨_,_,a',rfl,by simp[X,Z,H,bA,bB],(f.base j.here.2).beside (by simp[af.del]) C,af.aj _ _ _⟩⟩)
 have ei:i=w.fair.roads.length:=ac
 subst ei;rw[zH]at j;have ea:b o=some (.cells JO):=j.1 _ _ (by simp only[af.del,z2,LK];exact e0)
 have eb:=j.cells;have ec:=j.W;simp[Z,ea,aI,dx.2,b3.2,eb.2]
 have ed:(AV.agg (HO w p q a)).W (aT (w.more c)):=ig rfl λi x y L G=>by
  match i with
  |0=>cases L;cases G;exact dr
  |1=>cases L;cases G;exact ec
  |2=>cases L;cases G;exact .refl _
  |3=>cases L;cases G;exact .refl _
  |4=>cases L;cases G;exact .refl _
  |5=>cases L;cases G;exact .refl _
  |6=>cases L;cases G;exact .refl _
  |7=>cases L;cases G;exact .refl _
  |8=>cases L;cases G;exact dm
  |i+9=>cases L
 refine .dp (vg ed) (.less (λy v n=>?_) (.done h))
 obtain⟨J,D,y5⟩:=bw y v n;rw[af.ah _ _ J];exact j.1 _ _ (by simp only[af.del,D,LK];exact y5)
end Z1
namespace Z1
def Z2{w:bF}{c:Az}(i:w.Small)(p:c.lost.marks.length<=20)(h:KF (.val (.cx [aT (vh w c).1,Xn (vh w c).2])) σ):ar prog m 39 [aT w,cK c] σ KF:=by
 unfold vh at h;refine S0 [] func39 ?_
 simp[f39];refine bz.intro λq r=>?_
 simp;have a:∀Y,σ.Le (σ.set q Y):=λY y v s=>(af.ah _ _ λe=>aq).trans s
 refine O1 func34 (RC.jN i.short ?_)
 by_cases d:ij w=0
 rotate_left
 . rw[wS d]at h
   generalize ij w=e at d h ⊢;have t:(e==0)=false:=aq
   have k:(e !=0)=true:=aq
   apply rn;simp[k,aI];exact .dp (vg Bf) (.less (a _) (.done h))
 have hv:=bF.valid (cX i.short d).1 (cX i.short d).2;rw[wN (by simp[d])]at h
 rw[d]
 by_cases f:w.ak.length=3
 . rw[wS f]at h
   have l:((w.ak.length:Int)==3)=true:=F2
   apply rn;simp[l,aI];exact .dp (vg Bf) (.less (a _) (.done h))
 rw[wN f]at h;have u:w.ak.length<3:=by have:=hv.jS.1;omega
 have n:=DJ i hv p u;have l:((w.ak.length:Int)==3)=false:=am
 apply rn;simp[l];refine O1 func46 (WI7.JR ac ?_)
 refine aa.runN Ax [] 2 ?_;simp;refine bz.intro λx g=>?_
 obtain⟨z,A,o⟩:=af.bd g;simp;refine aa.bj 7 (b:=x) (aT (w.more c)) (by simp[bF.more]) ap rfl ?_
 rw[cy g];apply rn;simp;refine O1 func34 (RC.jN n ?_)
 by_cases j:ij (w.more c)=0
 rotate_left
 . rw[wS j]at h
   generalize ij (w.more c)=e at j h ⊢;have t:(e==0)=false:=aq
   have k:(e !=0)=true:=aq
   apply rn;simp[k,aI];exact .dp (vg Bf) (.less (a _) (.done h))
 rw[wN (by simp[j])]at h
 rw[j];apply rn;simp[aI];exact .less (a _) (.done h)
end Z1

import Derived.Test.YtggpckcdfilkoaaGreatDoorF3
set_option linter.all false
set_option maxHeartbeats 2000000
set_option maxRecDepth 4000
namespace Go.Proofs.YtggpckcdfilkoaaGreatDoor
open Go.Proofs.Tryz hiding f0 f1 f10
section
open Go.bu
abbrev pl7:YA:=[⟨3,.take (MX 0 4) false (MU [4,5] (MV [6]))⟩,⟨12,.take (MX 0 5) false (MU [5] (MV (MX 6 7)))⟩,⟨13,.take (MX 0 8) false (MU [8] (MV (MX 9 7)))⟩,⟨14,.take (MX 0 5) false (MU [5] (MV (MX 6 5)))⟩,⟨15,.take (MX 0 8) false (MU [8] (MV (MX 9 5)))⟩,⟨18,.take (MX 0 5) false (MU [5] (MV [6]))⟩]
abbrev ZQ:YA:=[⟨8,.take [0,1,2,3,4,5,7] false (.both 6 (.both 8 (.take [9] false (MU [10,11] .done)) (MU [10,8] (.take [9] true (MU [11] .done)))) (MU [10,6,8] (.take [9] true (MU [11] .done))))⟩,⟨12,.take [0,1,2,3,4,6,7,8,9] false (MU [5,10] .done)⟩]
abbrev aeZ:YA:=[⟨13,.take (MX 0 8) false (MU [8] (MV [9]))⟩,⟨14,.take (MX 0 13) false (MU [13] .done)⟩]
abbrev Dx:YA:=[⟨5,MV (MX 0 21)⟩]
abbrev YS:YA:=[⟨7,.take [0,1,2] false (MU [3,4] (MV (MX 5 5)))⟩]
abbrev acs:YA:=[⟨6,MV (MX 0 4)⟩]
abbrev acu:YA:=[⟨1,MV (MX 0 7)⟩]
def m7(f:Fr):Option Int->RQ->Int
 |_,[]=>0
 |p,n::l=>if cz n 0 (f.ao.length-1)=false then 3 else if ua p n=true then 5 else m7 f (some n) l
def AZ(f:Fr)(l:RQ):Int:=if l.length=0 then 7 else m7 f none l
def afI  f  (l:RQ)  i   h   p :m7 f p (l.drop i)=if cz l[i] 0 (f.ao.length-1)=false then 3 else if ua p l[i]=true then 5 else m7 f (some l[i]) (l.drop (i+1)):=by rw[K5 h,m7]
abbrev ae0(n:Int):AV:=if n=0 then .lit .nilIface else .pH 307 (.agg [Xn n])
end
section
open Go.bu Go.Conc
variable{m:Mo}{σ:af}{KF:YC}
def Xa{b mb f l}(t:f.Fits)(z:l.length<1152921504606846976)(h:KF (.val (ae0 (AZ f l))) σ):ar prog m 213 [qv b mb f 0,Ae l] σ KF:=by
 have u:=t.ao;unfold AZ at h;refine S0 [] func213 ?_;simp[f213];refine aM.intro (λg=>?_) (λg=>?_)<;>simp at g<;>simp[g]
 . rw[wS (by simp[g])]at h
   exact .done h
 rw[wN aq]at h;refine aa.loop l.length (λk=>MY σ λε=>ε 0=qv b mb f 0/\ε 1=Ae l/\ε 12=Ae l/\ε 13=Xn l.length/\ε 14=Xn k/\m7 f none l=m7 f (if k=0 then none else l[k-1]?) (l.drop k)) aq ?_;rintro A k _ B ⟨ε,rfl,p,q,d,e,c,a⟩ v;apply rn;simp[e,c];apply aM.intro<;>intro i<;>simp at i<;>simp[p,d,c,i]
 . rw [afI f _ k i]at a
   refine⟨ac,?_⟩;refine O1 func154 (iO ?_);apply rn;simp;refine aM.intro (λj=>?_) (λj=>?_)<;>(try simp at j)<;>(try simp[j]at a)<;>(try simp[j])<;>(try exact .done a)
   . refine xj.intro (λn=>?_) (λn=>?_)<;>(try simp at n)<;>(try simp[n]at a)<;>(try simp[q,c,n])<;>(try exact .done a)
     . have w:(k:Int)-1=((k-1:Nat):Int):=ac
       have r:k-1<l.length:=ac
       have x:¬k=0:=ac
       simp[w,r];repeat refine⟨ac,?_⟩
       try simp[r,x,ua]at a
       refine aM.intro (λo=>?_) (λo=>?_)<;>(try simp at o)<;>(try simp[o]at a)<;>(try simp[c,o])<;>(try exact .done a)
       . rw[a]at h
         exact .done h
       . refine⟨ac,v _ i ⟨_,rfl,by simp[p],by simp[q],by simp[d],by simp[e],ap,?_⟩⟩
         grind
     . have y:k=0:=ac
       subst y;simp[ua]at a
       simp_all
   . rw[a]at h
     exact .done h
 . have:k=l.length:=ac
   subst this;simp[m7]at a;rw[a]at h;exact .done h
structure ZR  f   l :Prop where
 ok:AZ f l=0
 len:l.length<=1000000
def NY  f :∀{l p},m7 f p l=0->∀n∈l,0<=n/\n<f.ao.length
 |[],_,_,n,hn=>am
 | a::l,p,h,n,hn=>by
   unfold m7 at h;split at h
   . cases h
   next b=>
   split at h
   . cases h
   next c=>
   rcases Cv.1 hn with rfl|hn
   . simp[cz]at b;omega
   . exact NY f h n hn
def ZR.mem{f l}(h:ZR f l):∀n∈l,0<=n/\n<f.ao.length:=by
 have:=h.ok;unfold AZ at this;split at this
 . omega
 . exact NY f this
def ZR.ne{f l}(h:ZR f l):l≠[]:=λe=>by have:=h.ok;subst e;simp[AZ]at this
def aki{f l}(d:f.Fits)(g:check f=0)(e:ZR f l)(h:∀b mb σ',zo σ b mb σ'->KF (.val (.cx [qv b mb f 0,Xn 0])) σ'):ar prog m 185 [bR f,Ae l] σ KF:=by
 have i:=e.len;refine S0 acs func185 ?_;simp;have j:=BT g;have k:Wl [AV.agg _,AV.lit _] [bR f,Ae []]:=.cons (.refl _) (.cons (bK 1) .nil);refine bp func125 rfl rfl k (HG d ap ac λ_ b mb σ' n=>?_);apply rn;simp;refine bz.intro λc a=>?_
 simp;refine O1 func213 (Xa d ac ?_);rw[e.ok];apply rn;simp;refine O1 func123 (YT ?_);apply rn;simp;exact .less (af.oi (af.le_refl _) a) (.done am)
def ZS{f l}(d:f.Fits)(e:check f=0)(a:ZR f l)(c:l.length<20)(h:KF (.val (.cx [T0 (decide (iS f l=0)),Xn 0])) σ):ar prog m 143 [bR f,Ae l] σ KF:=by
 refine S0 [] func143 ?_;simp;refine O1 func185 (aki d e a λb mb g i=>?_);apply rn;simp;refine O1 func186 (Su (Fr.wA d e) ⟨a.mem,a.ne,a.len⟩ c ?_);apply rn;simp;refine dP Ax rfl YU rfl (isNil:=decide (iS f l=0)) ?_ (.inl ⟨rfl,rfl⟩) ?_
 . by_cases j:iS f l=0
   . simp[j]
     rfl
   simp_all [Jr]
 apply rn;simp;exact .less i.le (.done h)
def jY  f   begun :∀  fuel   way   many   c ,(∀x∈way,0<=x/\x<f.bc)->∀w∈eu f begun fuel way many c,∀x∈w,0<=x/\x<f.bc
 |0,way,many,c,hb,w,b=>by simp[eu]at b;simp_all
 | fuel+1,way,many,c,hb,w,b=>by
   rw[iT,E2]at b;obtain⟨k,d,a⟩:=b;have:=wL.1 d;unfold nH at a;split at a
   . cases a
   split at a
   . refine jY f begun fuel _ _ _ (λx e=>?_) w a
     grind
   . cases a
end
section
open Go.bu Go.Conc
def zp  f :∀  l   p ,(∀x∈l,0<=x/\x<f.ao.length)->l.Pairwise (·<·)->(∀q,p=some q->∀x∈l,q<x)->m7 f p l=0
 |[],_,_,_,_=>rfl
 | a :: l,p,c,d,e=>by
   have i:=c a ap;have b:=KD.1 d;have g:cz a 0 (f.ao.length-1)=true:=by simp[cz];omega
   have h:ua p a=false:=by
    cases p with
    |none=>rfl
    | some q=>
      have:=e q rfl a ap;simp[ua];omega
   unfold m7;rw[g,wN ap,h,wN ap];exact zp f l _ am b.2 am
section
variable{k:HK}
def Dn(k:HK)(r:RQ):Prop:=r.Pairwise λy z=>k z<=k y
def rC  x :∀{r},(∀z∈r,k z<=k x)->cI (tF k) x r=x::r
 |[],_=>rfl
 | y::r,h=>by
   unfold cI
   grind
def jZ  x :∀{r z},z∈cI (tF k) x r->z=x\/z∈r
 |[],z,h=>by simp[cI]at h;omega
 | y :: r,z,h=>by
   unfold cI at h;split at h
   . rcases Cv.1 h with rfl|h
     . grind
     . rcases jZ x h with h|h
       . omega
       grind
   grind
theorem iD  x :∀{r},Dn k r->Dn k (cI (tF k) x r)
 |[],_=>by simp[cI,Dn]
 | y ::r,h=>by
   obtain⟨c,b⟩:=KD.1 h;unfold cI;split
   . next q=>
     have d:k x<k y:=am
     refine KD.2 ⟨λz a=>?_,iD x b⟩;rcases jZ x a with rfl|a
     . omega
     grind
   . next q=>
     refine KD.2 ⟨λz a=>?_,h⟩
     grind
def lI  x :∀r:RQ,r.Sublist (cI (tF k) x r)
 |[]=>List.nil_sublist _
 | y::r=>by
   unfold cI;split
   . exact(lI x r).cons_cons y
   grind
theorem rD  x  {d r}(a:d.Sublist r) (hd:Dn k r):(cI (tF k) x d).Sublist (cI (tF k) x r):=by
 induction a with
 |slnil=>grind
 | cons y a b=>
   obtain⟨e,c⟩:=KD.1 hd;by_cases q:k x<k y
   . rw[lY q]
     exact(b c).cons y
   . rw[qD q,rC x am]
     grind
 | cons_cons y a b=>
   obtain⟨e,c⟩:=KD.1 hd;by_cases q:k x<k y
   . rw[lY q,lY q]
     exact(b c).cons_cons y
   simp_all [qD]
def pn{c l:RQ}(a:c.Sublist l):∀{b r},b.Sublist r->Dn k r->(c.foldl (λr x=>cI (tF k) x r) b).Sublist (l.foldl (λr x=>cI (tF k) x r) r):=by
 induction a with
 |slnil=>grind
 |cons x a d=>intro b r h hd;exact d (h.trans (lI x r)) (iD x hd)
 |cons_cons x a d=>grind [rD,iD]
end
def kF{f a l}(b:a.Sublist l):(aV f a).Sublist (aV f l):=by rw[eV,eV];exact(pn b am List.Pairwise.nil).reverse
def iU  f   a b   r :bI f (a::b::r)=(dg f a b||bI f (b::r)):=by
 unfold bI;rw[show(a::b::r).length-1=r.length+1 from rfl,List.range_succ_eq_map,List.any_cons,List.any_map];rfl
theorem gi{f}(c:f.Good):∀{l},(∀n∈l,0<=n/\n<f.ao.length)->bI f l=false->l.Pairwise (Fit f)
 |[],_,_=>List.Pairwise.nil
 |[a],_,_=>List.pairwise_singleton _ _
 | a::b::r,i,h=>by
   rw[iU,L3]at h;have d:=gi c am h.2;refine KD.2 ⟨λz e=>?_,d⟩;rcases Cv.1 e with rfl|g
   . exact h.1
   . exact xr c aq aq am h.1 aq
theorem gk{f}:∀{l},l.Pairwise (Fit f)->bI f l=false
 |[],_=>rfl
 |[a],_=>rfl
 |a::b::r,h=>by obtain⟨c,d⟩:=KD.1 h;rw[iU,gk d,LO];exact c b ap
def uX{f}(o:f.Good){b l}(i:b.Sublist l)(j:b≠[])(p:∀n∈l,0<=n/\n<f.ao.length)(h:iS f l=0):iS f b=0:=by
 obtain⟨k,c,q⟩:=jz.1 h;have s:=kF (f:=f) i
 have d:aV f b≠[]:=λe=>by
  cases b with
  |nil=>grind
  |cons a r=>have:a∈aV f (a::r):=iE.2 ap;grind
 have g:aV f l≠[]:=am;have t:∀n∈aV f l,0<=n/\n<f.ao.length:=(by grind [iE]);refine jz.2 ⟨?_,?_,(by grind [gk,gi])⟩
 . unfold cR at k ⊢
   grind
 . generalize aV f b=m at *
   unfold cd at c ⊢;simp   at c ⊢;obtain⟨x,u⟩:=HN _ c;have:x∈fM f m:=(by grind [kZ])
   grind
def iV{β:Type}{G:Nat->List β}{c}:∀d ,(∀j,c<=j->j<c+d->G j=[])->(List.range (c+d)).flatMap G=(List.range c).flatMap G
 |0,_=>rfl
 | d+1,h=>by
   rw[<-Nat.add_assoc,zU,Fe,iV d am]
   grind
def oo(l:RQ):Wz:=(List.range (aJ l+1).toNat).map λk:Nat=>l++[(k:Int)]
def cu:Nat->Wz
 |0=>[[]]
 |i+1=>(cu i).flatMap oo
def jL:Nat->RQ->Wz
 |0,l=>[l]
 |n+1,l=>(List.range (aJ l+1).toNat).flatMap λk:Nat=>jL n (l++[(k:Int)])
def ew(f:Fr)(l:RQ):Bool:=decide (aJ l<=f.bc) && (List.range (aJ l).toNat).all λk:Nat=>decide (iS f (aN l k)=0)
def lJ  w t   k :(aN w k).Sublist (aN (w++t) k):=by
 unfold aN
 grind
def bO  w t :aJ w<=aJ (w++t):=by
 unfold aJ
 simp_all [mR]
def ir:∀  n   w l ,l∈jL n w->∃t,l=w++t/\t.length=n
 |0,w,l,h=>by simp[jL]at h;simp_all
 | n+1,w,l,h=>by
   obtain⟨k,_,a⟩:=E2.1 h;obtain⟨t,b,c⟩:=ir n _ l a
   grind
def jv:∀n m ,(cu m).flatMap (jL n)=cu (m+n)
 | 0,m=>by
   have:jL 0=λl=>[l]:=by rfl
   simp_all
 | n+1,m=>by
   have e:∀l,jL (n+1) l=(oo l).flatMap _:=λl=>by unfold oo;rw[List.flatMap_map];rfl
   rw[show m+(n+1)=m+1+n by omega,<-jv n _,cu,List.flatMap_assoc]
   grind [lZ]
def pR{f}(b:f.Good){w t}{k:Nat}(hlen:(w++t).length=f.ao.length)(e:(k:Int)<aJ w)(a:aN w k≠[])(h:ew f (w++t)=true):iS f (aN w k)=0:=by
 unfold ew at h;rw[vc,LF]at h;have g:=bO w t;have c:=h.2 k (wL.2 ac);refine uX b (lJ w t k) a (λn d=>?_) (FE c);have:=aZ d;omega
def iX{f}(o:f.Good):∀  fuel   way b ,way.length+fuel=f.ao.length->Hs f way.length b->(∀k ,k<6->aB (b.getD k 0)=aN way k)->aJ way<=f.bc->(∀k:Nat,(k:Int)<aJ way->iS f (aN way k)=0) ->
 eu f [] fuel way (aJ way) b=(jL fuel way).filter (ew f)
 | 0,way,b,_,_,_,v,w=>by
   have:ew f way=true:=by
    unfold ew
    grind
   simp[eu,jL,this]
 | fuel+1,way,b,B,p,hb,v,w=>by
   have q:=o.bc;have C:=o.jo;have x:=iJ way;rw[iT];unfold jL;rw[List.filter_flatMap];obtain⟨d,hd⟩:∃d,(aJ way+1).toNat=(min (aJ way+1) f.bc).toNat+d:=⟨(aJ way+1).toNat-(min (aJ way+1) f.bc).toNat,ac⟩
   rw[hd,iV d λj D E=>?_]
   . refine lZ λk u=>?_
     have u:=wL.1 u;have r:k<6:=ac
     have c:k<b.length:=by rw[p.jo];omega
     have h:b.getD k 0=b[k]:=am
     have i:way.length<6:=ac
     have m:aB (cM b[k] way.length)=aN (way++[(k:Int)]) k:=by rw[l8 (p.small _ (lb c)) i (p.bits _ (lb c)),<-h,hb k r,ba,wS rfl]
     unfold nH;rw[wN ap,h]
     by_cases n:iY f (cM b[k] way.length)=true
     . rw [wS n,<-aS]
       unfold iY at n;rw[wK,m]at n;have y:=p.set i c;refine iX o fuel _ _ am aq (λj s=>?_) (by rw[aS];omega) λj s=>?_
       . by_cases e:j=k
         . grind
         . rw[sg,Fp (vj e),<-List.getD_eq_getElem?_getD,hb j s,ba,wN ac,xx]
       . by_cases e:j=k
         . grind
         . rw[aS]at s
           rw[ba,wN ac,xx]
           grind
     . rw[wN n]
       symm;rw[Hj];intro l g a;obtain⟨t,rfl,z⟩:=ir _ _ _ g;refine n ?_;unfold iY;rw[wK,m];refine pR o am (by rw[aS];omega) ?_ a
       simp_all [ba]
   . rw[Hj]
     intro l g a;obtain⟨t,rfl,z⟩:=ir _ _ _ g;unfold ew at a;rw[vc,wK]at a;have A:=bO (way++[(j:Int)]) t;rw[aS]at A;omega
def ib{f}(d:f.Good):(cu f.ao.length).filter (ew f)=aG f []:=by
 have j:=d.bc;have e:aJ []=0:=rfl;have g:aB 0=[]:=v3
 have h:Hs f ([]:RQ).length [0,0,0,0,0,0]:=⟨rfl,am,am⟩
 have c:∀k:Nat,k<6->aB (([0,0,0,0,0,0]:RQ).getD k 0)=aN [] k:=λk i=>by
  have:([0,0,0,0,0,0]:RQ).getD k 0=0:=by
   match k,i with
   |0,_=>rfl
   |1,_=>rfl
   |2,_=>rfl
   |3,_=>rfl
   |4,_=>rfl
   |5,_=>rfl
  rw[this,g];rfl
 have a:=iX d f.ao.length [] [0,0,0,0,0,0] ap h c ac ac;rw[e]at a;have b:=jv f.ao.length 0;rw[IC]at b;unfold aG;rw[a,<-b];simp[cu]
def dI:∀  i ,∀l∈cu i,l.length=i/\(∀x∈l,0<=x/\x<i)/\aJ l<=i
 |0,l,h=>by simp[cu]at h;subst h;exact⟨rfl,ap,be⟩
 | i+1,l,h=>by
   obtain⟨p,a,b⟩:=E2.1 h;obtain⟨c,d,e⟩:=dI i p a;unfold oo at b
   grind [aS]
end
section
open Go.bu Go.Conc
variable{m:Mo}{σ:af}{KF:YC}
def toldOf(n all:Int):Int:=if n=0 then 2 else if n=all then 1 else 3
def gC{n all}(a:0<=n)(b:n<=all)(c:0<all):dZ n all=toldOf n all:=by unfold dZ toldOf;omega
end
section
open Go.bu Go.Conc
def bD{w k}{i:Nat}(hi:i<w.length)(h:w.getD i 0=k):(i:Int)∈aN w k:=by
 unfold aN;refine CR.2 ⟨(w[i],i),LB.2 ⟨?_,?_⟩,rfl⟩
 . grind
 simp_all
def gn:RQ->RQ->RQ->RQ × List Int
 |[],w,s=>(w,s)
 |h::l,w,s=>if h∈s then gn l (w++[(s.idxOf h:Int)]) s else gn l (w++[(s.length:Int)]) (s++[h])
structure Canon(p w s:RQ):Prop where
 len:w.length=p.length
 many:aJ w=s.length
 nd:s.Nodup
 sub:∀x∈s,x∈p
 j7:∀k ,(hk:k<s.length)->aN w k=aN p s[k]
 part:w∈cu p.length
def Canon.all{p w s}(h:Canon p w s):∀x∈p,x∈s:=λx c=>by
 obtain⟨i,d,rfl⟩:=FG.1 c;have f:=(dI _ _ h.part).2.1;have a:i<w.length:=by rw[h.len];exact d
 have g:w[i]<aJ w:=by
  have e:w=w.take i++(w[i]::w.drop (i+1)):=aq
  have:aJ (w.take i++[w[i]])<=aJ w:=by
   have:=bO (w.take i++[w[i]]) (w.drop (i+1))
   grind
  rw[aS]at this;omega
 have k:=f _ (lb a);rw[h.many]at g;have j:w[i].toNat<s.length:=ac
 have b:(i:Int)∈aN w (w[i].toNat:Int):=bD a am;rw[h.j7 _ j]at b;have:=(aZ b).2.2
 simp_all
def dE{s:RQ}{h}(a:h∈s):∃b ,s[s.idxOf h]=h:=⟨List.idxOf_lt_length_iff.2 a,List.getElem_idxOf (List.idxOf_lt_length_iff.2 a)⟩
def iZ{s:RQ}(a:s.Nodup){i j hi}{hj:j<s.length}(e:s[i]=s[j]):i=j:=by
 rw[List.Nodup,List.pairwise_iff_getElem]at a
 grind
def gq:∀  l p w s ,Canon p w s->Canon (p++l) (gn l w s).1 (gn l w s).2
 |[],p,w,s,h=>by simpa[gn]using h
 | a :: l, p,w,s,h=>by
   have hlen:=h.len;rw[show p++a::l=(p++[a])++l by simp];unfold gn;split
   . next f=>
     obtain⟨i,t⟩:=dE f;refine gq l _ _ _ ⟨by simp[hlen],?_,h.nd,λx hx=>by simp[h.sub x hx],λk c=>?_,?_⟩
     . rw[aS,h.many];omega
     . rw[ba,ba,h.j7 k c,hlen]
       by_cases e:k=s.idxOf a
       . simp_all
       . rw[wN ac,wN (λj=>e (iZ h.nd (hi:=c) (hj:=i) ac))]
     . rw[zR,II,cu,E2]
       exact⟨w,h.part,CR.2 ⟨_,wL.2 (by rw[h.many];omega),rfl⟩⟩
   . next f=>
     refine gq l _ _ _ ⟨by simp[hlen],?_,?_,λx hx=>?_,λk c=>?_,?_⟩
     . rw[aS,h.many,zR];simp;omega
     . rw[MH]
       exact⟨h.nd,ap,λx hx y u=>am⟩
     . rcases E4.1 hx with hx|hx
       . simp[h.sub x hx]
       simp_all
     . rw [ba,ba,hlen]
       rw[zR,II]at c;by_cases e:k=s.length
       . subst e
         rw[wS rfl];have m:(s++[a])[s.length]=a:=ap
         rw[m,wS rfl];congr 1
         have n:aN w (s.length:Int)=[]:=by
          rw[List.eq_nil_iff_forall_not_mem];intro x hx;obtain⟨o,q,g⟩:=aZ hx;have b:x.toNat<w.length:=ac
          rw[sg,kn b,IE]at g;have e:w=w.take x.toNat++(w[x.toNat]::w.drop (x.toNat+1)):=by rw[<-List.drop_eq_getElem_cons b,Ji]
          have:=bO (w.take x.toNat++[w[x.toNat]]) (w.drop (x.toNat+1));rw[IG,K7,<-e,aS,h.many]at this;omega
         have r:aN p a=[]:=by
          rw[List.eq_nil_iff_forall_not_mem];intro x hx;obtain⟨o,q,g⟩:=aZ hx;have b:x.toNat<p.length:=ac
          rw[sg,kn b,IE]at g;exact f (g ▸ h.all _ (lb b))
         rw[n,r]
       . have d:k<s.length:=ac
         rw[wN ac,List.getElem_append_left d,wN (λj=>f aq),h.j7 k d]
     . rw[zR,II,cu,E2]
       exact⟨w,h.part,CR.2 ⟨_,wL.2 (by rw[h.many];omega),rfl⟩⟩
def rE  p :∃w s,Canon p w s:=⟨_,_,by
 have:=gq p [] [] [] ⟨rfl,rfl,KS,ap,λk a=>by simp at a,by simp[cu]⟩;simpa using this⟩
def akh{n all}(h:0<all):toldOf n all=1↔n=all:=by unfold toldOf;omega
def Js{α:Type}  p :∀l:List α,(l.filter p).length=l.length↔∀x∈l,p x=true
 |[]=>ap
 | a::l=>by
   have b:=Js p l
   grind
section
variable{L:Wz}{n:Nat}
def ni(L:Wz)(x y:Nat):Int:=dZ ((L.filter (bo x y)).length:Int) L.length
def Gf(a:0<L.length){x y}:ni L x y=1↔∀w∈L,bo x y w=true:=by
 have:=Rp (bo (x:Int) y) L;unfold ni;rw[gC ac ac ac,akh ac,<-Js];omega
def nj{p w s}(h:Canon p w s){i j}(hi:i<p.length)(hj:j<p.length)(e:p.getD i 0=p.getD j 0):bo i j w=true:=by
 have d:i<w.length:=by rw[h.len];exact hi
 have f:j<w.length:=by rw[h.len];exact hj
 have g:p.getD i 0=p[i]:=aq
 have k:p.getD i 0∈s:=h.all _ aq
 obtain⟨l,m⟩:=dE k;have a:=h.j7 _ l;rw[m]at a;have n:(i:Int)∈aN w ((s.idxOf (p.getD i 0):Nat):Int):=by rw[a];exact bD hi rfl
 have o:(j:Int)∈aN w ((s.idxOf (p.getD i 0):Nat):Int):=by rw[a];exact bD hj e.symm
 have b:=(aZ n).2.2;have c:=(aZ o).2.2;rw[FV]at b c;simp only[bo,wK,FV,b,c]
end
def lK  f   l :(aV f l).Pairwise λa b=>(aU f a).hour<=(aU f b).hour:=by
 rw[eV,List.pairwise_reverse]
 have key:∀(l r:RQ),Dn (λn=>(aU f n).hour) r->Dn (λn=>(aU f n).hour) (l.foldl (λr x=>cI (tF λn=>(aU f n).hour) x r) r):=by
  intro l;induction l with
  |nil=>grind
  |cons a l c=>grind [iD]
 exact key l [] List.Pairwise.nil
def gJ{R}:∀{l:RQ},l.Pairwise R->∀a∈l,∀b∈l,a≠b->R a b\/R b a
 |[],_,a,g,_,_,_=>am
 | c ::l,h,a,g,b,hb,d=>by
   obtain⟨j,i⟩:=KD.1 h;rcases Cv.1 g with rfl|e
   . grind
   . rcases Cv.1 hb with rfl|f
     . grind
     . exact gJ i a e b f d
def uY:∀a:Fin 32,∀b:Fin 32,cj (a.val:Int) (b.val:Int)=cj (b.val:Int) (a.val:Int):=v3
def Fr.Good.symm{f:Fr}(a:f.Good){i j}(hi:i<f.roads.length)(hj:j<f.roads.length):rd f.roads i j=rd f.roads j i:=by
 have h:=a.HH;unfold fD at h;split at h
 . cases h
 split at h
 . cases h
 split at h
 . omega
 split at h
 . cases h
 next q=>
 simp only[ES,wL,not_exists,not_and]at q;have b:=q i hi j hj;unfold cS at b
 grind
theorem uZ:∀a:Fin 32,cj (a.val:Int) (a.val:Int)=0:=v3
def rH{f}(a:f.Good){x}(b:0<=x/\x<f.ao.length):dg f x x=false:=by
 have e:=lf (a.pS _ (dL b));obtain⟨A,d⟩:=gu e.2.2.2.2.2
 have g:rd f.roads (aU f x).place.toNat (aU f x).place.toNat=0:=by
  have h:=a.HH;unfold fD at h;split at h
  . cases h
  split at h
  . cases h
  split at h
  . omega
  split at h
  . cases h
  next q=>
  simp only[ES,wL,not_exists,not_and]at q;have c:=q (aU f x).place.toNat ac (aU f x).place.toNat ac;unfold cS at c
  grind
 unfold dg
 grind [uZ]
theorem rI{f}(c:f.Good){a b}(d:0<=a/\a<f.ao.length)(hb:0<=b/\b<f.ao.length)(k:(aU f a).hour<=(aU f b).hour)(h:Fit f b a):Fit f a b:=by
 have e:=lf (c.pS _ (dL d));have g:=lf (c.pS _ (dL hb));obtain⟨A,l⟩:=gu e.2.2.2.2.2;obtain⟨B,m⟩:=gu g.2.2.2.2.2;have n:=uY A B;have o:=c.symm (i:=(aU f a).place.toNat) (j:=(aU f b).place.toNat) ac ac;unfold Fit dg at h ⊢
 grind
structure yq  f  (l:RQ):Prop where
 di:∀a∈l,∀b∈l,(aU f a).di=(aU f b).di
 Sv:∃h,∀j∈l,h∈cD f (aU f j)
 fit:∀a∈l,∀b∈l,a≠b->Fit f a b\/Fit f b a
def oq{f}(v:f.Good){l}(r:l≠[])(j:l.Nodup)(w:∀n∈l,0<=n/\n<f.ao.length):iS f l=0↔yq f l:=by
 have s:=jM f l;have i:∀n,n∈aV f l↔n∈l:=am;have k:=lK f l;have d:(aV f l).Nodup:=s.nodup_iff.2 j;have o:aV f l≠[]:=λe=>aq
 rw[jz];generalize aV f l=S at *;have t:S.getD 0 0∈S:=am
 constructor
 . rintro⟨u,m,y⟩
   unfold cR at u;refine⟨am,?_,λa g b hb c=>gJ (by grind [gi]) a ((i a).2 g) b am c⟩;unfold cd at m;simp only[K2]at m;obtain⟨x,p⟩:=HN _ m;exact⟨x,(by grind [kZ])⟩
 . intro h
   refine⟨?_,?_,gk ?_⟩
   . unfold cR
     rw[Ib];intro x p;rw[h.di x am _ ((i _).1 t)];simp
   . unfold cd
     obtain⟨x,p⟩:=h.Sv;have:x∈fM f S:=(by grind [kZ])
     grind
   . refine(k.and d).imp_of_mem λ{a b} g hb c=>?_
     have g:=(i a).1 g;have hb:=(i b).1 hb;rcases h.fit a g b hb c.2 with q|q
     . exact q
     grind [rI]
def eD  w   k :(aN w k).Nodup:=(nI k w 0).1.imp ac
def eM{w x}(h:x∈w):x<aJ w:=by obtain⟨a,b,rfl⟩:=List.append_of_mem h;have:=bO (a++[x]) b;rw[IG,K7,aS]at this;omega
section
variable{f x:Fr}{π ρ:Ct}
def nk{p w s}(h:Canon p w s){i j}(hi:i<p.length)(hj:j<p.length)(e:bo i j w=true):p.getD i 0=p.getD j 0:=by
 have a:i<w.length:=by rw[h.len];exact hi
 have b:j<w.length:=by rw[h.len];exact hj
 simp only[bo,wK,FV]at e;have f:w.getD i 0=w[i]:=aq
 have m:=((dI _ _ h.part).2.1 _ (lb a)).1;have g:=eM (lb a);rw[h.many]at g;have k:w[i].toNat<s.length:=ac
 have l:=h.j7 _ k;have c:(i:Int)∈aN w ((w[i].toNat:Nat):Int):=bD a ac
 have d:(j:Int)∈aN w ((w[i].toNat:Nat):Int):=bD b ac
 rw[l]at c d;have n:=(aZ c).2.2;have o:=(aZ d).2.2
 simp_all
end
def bT{l:RQ}{i}(h:i<l.length):l.getD i 0∈l:=aq
def u6{l:RQ}{x}(h:x∈l):∃i,i<l.length/\l.getD i 0=x:=by obtain⟨i,a,e⟩:=FG.1 h;exact⟨i,a,aq⟩
structure gM(f x:Fr)(L:RQ):Prop where
 roads:x.roads=f.roads
 fr:x.bs=f.bs
 to:x.fN=f.fN
 dN:x.dN=f.dN
 bc:f.bc<=x.bc
 Rh:∀i∈L,0<=i/\i<f.ao.length
 pS:x.ao=L.map (aU f)
section
variable{f x:Fr}{L:RQ}
def gM.len(h:gM f x L):x.ao.length=L.length:=by rw[h.pS,zD]
def gM.at(h:gM f x L){j:Int}(b:0<=j/\j<L.length):aU x j=aU f (L.getD j.toNat 0):=by
 have a:j.toNat<L.length:=ac
 unfold aU;rw[h.pS,sg,Hi,kn a,sg (l:=L),kn a];rfl
def gM.cD(h:gM f x L)(e:vU):cD x e=cD f e:=by unfold Go.Proofs.YtggpckcdfilkoaaGreatDoor.cD lg;rw[h.fr,h.to]
def gM.one(h:gM f x L)(n:x.Good){l i:RQ}(e:∀j∈i,(0<=j/\j<L.length)/\L.getD j.toNat 0∈l)(k:yq f l):yq x i:=by
 have c:∀j∈i,aU x j=aU f (L.getD j.toNat 0):=λj m=>h.at (e j m).1
 refine⟨λa d b hb=>?_,?_,λa d b hb o=>?_⟩
 . rw[c a d,c b hb];exact k.di _ (e a d).2 _ (e b hb).2
 . obtain⟨z,q⟩:=k.Sv
   exact⟨z,λj m=>by rw[h.cD,c j m];simp_all⟩
 . by_cases g:L.getD a.toNat 0=L.getD b.toNat 0
   . have r:=rH n (x:=b) (by rw[h.len];simp_all)
     have p:=c a d;rw[g,<-c b hb]at p;refine .inl ?_;unfold Fit dg at *
     simp_all
   have:=k.fit _ (e a d).2 _ (e b hb).2 g;unfold Fit dg at this ⊢;rw[c a d,c b hb,h.roads,h.dN];exact this
def gM.way(h:gM f x L)(E:f.Good)(u:x.Good){w}(F:w∈aG f []):∃v∈aG x [],∀i j ,i<L.length->j<L.length->bo i j v=bo (L.getD i 0) (L.getD j 0) w:=by
 rw[<-ib E,LB]at F;obtain⟨y,z⟩:=F;obtain⟨wl,G,_⟩:=dI _ _ y;obtain⟨p,R⟩:=S1 (L.map λj=>w.getD j.toNat 0)
 have g:p.length=L.length:=aq
 have o:∀j,j<L.length->0<=L.getD j 0/\(L.getD j 0).toNat<w.length:=λj l=>by have:=h.Rh _ (bT l);omega
 have m:∀j,j<L.length->p.getD j 0=w.getD (L.getD j 0).toNat 0:=λj l=>aq
 have r:∀c∈p,∃j,j<L.length/\p.getD j 0=c/\c∈w:=λc d=>by
  obtain⟨j,l,H⟩:=u6 d
  grind
 obtain⟨v,s,d⟩:=rE p;have A:=z;unfold ew at A;rw[vc,LF,wK]at A;refine⟨v,?_,λi j n l=>?_⟩
 . rw[<-ib u,LB,h.len,<-g]
   refine⟨d.part,?_⟩;unfold ew;rw[vc,LF,d.many];have J:=iJ w
   have S:=qR (aJ w).toNat s d.nd λc B=>by obtain⟨_,_,_,a⟩:=r c (d.sub c B);have:=G c a;have:=eM a;omega
   refine⟨decide_eq_true (by have:=h.bc;omega),λk T=>?_⟩
   have t:k<s.length:=am
   rw[wK,d.j7 k t];obtain⟨j,l,e,a⟩:=r _ (d.sub _ (lb t));generalize s[k]=c at *;have K:=G c a;have M:=eM a;have b:=FE (A.2 c.toNat (wL.2 ac))
   rw[show(c.toNat:Int)=c by omega]at b
   have C:aN w c≠[]:=Jg (bD (i:=(L.getD j 0).toNat) (o j l).2 am)
   have D:aN p c≠[]:=Jg (bD (i:=j) ac e)
   rw[oq E C (eD w c) λi n=>by have:=aZ n;omega]at b
   rw[oq u D (eD p c) λi n=>by have:=aZ n;rw[g,<-h.len]at this;omega]
   refine h.one u (λi n=>?_) b
   obtain⟨N,I,O⟩:=aZ n;rw[g]at I;have P:=o i.toNat ac
   refine⟨⟨N,I⟩,?_⟩;have:=bD (w:=w) (k:=c) (i:=(L.getD i.toNat 0).toNat) P.2 (by rw[<-m _ ac];exact O)
   rwa [show((L.getD i.toNat 0).toNat:Int)=L.getD i.toNat 0 by omega]at this
 . have Q:=m i n
   have H:=m j l;rw[IJ];constructor
   . intro q
     have:=nk d ac ac q
     rw[Q,H]at this;simp only[bo,wK];exact this
   . intro q
     simp only[bo,wK]at q;exact nj d ac ac ac
end
def ja  p :∀n ,n<=6->(0<=bh ((fT n).filter p)/\bh ((fT n).filter p)<64)/\aB (bh ((fT n).filter p))=(fT n).filter p
 | 0,_=>by
   show(0<=bh []/\bh []<64)/\aB (bh [])=[];decide
 | n + 1,h=>by
   obtain⟨a,b⟩:=ja p n ac;rw[iu];split
   . rw[kP]
     exact⟨(A7 a ac).1,by grind [l8]⟩
   grind
section
variable{w:bF}
abbrev nJ(w:bF)(es cs:RQ):RQ:=es++cs.map λ(c:Int)=>c+(w.fair.ao.length:Int)
theorem rJ{i:Int}(h:0<=i/\i<w.fair.ao.length):aU (dM w) i=aU w.fair i:=by
 unfold aU dM
 grind
theorem rK{c:Int}(h:0<=c/\c<w.ak.length):aU (dM w) (c+w.fair.ao.length)=(fU w c).lost:=by
 have e:(c+w.fair.ao.length).toNat=w.fair.ao.length+c.toNat:=ac
 unfold aU dM fU
 simp_all
def Dy:(dM w).ao.length=w.fair.ao.length+w.ak.length:=am
def kL{es cs:RQ}(a:∀i∈es,0<=i/\i<w.fair.ao.length)(b:∀i∈cs,0<=i/\i<w.ak.length):gM (dM w) (cJ w es cs) (nJ w es cs):=
 ⟨rfl,rfl,rfl,rfl,FJ _,am,by grind [List.map_congr_left,rJ,rK]⟩
def po(b:w.Valid){es cs:RQ}(f:∀i∈es,0<=i/\i<w.fair.ao.length)(g:∀i∈cs,0<=i/\i<w.ak.length)(j:es.length+cs.length<=6):(cJ w es cs).Good:=by
 have a:=gy b.oX b.jo;have c:=kL f g
 have d:∀e∈(cJ w es cs).ao,e∈(dM w).ao:=λe q=>by rw[c.pS]at q;obtain⟨i,h,rfl⟩:=CR.1 q;exact dL (c.Rh i h)
 have hlen:(cJ w es cs).ao.length=es.length+cs.length:=am
 exact⟨⟨ac,a.fits.roads,a.fits.row,λe q=>a.fits.marks e (d e q)⟩,a.fr,a.to,a.le,a.dN,a.bc,ac,λe q=>a.pS e (d e q),a.HH⟩
def bN{h i}(hi:i∈aH w h):0<=i/\i<w.fair.ao.length:=fE (LB.1 hi).1
def cC{h i}(hi:i∈aQ w h):0<=i/\i<w.ak.length:=fE (LB.1 hi).1
def eP  w   h :(aH w h).length<=w.fair.ao.length:=by
 have:=Rp (pE w h) (fT w.fair.ao.length)
 rwa [iF]at this
def eQ  w   h :(aQ w h).length<=w.ak.length:=by
 have:=Rp (pC w h) (fT w.ak.length)
 rwa [iF]at this
def bF.Valid.kE(a:w.Valid)(h:Int):aB (kE w h)=aH w h:=(ja _ _ (by have:=a.jo;omega)).2
def bF.Valid.kC(a:w.Valid)(h:Int):aB (kC w h)=aQ w h:=(ja _ _ (by have:=a.jo;omega)).2
abbrev bf(w:bF)(h:Int):Fr:=cJ w (aH w h) (aQ w h)
abbrev jb(w:bF)(h:Int):RQ:=nJ w (aH w h) (aQ w h)
def nK  w   h :gM (dM w) (bf w h) (jb w h):=kL (λ_=>bN) λ_=>cC
def dO(a:w.Valid)  h :(bf w h).Good:=po a (λ_=>bN) (λ_=>cC) (by have:=eP w h;have:=eQ w h;have:=a.jo;omega)
def bF.Valid.open(a:w.Valid):w.Open:=by
 have c:=a.jo;refine⟨⟨ac,a.jS.1⟩,λh=>?_⟩;have hb:=dO a h;obtain⟨v,b⟩:=HN _ a.some;obtain⟨u,d,_⟩:=(nK w h).way (gy a.oX c) hb b;refine⟨?_,?_,?_,?_⟩<;>simp  [a.kE,a.kC]
 . exact λ_=>bN
 . exact λ_=>cC
 . omega
 grind
end
def GS(L:RQ)(g g':Int)(v:RQ):Bool:=bo (L.idxOf g:Int) (L.idxOf g':Int) v
def lL{L:RQ}{g}(h:g∈L):L.getD (L.idxOf g) 0=g:=am
def ot  f  (es cs:RQ)  x  (N:RQ) (a:cs.Nodup) (b:∀c∈cs,0<=c/\c<3) (d:3*(es.getD x 0).toNat+2<N.length)  q :∀n ,n<=cs.length ->
 ((List.range n).foldl (λN y=>N.set (3*(es.getD x 0).toNat+(cs.getD y 0).toNat) (jc f x ((es.length:Int)+y))) N).length=N.length/\
 (∀y<n,((List.range n).foldl (λN y=>N.set (3*(es.getD x 0).toNat+(cs.getD y 0).toNat) (jc f x ((es.length:Int)+y))) N).getD (3*(es.getD x 0).toNat+(cs.getD y 0).toNat) 0=jc f x ((es.length:Int)+y))/\
 ((∀y<n,q≠3*(es.getD x 0).toNat+(cs.getD y 0).toNat)->((List.range n).foldl (λN y=>N.set (3*(es.getD x 0).toNat+(cs.getD y 0).toNat) (jc f x ((es.length:Int)+y))) N).getD q 0=N.getD q 0)
 |0,_=>⟨rfl,ac,λ_=>rfl⟩
 | n + 1,m=>by
   obtain⟨o,p,g⟩:=ot f es cs x N a b d q n ac;rw[zU,ET,HW,Is];generalize (List.range n).foldl _ N=R at *;have r:=b _ (bT (l:=cs) (i:=n) ac);refine⟨am,λy s=>?_,λh=>?_⟩
   . by_cases e:y=n
     . subst e
       rw[sg,KC ac];rfl
     . have j:(cs.getD y 0).toNat≠(cs.getD n 0).toNat:=λq=>by
        have k:=b _ (bT (l:=cs) (i:=y) ac);have:cs.getD y 0=cs.getD n 0:=ac
        rw[sg,sg,kn (show y<cs.length by omega),kn (show n<cs.length by omega)]at this;exact e (iZ a this)
       grind
   . rw[sg,Fp (λe=>h n ac e.symm),<-List.getD_eq_getElem?_getD]
     exact g am
def lM  f   es cs  (a:es.Nodup) (g:∀i∈es,0<=i/\i<6) (b:cs.Nodup) (d:∀c∈cs,0<=c/\c<3)  q :∀n ,n<=es.length ->
 ((List.range n).foldl (λN x=>mG f es cs x N) (List.replicate 18 0)).length=18/\
 (∀x<n,∀y<cs.length,((List.range n).foldl (λN x=>mG f es cs x N) (List.replicate 18 0)).getD (3*(es.getD x 0).toNat+(cs.getD y 0).toNat) 0=jc f x ((es.length:Int)+y))/\
 ((∀x<n,∀y<cs.length,q≠3*(es.getD x 0).toNat+(cs.getD y 0).toNat)->((List.range n).foldl (λN x=>mG f es cs x N) (List.replicate 18 0)).getD q 0=0)
 |0,_=>⟨ap,ac,am⟩
 | n + 1,w=>by
   obtain⟨m,p,r⟩:=lM f es cs a g b d q n ac;rw[zU,ET,HW,Is];obtain⟨R,j⟩:=S1 ((List.range n).foldl (λN x=>mG f es cs x N) (List.replicate 18 0));rw[<-j]at m p r ⊢;have z:=g _ (bT (l:=es) (i:=n) ac);have s:3*(es.getD n 0).toNat+2<R.length:=ac
   have key:=λq=>ot f es cs n R b d s q cs.length (AK _)
   refine⟨by unfold mG;exact(key 0).1.trans m,λx A y o=>?_,λh=>?_⟩
   . by_cases e:x=n
     . subst e;exact(key 0).2.1 y o
     . have t:=g _ (bT (l:=es) (i:=x) ac)
       have u:(es.getD x 0).toNat≠(es.getD n 0).toNat:=λq=>by
        have:es.getD x 0=es.getD n 0:=ac
        rw[sg,sg,kn (show x<es.length by omega),kn (show n<es.length by omega)]at this;exact e (iZ a this)
       have v:=d _ (bT o);unfold mG;rw[(key _).2.2 λB k=>by have:=d _ (bT k);omega]
       grind
   . unfold mG
     grind
section
variable{w:bF}
def j8  n :(fT n).Nodup:=by grind [List.nodup_range]
def fF  w   h :(aH w h).Nodup:=(j8 _).filter _
def dw  w   h :(aQ w h).Nodup:=(j8 _).filter _
def gN{es cs i}(hi:i∈es):(nJ w es cs).idxOf i=es.idxOf i:=am
def u'{cs:RQ}{n c}:(cs.map fun  c=>c+n).idxOf (c+n)=cs.idxOf c:=by
 induction cs with
 |nil=>rfl
 |cons a l b=>grind
def gO{es cs:RQ}{c:Int}(a:∀i∈es,i<w.fair.ao.length)(b:0<=c):(nJ w es cs).idxOf (c+w.fair.ao.length)=es.length+cs.idxOf c:=by rw[Mg,wN λq=>am,u',LG]
abbrev wB(w:bF)(h i c:Int):Int:=ni (aG (bf w h) []) ((jb w h).idxOf i) ((jb w h).idxOf (c+w.fair.ao.length))
def va(a:w.Valid){h i c}(hi:0<=i/\i<6)(b:0<=c/\c<3):fV w h i c=if i∈aH w h/\c∈aQ w h then wB w h i c else 0:=by
 have m:=a.jo;have n:=a.jS.1;obtain⟨_,d,f⟩:=lM (bf w h) (aH w h) (aQ w h) (fF w h) (λi q=>by have:=bN q;omega) (dw w h) (λi q=>by have:=cC q;omega) (3*i.toNat+c.toNat) _ (AK _)
 have e:fV w h i c=(rL (bf w h) (aH w h) (aQ w h)).getD (3*i.toNat+c.toNat) 0:=by show(rL (cJ w (aB (kE w h)) (aB (kC w h))) (aB (kE w h)) (aB (kC w h))).getD (3*i.toNat+c.toNat) 0=_;rw[a.kE,a.kC]
 rw[e];unfold rL;split
 . next q=>
   obtain⟨g,o⟩:=dE q.1;obtain⟨j,p⟩:=dE q.2;have:=d _ g _ j;rw[lL q.1,lL q.2]at this;rw[this];unfold wB ni jc;rw[gN q.1,gO (λi q=>(bN q).2) b.1]
   grind
 . next q=>
   refine f λx k y l e=>q ?_
   have r:=bN (bT k);have s:=cC (bT l);have t:(aH w h).getD x 0=i:=ac
   have u:(aQ w h).getD y 0=c:=ac
   grind
def nL(a:w.Valid)  h :0<(aG (bf w h) []).length:=by
 have:=(a.open.bk h).some;simp  [a.kE,a.kC]at this
 grind
def Jt(a:w.Valid){h i c}(hi:0<=i/\i<6)(d:0<=c/\c<3):fV w h i c=1↔(i∈aH w h/\c∈aQ w h)/\∀v∈aG (bf w h) [],GS (jb w h) i (c+w.fair.ao.length) v=true:=by
 have b:=nL a h;rw[va a hi d];split
 . next q=>exact⟨λz=>⟨q,(Gf b).1 z⟩,λz=>(Gf b).2 z.2⟩
 grind
end
end
section
open Go Go.bu Go.Conc
variable{m:Mo}{σ:af}{KF:YC}
def yr(way:RQ)(k:Int)(x:Int):Bool:=way[x.toNat]?.getD 0==k
def ou(way:RQ)(k:Int):RQ:=(fT way.length).filter (yr way k)
def ajz{way k x}(b:0<=x/\x<way.length)(h:KF (.val (T0 (yr way k x))) σ):ar prog m 187 [Xn x,.cp (Ae way) 0,.cp (Xn k) 0] σ KF:=by
 have a:x.toNat<way.length:=ac
 unfold yr at h;rw[kn a]at h;refine S0 acu func187 ?_;simp[f187];simp[b];apply rn;simp;exact .done h
def ajx{gb X}(b:σ gb=some (.cells X)){way k}(j:way.length<=100)(h:∀σ',σ.Le σ'->KF (.val (Ae (ou way k))) σ'):ar prog m 144 [Ae way,Xn k] σ KF:=by
 refine S0 [] func144 ?_;simp[f144];refine O1 func92 (xu ac ?_);apply rn;simp;refine O1 func114 (Sw (I:=λσ'=>σ' gb=some (.cells X)) (mb:=gb) ⟨λh d=>d _ _ h (λ_ q=>by cases q),λh e q=>aq⟩ am rfl (λx a σ K f g=>fS func187 rfl rfl rfl (ajz (k:=k) (fE a) (g σ f (.refl _ _)))) b λσ' l i=>?_);apply rn;simp;refine .done (h σ' λc x a=>?_);by_cases e:c=gb
 . simp_all
 . exact i c x a e
def Ju(f:Fr)(way:RQ)(k:Int):Bool:=decide (iS f (ou way k)=0)
def mq(f:Fr):Nat->RQ->Nat->Wz
 |0,way,_=>[way]
 |n+1,way,many=>(List.range (min (many+1) f.bc.toNat)).flatMap λ(k:Nat)=>if Ju f (way++[(k:Int)]) k then mq f n (way++[(k:Int)]) (max many (k+1))else[]
def ajw{f way k}(g:way.length+1<=f.ao.length)(i:f.ao.length<=6):ZR f (ou (way++[k]) k)/\(ou (way++[k]) k).length<20:=by
 have a:(ou (way++[k]) k).length<20:=by
  unfold ou
  grind
 refine⟨⟨?_,ac⟩,a⟩
 have b:ou (way++[k]) k≠[]:=λe=>by
  have:(way.length:Int)∈ou (way++[k]) k:=LB.2 ⟨CR.2 ⟨way.length,wL.2 ap,rfl⟩,by simp[yr]⟩
  simp_all
 have j:=zp f (ou (way++[k]) k) none (λx c=>by
  have:=fE (LB.1 c).1
  grind) ((List.pairwise_map.2 (List.pairwise_lt_range.imp λh=>ac)).filter _) (λq d=>by cases d)
 unfold AZ
 simp_all
abbrev Sx(f:Fr)(y:AV)(gb:Nat):AV:=.fn (.func 142) [] [.cp (bR f) 0,.cp y 0,.ref gb 0]
def Sz{f}(E:f.Good){y}(G:y.cells=[y]/\y.flat=true){gb Wn}{I:Nat->FC}(H:∀k σ σ',I k σ->σ.Le σ'->I k σ')(v:∀k σ,I k σ->σ gb=some (.cells [Sx f y gb]))
 (hy:∀k  w   σ   K ,I k σ->(∀σ',I (k+1) σ'->K (.val (T0 true)) σ')->cQ prog m y [Ae Wn[k]] σ K):
 ∀  n   way   many   pre post   σ   KF ,way.length+n=f.ao.length->many<=6->Wn=pre++mq f n way many++post->I pre.length σ->(∀σ',I (pre.length+(mq f n way many).length) σ'->KF (.val (T0 true)) σ')->ar prog m 142 [Ae way,Xn many,.cp (bR f) 0,.cp y 0,.ref gb 0] σ KF:=by
 have h6:=E.jo;intro n
 induction n with
 | zero=>
   intro way many pre post σ KF hn hm F J h;have p:way.length=f.ao.length:=ac
   refine S0 YS func142 ?_
   simp[f142];simp[p,aM,G];have w:pre.length<Wn.length:=by rw[F];simp[mq]
   have he:Wn[pre.length]=way:=by subst F;simp[mq]
   rw[<-he];refine hy _ w _ _ J λσ' q=>?_
   apply rn;simp;exact .done (h σ' (by simpa[mq]using q))
 | succ n L=>
   intro way many pre post σ KF hn hm F J h;have p:((way.length:Int)==f.ao.length)=false:=F2
   have a8:=E.bc;obtain⟨B,hB⟩:∃B:Nat,(if f.bc<(many:Int)+1 then f.bc else(many:Int)+1)=(B:Int):=⟨min (many+1) f.bc.toNat,ac⟩
   have M:min (many+1) f.bc.toNat=B:=ac
   obtain⟨d,b⟩:∃d:Nat->Wz,∀k,d k=(List.range k).flatMap λ(k:Nat)=>if Ju f (way++[(k:Int)]) k then mq f n (way++[(k:Int)]) (max many (k+1))else[]:=⟨_,λk=>rfl⟩
   have N:mq f (n+1) way many=d B:=by rw[b,<-M];rfl
   have O:∀k:Nat,d (k+1)=d k++if Ju f (way++[(k:Int)]) k then mq f n (way++[(k:Int)]) (max many (k+1))else[]:=λk=>by rw[b,b,zU,Fe,Ml]
   have x:∀k:Nat,k<=B->∃t,d B=d k++t:=λk w=>by
    refine⟨(List.range' k (B-k)).flatMap λ(k:Nat)=>if Ju f (way++[(k:Int)]) k then mq f n (way++[(k:Int)]) (max many (k+1))else[],?_⟩
    rw[b,b,<-List.flatMap_append,Lg,Lg];congr 1;rw[show List.range' k (B-k)=List.range' (0+k) (B-k)by grind,List.range'_append_1,Nat.add_sub_cancel' w]
   rw[N]at F h;refine S0 YS func142 ?_
   simp[f142];simp[p,aM,hB];refine⟨ac,?_⟩
   refine aa.loop B (λk s=>∃ε σ',s=⟨ε,σ',[],.no⟩/\(ε 0=Ae way/\ε 1=Xn many/\ε 2=.cp (bR f) 0/\ε 3=.cp y 0/\ε 4=.ref gb 0/\ε 25=Xn B/\ε 26=Xn k)/\I (pre.length+(d k).length) σ') ⟨_,_,rfl,ap,by simpa[b]using J⟩ ?_
   rintro c0 k _ w ⟨ε,σ',rfl,⟨P,Q,R,e3,S,r,g⟩,u⟩ ih
   apply rn;simp[r,g];apply aM.intro<;>intro g1<;>simp at g1<;>simp[P,g,g1]
   . have T:=v _ _ u
     refine pN Ax rfl bX rfl nM (es:=way.map Xn) (sp:=.any) (l:=0) (h:=way.length) ap (λcap a7=>⟨⟨⟨.i64,ap⟩,am⟩,⟨⟨.i64,ap⟩,AK _⟩,rfl⟩) ap λb2 z=>?_
     have A:Tok σ' σ' b2 1 (way.map Xn):=by
      rw[IB,IL ap]at z
      rcases z with rfl|⟨e,rfl⟩
      . exact .exact _ _ _
      . rw[e];exact .nil _ _
     apply rn;simp;refine aP Ax rfl rfl rfl bX rfl bX rfl nM be (by simp only[zD,Ds,Dv];omega) (σ0:=σ') (es:=way.map Xn) (xs:=[Xn k]) (by simpa using A) (.inr ⟨_,rfl⟩) λa2 a9 i=>?_
     have U:way.map Xn++[Xn k]=(way++[(k:Int)]).map Xn:=by rw[DL];rfl
     rw[U]at i;refine aa.Fs 37 (a':=Ae (way++[(k:Int)])) (show AV.W a2 _ from i.W) ?_
     obtain⟨nx,C⟩:=S1 (way++[(k:Int)]);have c:=ajw (f:=f) (way:=way) (k:=(k:Int)) ac h6
     have ab:nx.length=way.length+1:=by rw[C];simp
     have j:=O k;rw[<-C]at c j ⊢;apply rn;simp[R];refine O1 func144 (ajx (i.1 _ _ T) ac λD q5=>?_)
     apply pg;simp;refine O1 func143 (ZS E.fits E.Jc c.1 c.2 ?_);apply pg;simp;have V:=H _ _ _ u (af.le_trans i.1 q5);have X:=v _ _ V;cases o:Ju f nx k with
     |false=>have a:=o;unfold Ju at a;rw[o]at j;rw[a];apply rn;simp[g,aM];refine⟨ac,ih _ ac ⟨_,D,rfl,by simp[P,Q,R,e3,S,r],am⟩⟩
     | true=>
       have a:=o;unfold Ju at a;rw[o,wS rfl]at j;rw[a];apply rn;simp[Q,S,X];refine⟨ac,?_⟩
       have Y:(if(many:Int)<(k:Int)+1 then(k:Int)+1 else(many:Int))=((max many (k+1):Nat):Int):=ac
       rw[Y];obtain⟨t,ht⟩:=x (k+1) ac
       refine fS func142 rfl rfl rfl (L nx (max many (k+1)) (pre++d k) (t++post) D _ ac ac am am λZ q6=>?_)
       apply rn;simp[g,aM];refine⟨ac,ih _ ac ⟨_,Z,rfl,by simp[P,Q,R,e3,S,r],by rw[j];simpa[Nat.add_assoc]using q6⟩⟩
   . have ek:k=B:=ac
     subst ek;exact .done (h σ' u)
def ajZ{f}(n:f.Good){y}(g:y.cells=[y]/\y.flat=true){I:Nat->FC}(b:∀k σ σ',I k σ->σ.Le σ'->I k σ')
 (o:∀k  j   a   K ,I k a->(∀σ',I (k+1) σ'->(∀d x,σ d=none->a d=some x->σ' d=some x)->K (.val (T0 true)) σ')->cQ prog m y [Ae (mq f f.ao.length [] 0)[k]] a K)
 (p:I 0 σ) (h:∀σ',I (mq f f.ao.length [] 0).length σ'->KF (.val (.cx [])) σ'):ar prog m 141 [y,.cp (bR f) 0] σ KF:=by
 refine S0 [] func141 ?_;simp[f141];refine⟨aq,?_⟩;refine bz.intro λgb i=>?_
 simp;refine fS func142 rfl rfl rfl (ar.Di (Sz n g (gb:=gb) (Wn:=mq f f.ao.length [] 0) (I:=λk σ'=>I k σ'/\σ' gb=some (.cells [Sx f y gb])) (λk σ σ' q l=>⟨b _ _ _ q.1 l,l _ _ q.2⟩) (λk σ q=>q.2) (λk j a K q r=>o k j a K q.1 λσ' s t=>r σ' ⟨s,t _ _ i q.2⟩) f.ao.length [] 0 [] [] _ _ ap ac ap ⟨b _ _ _ p ?_,af.aj _ _ _⟩ λσ' q=>?_) (.cons (bK 1) (.refl _)))
 . exact λc x u=>(af.ah _ _ λe=>aq).trans u
 . apply rn
   simp;exact .done (h σ' aq)
def SA{f}(h:KF (.val (.fn (.func 141) [] [.cp (bR f) 0])) σ):ar prog m 103 [bR f] σ KF:=by
 refine S0 [] func103 ?_;simp[f103];exact .done h
def ub(w:bF):Fr:=cJ w (aB (kE w 72)) (aB (kC w 72))
def jQ(w:bF):Wz:=mq (ub w) (ub w).ao.length [] 0
def ov(w:bF)(c:Int):Int:=w.fair.ao.length+rN (aB (kC w 72)) c
def Cp(w:bF)(at_:Int)(x:RQ):Bool:=decide (x[at_.toNat]?.getD 0∈x.take w.fair.ao.length)
def wC(w:bF)(c:Int):Int:=if(jQ w).any (Cp w (ov w c)) && (jQ w).any (λx=>!Cp w (ov w c) x)then 3 else if(jQ w).any (Cp w (ov w c))then 1 else 2
def Jv  f :∀  n   way   many ,∀x∈mq f n way many,x.length=way.length+n
 | 0,way,many,x,a=>by
   have:x=way:=by simpa[mq]using a
   simp_all
 | n + 1,way,many,x,a=>by
   simp only[mq,E2]at a;obtain⟨k,_,h⟩:=a;split at h
   . have:=Jv f n _ _ x h
     grind
   . cases h
def afU(hs:m.solo=true){w}(hw:w.pq)(hO:w.Open){c}(v:c<3)(ax:bP w c<=72->0<=rN (aB (kC w 72)) c/\ov w c<(ub w).ao.length/\w.fair.ao.length<=(ub w).ao.length)(he:dR w [] [] [(c:Int)]=0)
 (N:if 72<bP w c then KF (.val (.cx [Xn 0,Xn 11])) σ else KF (.val (.cx [Xn (wC w c),Xn 0])) σ):ar prog m 42 [aT w,Xn c] σ KF:=by
 have hW:Wl [aT w,fa,fa,.sl 1 [Xn c] .exact] [aT w,Ae [],Ae [],Ae [(c:Int)]]:=E9 (.refl _) (bK 1) (bK 1) (eo 1 _ _);have h6:=hO.jo;have C:=hO.bk 72;refine S0 ZQ func42 ?_
 simp[f42];refine bp func51 rfl rfl hW (kM hs hw ap (λq=>absurd he q) λq D fb mb hk=>?_)
 have g:=hk.less (.refl mb D);apply rn;simp;refine O1 func69 (sK v ?_)
 by_cases E:72<bP w c
 . rw[wS E]at N
   simp only[E,ZC];apply rn;simp;refine dP Ax rfl zq rfl (isNil:=false) (.inr ⟨⟨_,_,rfl⟩,rfl⟩) (.inr ⟨rfl,rfl⟩) ?_;apply rn;simp[aM];exact .less g (.done N)
 . rw [wN E]at N
   simp only[E,LK];apply rn;simp;refine dP Ax rfl zq rfl (isNil:=true) (.inl ⟨rfl,rfl⟩) (.inr ⟨rfl,rfl⟩) ?_;apply rn;simp[aM];refine O1 func62 (CK.A8 h6.1 h6.2 ?_);refine aa.runN Ax [] 3 ?_;simp;refine bz.intro λeb ay=>?_
   simp
   change aa _ _ _ _ _ _ _ _ _
   refine aa.bj 10 (b:=eb) (HI w 72) (af.aj _ _ _) ap rfl ?_
   rw[cy ay];have aC:(AV.lit (.int .u8 (bh (aQ w 72))))=u8 (kC w 72):=rfl;apply rn;simp[aC];have J:=ax ac
   have b6:=rO (kC w 72);have b7:(ub w).ao.length<=6:=C.wA.jo;obtain⟨A,hA⟩:∃A:Nat,ov w c=(A:Int):=⟨(ov w c).toNat,by unfold ov at J ⊢;omega⟩
   rw[hA]at J;have U:=hA;unfold ov at U;have aE:(A:Int)<=9223372036854775807/\-9223372036854775808<=(A:Int):=ac
   have V:(aB (kC w 72)).length<1152921504606846976:=ac
   apply HJ
   . intro key
     repeat' first
      |refine⟨?_,?_⟩
      |(refine O1 func63 (nN ?_);apply pg;simp)
      |(refine O1 func102 (Jx V ?_);apply pg;simp[U,aE])
      |(refine qB.intro λab aF=>?_;simp)
     iterate 3
      refine aa.bj 11 (b:=ab) (Xn A) (af.aj _ _ _) ap rfl ?_
      rw[cy aF];refine aa.lh (λe s=>(e 2=.cp (aT w) 0/\e 6=xN fb mb w 0/\e 10=.cp (HI w 72) 0/\e 11=.cp (Xn A) 0)/\s=D) ⟨ap,rfl⟩ ?_
      exact key
   rintro ε D ⟨⟨e2,e6,er,fh⟩,rfl⟩
   apply rn;simp;refine bz.intro λi B=>?_
   simp;refine bz.intro λn o=>?_
   obtain⟨n2,n1,o⟩:=af.bd o;simp[e6,er,n1,n2,af.ah];have aL:(AV.agg [AV.lit (.int .u8 (bh (aH w 72))),AV.lit (.int .u8 (bh (aQ w 72)))])=.agg [u8 (kE w 72),u8 (kC w 72)]:=rfl;rw[aL];refine O1 func104 (CF.Jy C.hx C.hy ?_)
   change aa _ _ _ _ _ _ _ _ _
   apply rn;simp;refine O1 func103 (SA ?_);apply rn;simp
   have L:∀X Y Z T,σ.Le ((((D.set i X).set n Y).set i Z).set n T):=λX Y Z T c x hc=>by
    have f:=g c x hc;have F:c≠i:=λe=>aq
    have M:c≠n:=λe=>aq
    rw[af.ah _ _ M,af.ah _ _ F,af.ah _ _ M,af.ah _ _ F];exact f
   refine aa.lh (λe s=>(e 2=.cp (aT w) 0/\e 11=.cp (Xn A) 0/\e 12=.ref i 0/\e 13=.ref n 0/\e 48=.fn (.func 141) [] [.cp (bR (ub w)) 0])/\σ.Le s/\s i=some (.cells [T0 false])/\s n=some (.cells [T0 false])) ⟨⟨by simp[e2],by simp[fh],ap,ap,rfl⟩,L _ _ _ _,(af.ah _ _ n1).trans (af.aj _ _ _),af.aj _ _ _⟩ ?_
   have f1:∀d x,σ d=some x->d≠i:=λd x h e=>by rw[<-e,g d x h]at B;cases B
   have f2:∀d x,σ d=some x->d≠n:=λd x h e=>by rw[<-e,g d x h]at o;cases o
   clear L e2 e6 er fh B o g hk
   rintro ε s ⟨⟨e2,fh,iQ,W,aO⟩,g,B,o⟩
   refine aa.rangeFunc rfl λaW r l hr E O=>?_
   change s r=none at hr
   change s l=none at E
   have P:i≠l:=λe=>aq
   have Q:n≠l:=λe=>aq
   have r1:i≠r:=λe=>aq
   have r2:n≠r:=λe=>aq
   obtain⟨p,hp⟩:=S1 (Cp w A)
   change cQ _ _ (ε 48) _ _ _
   rw[aO];generalize a7:BC.mk _ _ _ _ _ _ _ _ _=al;refine fS func141 rfl rfl rfl (ajZ C.wA (y:=.fn (.yield l) [] []) ⟨rfl,rfl⟩ (I:=λk a=>a l=some (.loop al)/\a i=some (.cells [T0 (((jQ w).take k).any p)])/\a n=some (.cells [T0 (((jQ w).take k).any λx=>!p x)])/\∀d x,(s.set r (.raw (.deferred (some [])))) d=some x->d≠i->d≠n->a d=some x) (λk a b8 q h=>⟨h _ _ q.1,h _ _ q.2.1,h _ _ q.2.2.1,λd x f t v=>h _ _ (q.2.2.2 d x f t v)⟩) ?_ ?_ ?_)
   . rintro j hj a K ⟨b1,b2,b3,b4⟩ a8
     change j<(jQ w).length at hj
     change cQ _ _ _ [Ae (jQ w)[j]] _ _
     have b9:=Jv (ub w) _ _ _ _ (lb hj);have G:w.fair.ao.length<=(jQ w)[j].length/\A<(jQ w)[j].length:=ac
     have R:∀q:RQ->Bool,((jQ w).take (j+1)).any q=(((jQ w).take j).any q||q (jQ w)[j]):=λq=>by rw[so hj,List.any_append];simp
     obtain⟨x,hx⟩:=S1 ((jQ w)[j]);have S:p x=decide (x[A]?.getD 0∈x.take w.fair.ao.length):=by rw[hp];rfl
     rw[<-hx]at R G ⊢;subst a7;refine cQ.AM (η:=ZQ) aW func42 b1 rfl ?_;apply rn;simp[rf];refine aa.beginRound b1 rfl ?_;have bm:w.fair.ao.length<=x.length:=G.1;apply rn;simp[e2,fh,G.2];rw[kn G.2,IE]at S;refine uP Ax rfl bX rfl nM (es:=x.map Xn) (sp:=.any) (l:=0) (h:=w.fair.ao.length) ap (λcap b0=>⟨rfl,⟨⟨.i64,ap⟩,am⟩,rfl⟩) F2 ?_
     obtain⟨z,hz⟩:=S1 (x.take w.fair.ao.length);have ez:List.take w.fair.ao.length (x.map Xn)=z.map Xn:=by rw[hz,List.map_take]
     have bq:z.length<=6:=am
     rw[<-hz]at S;simp only[IB,Nat.sub_zero,ez];apply pg;simp;refine O1 func73 (nO ac ?_)
     apply pg;simp;rw[<-S];have k1:∀X,(a.set l X) i=some (.cells [T0 (((jQ w).take j).any p)]):=λX=>(af.ah _ _ P).trans b2
     have k2:∀X,(a.set l X) n=some (.cells [T0 (((jQ w).take j).any λx=>!p x)]):=λX=>(af.ah _ _ Q).trans b3
     have b5:=iQ
     have H:∀X Y Z e,e=i\/e=n->∀d x,d≠l->d≠i->d≠n->a d=some x->(((a.set l X).set e Y).set l Z) d=some x:=λX Y Z e he d x f t v h=>by rw[af.ah _ _ f,af.ah _ _ ac,af.ah _ _ f];exact h
     have a9:∀d x,(((s.set r (.raw (.deferred (some [])))).set l x) d=none)->d≠l/\d≠i/\d≠n:=λd x h=>by
      refine⟨λe=>?_,λe=>?_,λe=>?_⟩
      . rw[e,af.aj]at h;cases h
      . rw[e,af.ah _ _ P,af.ah _ _ r1,B]at h;cases h
      . rw[e,af.ah _ _ Q,af.ah _ _ r2,o]at h;cases h
     have ad:∀d x,(s.set r (.raw (.deferred (some [])))) d=some x->d≠l:=λd x h e=>by rw[e,af.ah _ _ (vj O),E]at h;cases h
     cases av:p x
     . apply rn
       simp[W,aM,k2];refine⟨rfl,rfl,_,(af.ah _ _ (vj Q)).trans (af.aj _ _ _),?_⟩;refine a8 _ ⟨af.aj _ _ _,(af.ah _ _ P).trans ((af.ah _ _ n1).trans ((k1 _).trans (by rw[R p,av,LO]))),(af.ah _ _ Q).trans ((af.aj _ _ _).trans am),λd y f t v=>H _ _ _ _ (.inr rfl) d y (ad d y f) t v (b4 d y f t v)⟩ λd y f t=>?_
       obtain⟨F,M,m3⟩:=a9 d _ f;exact H _ _ _ _ (.inr rfl) d y F M m3 t
     . apply rn
       simp[iQ,aM,k1];refine⟨rfl,rfl,_,(af.ah _ _ (vj P)).trans (af.aj _ _ _),?_⟩;refine a8 _ ⟨af.aj _ _ _,(af.ah _ _ P).trans ((af.aj _ _ _).trans am),(af.ah _ _ Q).trans ((af.ah _ _ n2).trans ((k2 _).trans (by rw[R λx=>!p x,av,Bool.not_true,LO]))),λd y f t v=>H _ _ _ _ (.inl rfl) d y (ad d y f) t v (b4 d y f t v)⟩ λd y f t=>?_
       obtain⟨F,M,m3⟩:=a9 d _ f;exact H _ _ _ _ (.inl rfl) d y F M m3 t
   . exact⟨af.aj _ _ _,(af.ah _ _ P).trans ((af.ah _ _ r1).trans aq),(af.ah _ _ Q).trans ((af.ah _ _ r2).trans aq),λd x f t v=>(af.ah _ _ λe=>by rw[e,af.ah _ _ (vj O),E]at f;cases f).trans f⟩
   . rintro a ⟨b1,b2,b3,b4⟩
     change a i=some (.cells [T0 (((jQ w).take (jQ w).length).any p)])at b2
     change a n=some (.cells [T0 (((jQ w).take (jQ w).length).any _)])at b3
     rw[zH]at b2 b3;subst a7;refine⟨_,b1,ap,rfl,?_⟩
     have u:∀d x,d≠l->a d=some x->(a.del l) d=some x:=λd x f t=>by simp only[af.del,f,LK];exact t
     have c1:=u _ _ P b2;have c2:=u _ _ Q b3;have cr:=u _ _ O (b4 _ _ (af.aj _ _ _) (vj r1) (vj r2));have hv:wC w c=if(jQ w).any p && (jQ w).any (λx=>!p x)then 3 else if(jQ w).any p then 1 else 2:=by rw[hp,<-hA];rfl
     rw[hv]at N;cases ha:(jQ w).any p<;>cases hb:(jQ w).any (λx=>!p x)<;>rw[ha]at c1 N<;>rw[hb]at c2 N
     all_goals
      apply rn;simp[iQ,W,c1,c2,xj,aM];refine⟨cr,.less (λd x h=>?_) (.done (by simpa using N))⟩
      have q1:=g d x h;have F:d≠r:=λe=>by rw[e,hr]at q1;cases q1
      have M:d≠l:=λe=>by rw[e,E]at q1;cases q1
      rw[af.ah _ _ F];exact u _ _ M (b4 d x ((af.ah _ _ F).trans q1) (f1 d x h) (f2 d x h))
end
section
open Go.bu Go.Conc
def afG  way   x k :ou (way++[x]) k=ou way k++if x=k then[(way.length:Int)]else[]:=by
 unfold ou;rw[zR,II,iu]
 have a:yr (way++[x]) k (way.length:Int)=decide (x=k):=by
  unfold yr
  grind
 rw[a];congr 1
 . refine Ff λy b=>?_
   have:=fE b;unfold yr
   grind
 simp_all
def BU  way   k :ou way k=aN way k:=by
 have key:∀n (w:RQ),w.length=n->ou w k=aN w k:=λn=>by
  induction n with
  |zero=>intro w h;rw[MM.1 h];rfl
  | succ n b=>
    intro w h;have a:w≠[]:=λe=>aq
    rw[<-List.dropLast_concat_getLast a,afG,ba,b _ aq]
 simp_all
def Jz{f}(h:f.Good):∀  n   way  (many:Nat),way.length+n=f.ao.length->aJ way=many->(many:Int)<=f.bc->(∀x∈way,0<=x)->(∀k ,k<many->iS f (aN way k)=0)->∀x,x∈mq f n way many↔x∈jL n way/\ew f x=true
 | 0,way,many,o,g,i,p,q,x=>by
   rw[mq,jL,sN];constructor
   . rintro rfl
     refine⟨rfl,?_⟩;unfold ew
     grind
   simp_all
 | n + 1,way,many,o,g,i,p,q,x=>by
   have r:=h.bc
   have step:∀k:Nat,k<many+1->(k:Int)<f.bc->iS f (aN (way++[(k:Int)]) k)=0->(x∈mq f n (way++[(k:Int)]) (max many (k+1))↔x∈jL n (way++[(k:Int)])/\ew f x=true):=λk l u v=>by
    refine Jz h n _ _ F2 (by rw[aS,g];omega) ac (λy w=>?_) (λj z=>?_) x
    . grind
    . by_cases e:j=k
      . simp_all
      . rw[ba,wN ac,xx];grind
   rw[mq,jL,E2,E2,g];constructor
   . rintro⟨k,b,c⟩
     have b:=wL.1 b;split at c
     . next a=>
       have a:=FE a;rw[BU]at a;have:=(step k ac ac a).1 c;exact⟨⟨k,wL.2 ac,this.1⟩,this.2⟩
     . cases c
   . rintro⟨⟨k,b,c⟩,m⟩
     have b:=wL.1 b;obtain⟨t,rfl,A⟩:=ir n _ x c;have l:=bO (way++[(k:Int)]) t;have d:=m;unfold ew at d;rw[vc,wK]at d;rw[aS,g]at l;have s:(k:Int)<f.bc:=ac
     have a:iS f (aN (way++[(k:Int)]) k)=0:=pR h (t:=t) F2 (by rw[aS];omega) (by rw[ba,wS rfl];simp) m;refine⟨k,wL.2 ac,?_⟩;unfold Ju;rw[BU,a,wS ap]
     simp_all
def ajW{f}(a:f.Good)  x :x∈mq f f.ao.length [] 0↔x∈aG f []:=by
 rw[Jz a f.ao.length [] 0 ap rfl (by have:=a.bc;omega) ap (λk b=>ac),<-ib a,LB];have:=jv f.ao.length 0;rw[show cu 0=[[]]from rfl,IC,Ml]at this;rw[this]
section
variable{w:bF}
def ajT(a:w.Valid)  x :x∈jQ w↔x∈aG (bf w 72) []:=by
 have e:ub w=bf w 72:=by unfold ub;rw[a.kE,a.kC]
 unfold jQ;rw[e];exact ajW (dO a 72) x
def SB(a:w.Valid){i:Int}(h:0<=i/\i<w.fair.ao.length):0<=(aU w.fair i).hour/\(aU w.fair i).hour<=72:=(lf ((Fr.wA a.oX.fits a.oX.Jc).pS _ (dL h))).1
def Gg(a:w.Valid){h}(b:72<=h):aH w h=fT w.fair.ao.length:=List.filter_eq_self.2 λi q=>decide_eq_true (by have:=SB a (fE q);omega)
def SC{n:Nat}{i:Int}(h:0<=i/\i<n):i∈fT n:=CR.2 ⟨i.toNat,wL.2 ac,ac⟩
def ys  v :∀  l   i ,v∈l->ow i l v=i+l.idxOf v
 |[],_,h=>by cases h
 | a ::l,i,h=>by
   rw[ow,List.idxOf_cons];by_cases e:a=v
   . simp[e]
   . have:(a==v)=false:=am
     rw[wN e,this,ys v l (i+1) ((Cv.1 h).resolve_left λq=>e q.symm)];simp;omega
def JA(a:w.Valid){c}(b:c<w.ak.length){h}:(c:Int)∈aQ w h↔bP w c<=72/\bP w c<=h:=by
 unfold aQ pC;rw[LB,vc,wK,wK,FV]
 grind
end
end
section
open Go.bu Go.Conc
variable{m:Mo}{σ:af}{KF:YC}
def Shr(d:m.solo=true)(f:σ 0=some (.stay [fW])){w}(g:w.cA){c}(b:bg w [] [] [c]≠0)(h:KF (.val (.cx [Xn 0,Xn 0,Xn (bg w [] [] [c])])) σ):ar prog m 40 [aT w,Xn c] σ KF:=by
 have i:Wl [aT w,fa,fa,.sl 1 [Xn c] .exact] [aT w,Ae [],Ae [],Ae [c]]:=E9 (.refl _) (bK 1) (bK 1) (eo 1 _ _);have key:=λ(a:YC) j=>j9 (KF:=a) d f g    ⟨ap,ap,ap⟩ b j
 generalize bg w [] [] [c]=e at b h key;have l:(e==0)=false:=am
 have k:(e !=0)=true:=am
 refine S0 [] func40 ?_;simp;refine bp func51 rfl rfl i (key _ ?_);apply rn;simp[k];exact .done h
def ajf(d:m.solo=true)(f:σ 0=some (.stay [fW])){w}(g:w.cA){c}(b:bg w [] [] [c]≠0)(h:KF (.val (.cx [Xn 0,Xn (bg w [] [] [c])])) σ):ar prog m 42 [aT w,Xn c] σ KF:=by
 have i:Wl [aT w,fa,fa,.sl 1 [Xn c] .exact] [aT w,Ae [],Ae [],Ae [c]]:=E9 (.refl _) (bK 1) (bK 1) (eo 1 _ _);have key:=λ(a:YC) j=>j9 (KF:=a) d f g    ⟨ap,ap,ap⟩ b j
 generalize bg w [] [] [c]=e at b h key;have l:(e==0)=false:=am
 have k:(e !=0)=true:=am
 refine S0 ZQ func42 ?_;simp;refine bp func51 rfl rfl i (key _ ?_);apply rn;simp[k];exact .done h
def rP{f}(b:f.Good){w}(a:w∈aG f []):w.length=f.ao.length/\∀x∈w,0<=x/\x<f.bc:=by
 refine⟨?_,jY f [] _ _ _ _ ap w a⟩;have:=qS f [] _ _ _ _ w a
 grind
abbrev cW(E C:RQ)(f:Fr)(W:Wz):AV:=.agg (Ae E::Ae C::(vK f++[Cu W]))
def nP{E C:RQ}{f:Fr}{W:Wz}{x y:Nat}(P:W.length<1000000000)(Q:E.length<=1000)(J:y<=1000)(K:∀w∈W,x<w.length/\E.length+y<w.length)(h:KF (.val (Xn ((W.filter (bo (x:Int) ((E.length:Int)+y))).length:Int))) σ):ar prog m 101 [cW E C f W,Xn x,Xn y] σ KF:=by
 refine S0 Dx func101 ?_
 simp[f101];refine aa.loop W.length (λi=>MY σ λε=>ε 1=Xn x/\ε 2=Xn y/\ε 3=.cp (cW E C f W) 0/\ε 7=Xn (((W.take i).filter (bo (x:Int) ((E.length:Int)+y))).length:Int)/\ε 8=Xn i) aq ?_
 rintro R i _ S ⟨ε,rfl,r,l,e,j,g⟩ H
 apply rn;simp[e,g];refine aM.intro (λb=>?_) (λb=>?_)<;>(try simp[-Int.not_lt,-Int.not_le,-Nat.not_lt,-Nat.not_le]at b)<;>(try simp[r,e,j,g,b])
 . obtain⟨v,o⟩:=S1 (W[i])
   obtain⟨t,k⟩:=K v (by rw[o];exact lb b)
   have L:W[i]?=some v:=am
   obtain⟨z,u⟩:=S1 (E.length+y);have A:(E.length:Int)+y=z:=ac
   rw[<-u]at k;obtain⟨B,c⟩:∃p,v[x]?=some p:=⟨_,kn t⟩;obtain⟨D,d⟩:∃p,v[z]?=some p:=⟨_,kn k⟩;have F:((W.take i).filter (bo (x:Int) ((E.length:Int)+y))).length<=i:=am
   have M:bo (x:Int) ((E.length:Int)+y) v=decide (B=D):=by rw[A];simp[bo,sg,c,d]
   have a:(W.take (i+1)).filter (bo (x:Int) ((E.length:Int)+y))=(W.take i).filter (bo (x:Int) ((E.length:Int)+y))++if bo (x:Int) ((E.length:Int)+y) v=true then[v]else[]:=by grind [List.take_succ_eq_append_getElem]
   rw[M]at a;have f1:=M1 ((z:Int))
   obtain⟨n,I⟩:=S1 (((W.take i).filter (bo (x:Int) ((E.length:Int)+y))).length);rw[<-I]at F j;simp only[<-o]
   by_cases q:B=D
   . subst q
     simp at a;have G:((W.take (i+1)).filter (bo (x:Int) ((E.length:Int)+y))).length=n+1:=am
     simp[l,e,g,b,c,d,A,f1.1,f1.2,o.symm];apply rn;simp[j,g];refine⟨ac,ac,H _ b ⟨_,rfl,by simp[r],by simp[l],by simp[e],by rw[G];simp,ap⟩⟩
   . have N:(B==D)=false:=am
     simp[q]at a;simp[l,e,g,b,c,d,A,f1.1,f1.2,N,o.symm];apply rn;simp[g];refine⟨ac,H _ b ⟨_,rfl,by simp[r],by simp[l],by simp[e],by rw[a,<-I];simp[j],ap⟩⟩
 . have O:i=W.length:=ac
   subst O;rw[zH]at j;exact .done am
def jA(E:RQ)(W:Wz)(x y:Nat):Nat:=(W.filter (bo (x:Int) ((E.length:Int)+y))).length
end
section
open Go Go.bu Go.Conc
variable{m:Mo}{σ:af}{KF:YC}
namespace BK
abbrev L5:YA:=[⟨8,.take [0,1,3,4,5,6,7,8,11,12] false (.both 2 (MU [9,10,13] .done) (MU [9] (.take [2] true (MU [10,13] .done))))⟩,⟨15,.take [0,1,3,4,5,6,7,8,11,12] false (.both 2 (MU [9,10,13] .done) (MU [9] (.take [2] true (MU [10,13] .done))))⟩]
abbrev A9:We:=[.lit (.slice none 0 0),.lit (.slice none 0 0),.lit (.slice none 0 0),.lit (.slice none 0 0),Xn 0,Xn 0,Xn 0,Xn 0,.lit (.slice none 0 0)]
abbrev rQ(w:bF)(a b c d:AV):We:=[a,b,c,Cu w.fair.roads,Xn w.fair.bs,Xn w.fair.fN,Xn w.fair.dN,Xn w.fair.bc,d]
def kQ{w:bF}(hv:w.Valid){t:Int}{E' C':RQ}{f':Fr}{W':Wz}(c7:W'.length<1000000000)(ho:E'.length=(aH w t).length->C'.length=(aQ w t).length->0<W'.length->W'=aG (bf w t) [])
 (h:KF (.val (cW (aH w t) (aQ w t) (bf w t) (aG (bf w t) []))) σ):ar prog m 93 [aT w,Xn t,cW E' C' f' W'] σ KF:=by
 have h6:=hv.jo;refine S0 L5 func93 ?_
 simp[f93];refine bz.intro λrb b5=>?_
 simp;refine bz.intro λtb g=>?_
 obtain⟨n1,n2,b9⟩:=af.bd g;obtain⟨s0,xO⟩:=S1 (σ.set rb (.cells A9));have U:s0=σ.set rb (.cells [.lit (.slice none 0 0),.lit (.slice none 0 0),.lit (.slice none 0 0),.lit (.slice none 0 0),Xn 0,Xn 0,Xn 0,Xn 0,.lit (.slice none 0 0)]):=xO;rw[<-U]at g;simp only[<-U];have O:s0 rb=some (.cells A9):=by rw[xO];exact af.aj _ _ _
 have bm:σ.Le s0:=by rw[xO];exact af.bZ (af.le_refl _) b5
 clear xO U;simp[aI];refine aa.loop w.fair.ao.length (λk s=>∃ε d D j,s=⟨ε,d,[],.no⟩/\(ε 1=Xn t/\ε 3=.cp (aT w) 0/\ε 5=.cp (cW E' C' f' W') 0/\ε 6=.ref rb 0/\ε 7=.ref tb 0/\ε 8=Xn k)/\d tb=some (.cells (rQ w D .nil j .nil))/\kR s0 d [(D,1,((fT k).filter (pE w t)).map Xn),(j,6,(((fT k).filter (pE w t)).map (aU w.fair)).map bn)]) ?_ ?_
 . refine⟨_,_,.nil,.nil,rfl,⟨ap,ap,ap,ap,ap,ap⟩,af.aj _ _ _,?_⟩
   refine⟨af.bZ (af.le_refl _) g,λt q=>?_,?_⟩
   . simp at q
     rcases q with rfl|rfl<;>exact(Tok.nil _ _).beside g (by simp[bG])
   . simp[bG]
 rintro c0 k _ hk ⟨ε,d,D,j,rfl,⟨T,K,V,X,F,e8⟩,P,a⟩ ih
 rcases za k w.fair.ao.length with g1|g1
 . apply rn
   have z1:(k:Int)<w.fair.ao.length:=ac
   obtain⟨x,hx⟩:=S1 (w.fair.ao[k]);have R:w.fair.ao[k]?=some x:=by rw[hx];exact kn g1
   have eN:aU w.fair k=x:=by simp[aU,sg,R]
   simp[T,K,e8,z1,R];have G:=iu k (pE w t);obtain⟨B,Y⟩:=S1 ((fT k).filter (pE w t))
   have bq:B.length<=6:=by rw[Y];refine FL (Rp _ _) ?_;rw[iF];omega
   rw[<-Y]at a G;have br:=a.head.cells;have bw:=(a.perm (List.Perm.swap _ _ _)).head.cells
   by_cases g2:x.hour<=t
   . have hp:pE w t k=true:=by unfold pE;rw[eN];simpa using g2
     rw[hp,wS rfl]at G;simp[F,e8,g2,P];refine aP Ax rfl rfl rfl bX rfl bX rfl nM be (by simp only[zD,Ds,Dv];omega) (σ0:=d.off D) (es:=B.map Xn) (xs:=[Xn k]) (by simpa using a.head.here.1) (.inr ⟨_,by simp;rfl⟩) λL σ2 aL=>?_
     obtain⟨H,k2⟩:=a.app aL;have al:=H.head.cells;have r5:=k2 _ _ P;apply rn;simp[K,F,e8,r5,al.1,al.2,aI];obtain⟨n,u⟩:=S1 (σ2.set tb (.cells (rQ w L .nil j .nil)));have p5:n tb=some (.cells (rQ w L .nil j .nil)):=by rw[u];exact af.aj _ _ _
     have Z:kR s0 n [(L,1,B.map Xn++[Xn k]),(j,6,(B.map (aU w.fair)).map bn)]:=H.BV g ⟨_,r5⟩ λy hy=>by rw[u];exact af.ah _ _ hy
     simp only[<-u];simp[F,R,p5];refine⟨?_,?_⟩
     all_goals
      have a7:=Z.perm (List.Perm.swap (j,6,(B.map (aU w.fair)).map bn) _ _);refine aP Ax rfl rfl rfl kG rfl kG rfl vb be (by simp only[zD,Ds,Dv];omega) (σ0:=n.off j) (es:=(B.map (aU w.fair)).map bn) (xs:=[bn x]) (by simpa using a7.head.here.1) (.inr ⟨_,by simp;rfl⟩) λM a8 aO=>?_
      obtain⟨I,k4⟩:=a7.app aO;have J:=I.head.cells;have x5:=k4 _ _ p5;apply pg;simp[x5,J.1,J.2,aI];apply rn;simp[e8];refine⟨ac,ih _ g1 ⟨_,a8.set tb (.cells (rQ w L .nil M .nil)),L,M,rfl,⟨by simp[T],by simp[K],by simp[V],by simp[X],by simp[F],ap⟩,af.aj _ _ _,?_⟩⟩
      have:=(I.perm (List.Perm.swap (L,1,B.map Xn++[Xn k]) _ _)).BV (σ2:=a8.set tb (.cells (rQ w L .nil M .nil))) g ⟨_,x5⟩ λy hy=>af.ah _ _ hy
      rw[G,DL,DL,DL];simpa[eN]using this
   . have hp:pE w t k=false:=by unfold pE;rw[eN];simpa using g2
     rw[hp]at G;simp only[zA,LK,xx]at G;simp[e8,g2];refine⟨ac,ih _ g1 ⟨_,d,D,j,rfl,⟨by simp[T],by simp[K],by simp[V],by simp[X],by simp[F],ap⟩,P,by rw[G];exact a⟩⟩
 . have ek : k=w.fair.ao.length:=ac
   subst ek;obtain⟨E,hE⟩:=S1 (aH w t);rw[show(fT w.fair.ao.length).filter (pE w t)=E from hE.symm]at a
   have c8:E.length<=w.fair.ao.length:=by rw[hE];exact eP w t
   have br:=a.head.cells;apply rn;simp[K,e8];refine aa.loop w.ak.length (λk s=>∃ε d aC j,s=⟨ε,d,[],.no⟩/\(ε 1=Xn t/\ε 3=.cp (aT w) 0/\ε 5=.cp (cW E' C' f' W') 0/\ε 6=.ref rb 0/\ε 7=.ref tb 0/\ε 9=Xn k)/\d tb=some (.cells (rQ w D aC j .nil))/\kR s0 d [(aC,1,((fT k).filter (pC w t)).map Xn),(j,6,(E.map (aU w.fair)++((fT k).filter (pC w t)).map λc=>(fU w c).lost).map bn),(D,1,E.map Xn)]) ?_ ?_
   . refine⟨_,d,.nil,j,rfl,⟨by simp[T],by simp[K],by simp[V],by simp[X],by simp[F],ap⟩,P,?_⟩
     refine⟨a.1,λt q=>?_,?_⟩
     . simp at q
       rcases q with rfl|rfl|rfl
       . exact⟨a.1,.inl ⟨rfl,rfl⟩⟩
       . have:=(a.perm (List.Perm.swap _ _ _)).head
         simpa[fT]using this
       . exact a.head
     . have:=a.2.2
       simp[bG]at this ⊢;intro b bx bA;exact this b bA bx
   clear T K V X F e8 P a ε d j
   rintro c1 k _ c9 ⟨ε,d,aC,j,rfl,⟨T,K,V,X,F,e9⟩,P,a⟩ ab
   rcases za k w.ak.length with g1|g1
   . apply rn
     have z1:(k:Int)<w.ak.length:=ac
     obtain⟨x,hx⟩:=S1 (w.ak[k]);have R:w.ak[k]?=some x:=by rw[hx];exact kn g1
     have eN:fU w k=x:=by simp[fU,sg,R]
     have ca:=hv.jS.2 _ (lb g1);obtain⟨Q,av⟩:=uf hv g1;simp[K,e9,z1];refine O1 func71 (W7.qT (by have:=hv.YV;omega) hv.way hv.aX g1 ac ?_)
     obtain⟨o,bB⟩:=S1 ((sL w w.ak[k] w.aX.toNat).foldl iv none);rw[<-bB]at Q av ⊢;have G:=iu k (pC w t);obtain⟨B,Y⟩:=S1 ((fT k).filter (pC w t))
     have bq:B.length<=k:=by rw[Y];refine FL (Rp _ _) ?_;rw[iF];omega
     rw[<-Y]at a G;have cb:=a.head.cells;have bw:=(a.perm (List.Perm.swap _ _ _)).head.cells;cases o with
     | none=>
       have hp:pC w t k=false:=by
        unfold pC
        by_cases q:bP w k<=72
        . obtain⟨r,_,hr,_⟩:=Q q;cases hr
        . simp[q]
       rw[hp]at G;simp only[zA,LK,xx]at G;rw[show qw none=.agg [Ae [],Xn 0]from rfl,show np none=false from rfl]
       refine aa.runN Ax [] 6 ?_;simp;refine bz.intro λdb aW=>?_
       simp[aI]
       change aa _ _ _ _ _ _ _ _ _
       refine aa.bj 10 (b:=db) (.agg [Ae [],Xn 0]) (af.aj _ _ _) ap rfl ?_
       rw[cy aW];apply rn;simp[e9];refine⟨ac,ab _ g1 ⟨_,d,aC,j,rfl,⟨by simp[T],by simp[K],by simp[V],by simp[X],by simp[F],ap⟩,P,by rw[G];exact a⟩⟩
     | some r=>
       rw[show qw (some r)=lN r from rfl,show np (some r)=decide (r.2<=72)from rfl]
       refine aa.runN Ax [] 6 ?_;simp;refine bz.intro λdb aW=>?_
       simp[aI]
       change aa _ _ _ _ _ _ _ _ _
       refine aa.bj 10 (b:=db) (lN r) (af.aj _ _ _) ap rfl ?_
       rw[cy aW]
       by_cases g2:r.2<=72/\r.2<=t
       . have hc:bP w k<=72:=by
          by_cases q:bP w k<=72
          . exact q
          . have:=av ac r rfl;omega
         have hp:pC w t k=true:=by obtain⟨r',_,hr,he⟩:=Q hc;obtain rfl:=KE hr;unfold pC;simp[<-he,g2.1,g2.2]
         rw[hp,wS rfl]at G;apply rn;simp[T,F,e9,g2.1,g2.2,P];refine aP Ax rfl rfl rfl bX rfl bX rfl nM be (by simp only[zD,Ds,Dv];omega) (σ0:=d.off aC) (es:=B.map Xn) (xs:=[Xn k]) (by simpa using a.head.here.1) (.inr ⟨_,by simp;rfl⟩) λN σ2 aL=>?_
         obtain⟨H,k2⟩:=a.app aL;have ax:=H.head.cells;have r5:=k2 _ _ P;apply rn;simp[K,F,e9,r5,ax.1,ax.2,aI];obtain⟨n,u⟩:=S1 (σ2.set tb (.cells (rQ w D N j .nil)));have p5:n tb=some (.cells (rQ w D N j .nil)):=by rw[u];exact af.aj _ _ _
         have Z:kR s0 n [(N,1,B.map Xn++[Xn k]),(j,6,(E.map (aU w.fair)++B.map λc=>(fU w c).lost).map bn),(D,1,E.map Xn)]:=H.BV g ⟨_,r5⟩ λy hy=>by rw[u];exact af.ah _ _ hy
         simp only[<-u];simp[F,R,p5];refine⟨?_,?_⟩
         all_goals
          have a7:=Z.perm (List.Perm.swap (j,6,(E.map (aU w.fair)++B.map λc=>(fU w c).lost).map bn) _ _)
          refine aP Ax rfl rfl rfl kG rfl kG rfl vb be (by simp only[zD,zR,Ds,Dv];omega) (σ0:=n.off j) (es:=(E.map (aU w.fair)++B.map λc=>(fU w c).lost).map bn) (xs:=[bn x.lost]) (by simpa using a7.head.here.1) (.inr ⟨_,by simp;rfl⟩) λM a8 aO=>?_
          obtain⟨I,k4⟩:=a7.app aO;have J:=I.head.cells;have x5:=k4 _ _ p5;apply pg;simp[x5,J.1,J.2,aI];apply rn;simp[e9];refine⟨ac,ab _ g1 ⟨_,a8.set tb (.cells (rQ w D N M .nil)),N,M,rfl,⟨by simp[T],by simp[K],by simp[V],by simp[X],by simp[F],ap⟩,af.aj _ _ _,?_⟩⟩
          have:=(I.perm (List.Perm.swap (N,1,B.map Xn++[Xn k]) _ _)).BV (σ2:=a8.set tb (.cells (rQ w D N M .nil))) g ⟨_,x5⟩ λy hy=>af.ah _ _ hy
          rw[G];simpa[eN]using this
       . have hp:pC w t k=false:=by
          unfold pC
          by_cases q:bP w k<=72
          . obtain⟨r',_,hr,he⟩:=Q q
            obtain rfl:=KE hr;simp;omega
          . simp[q]
         rw[hp]at G;simp only[zA,LK,xx]at G
         by_cases g3:r.2<=72
         . have g4:¬r.2<=t:=λq=>g2 ⟨g3,q⟩
           apply rn;simp[T,e9,g3,g4];refine⟨ac,ab _ g1 ⟨_,d,aC,j,rfl,⟨by simp[T],by simp[K],by simp[V],by simp[X],by simp[F],ap⟩,P,by rw[G];exact a⟩⟩
         . apply rn
           simp[e9,g3];refine⟨ac,ab _ g1 ⟨_,d,aC,j,rfl,⟨by simp[T],by simp[K],by simp[V],by simp[X],by simp[F],ap⟩,P,by rw[G];exact a⟩⟩
   . have ek:k=w.ak.length:=ac
     subst ek;obtain⟨C,hC⟩:=S1 (aQ w t);rw[show(fT w.ak.length).filter (pC w t)=C from hC.symm]at a
     have cg:C.length<=w.ak.length:=by rw[hC];exact eQ w t
     have ad:=a.head;have b0:=(a.perm (List.Perm.swap _ _ _)).head;have S:Tok s0 d D 1 (E.map Xn):=a.2.1 (D,1,E.map Xn) ap
     have cm:=ad.cells;have b6:=b0.cells;have cr:=S.cells;rw[<-hE,<-hC]at ho h;obtain⟨f,hf⟩:=S1 (bf w t);have b3:(E.map (aU w.fair)++C.map λc=>(fU w c).lost)=f.ao:=by rw[hf,hE,hC]
     rw[<-hf]at ho h;rw[b3]at a b0;obtain⟨W,b7⟩:=S1 (aG f []);rw[<-b7]at ho h
     have b4:∀(D aC j:AV),D.W (Ae E)->aC.W (Ae C)->j.W (kg f.ao)->(AV.agg (rQ w D aC j (Cu W))).W (cW E C f W):=λD aC j h1 h2 h3=>ig rfl λi x y O q2=>by
      match i with
      |0=>cases O;cases q2;exact h1
      |1=>cases O;cases q2;exact h2
      |2=>cases O;cases q2;exact h3
      |3=>cases O;cases q2;rw[hf];exact .refl _
      |4=>cases O;cases q2;rw[hf];exact .refl _
      |5=>cases O;cases q2;rw[hf];exact .refl _
      |6=>cases O;cases q2;rw[hf];exact .refl _
      |7=>cases O;cases q2;rw[hf];exact .refl _
      |8=>cases O;cases q2;exact .refl _
      |i+9=>simp at O
     have w1:=S.W;have w2:=ad.W;have w3:=b0.W;have hg:f.Good:=by rw[hf];exact dO hv t
     have bC:Wl [AV.agg (j::zr w.fair)] [bR f]:=by rw[hf]at w3 ⊢;exact .cons (tA w3) .nil
     have b8:d rb=some (.cells A9):=S.1 _ _ O;have bE:rb≠tb:=λe=>by rw[e,g]at O;cases O
     have z1:¬(w.ak.length:Int)<w.ak.length:=ac
     have ay:∀A B:uK,σ.Le ((d.set tb A).set rb B):=λA B v z a9=>by
      have v1:v≠rb:=λe=>by rw[e,b5]at a9;cases a9
      have v2:v≠tb:=λe=>by rw[e,b9]at a9;cases a9
      rw[af.ah _ _ v1,af.ah _ _ v2];exact S.1 _ _ (bm _ _ a9)
     have x1:∀A,(d.set tb A) rb=some (.cells A9):=λA=>by rw[af.ah _ _ bE];exact b8
     have hl:∀{l:RQ},l.map Xn=[]->l.length=0:=λh=>by simpa using congrArg List.length h
     obtain⟨b1,y1⟩:∃b,((E.length:Int)==E'.length)=b:=⟨_,rfl⟩;obtain⟨b2,y2⟩:∃b,((C.length:Int)==C'.length)=b:=⟨_,rfl⟩
     by_cases g1:b1=true/\b2=true/\0<W'.length
     . obtain⟨rfl,rfl,g1⟩:=g1
       have eW:=ho (by have:=DW.1 y1;omega) (by have:=DW.1 y2;omega) g1
       have y3:(0:Int)<W'.length:=ac
       have y4:=JC.1 g1;rw[<-eW]at b4 h
       rcases S.uN with⟨rfl,lE⟩|⟨c5,rfl⟩<;>rcases ad.uN with⟨rfl,lC⟩|⟨c6,rfl⟩<;>(try simp only[hl lE,Int.natCast_zero]at y1)<;>(try simp only[hl lC,Int.natCast_zero]at y2)<;>apply rn
       all_goals
        simp[K,V,X,F,e9,P,b6.2,y1,y2,g1,aI,x1];exact .dp (b4 _ _ _ w1 w2 w3) (.less (ay _ _) (.done h))
     . have y4:b1=true->b2=true->W'=[]:=λp q=>List.eq_nil_of_length_eq_zero am
       rcases S.uN with⟨rfl,lE⟩|⟨c5,rfl⟩<;>rcases ad.uN with⟨rfl,lC⟩|⟨c6,rfl⟩<;>(try simp only[hl lE,Int.natCast_zero]at y1)<;>(try simp only[hl lC,Int.natCast_zero]at y2)<;>cases b1<;>cases b2<;>(try obtain rfl:=y4 rfl rfl)<;>apply rn
       all_goals
        simp[K,V,F,e9,P,y1,y2];refine bp func131 rfl rfl bC (zs hg ?_);rw[<-b7];apply rn;simp[X,F,P,b6.2,aI,x1];exact .dp (b4 _ _ _ w1 w2 w3) (.less (ay _ _) (.done h))
end BK
def yt(w:bF)(n bc:Int):Int:=if ij w≠0 then ij w else if cz n 0 (bc-1)=false then 3 else 0
def nu{w}(c:w.cA){n bc}(f:0<=bc/\bc<=1152921504606846976)(h:KF (.val (Xn (yt w n bc))) σ):ar prog m 54 [aT w,Xn n,Xn bc] σ KF:=by
 unfold yt at h;refine S0 [] func54 ?_;simp;refine O1 func34 (RC.jN c ?_);by_cases a:ij w=0
 . rw[wN (by simp[a])]at h
   rw[a];apply rn;simp;refine⟨ac,?_⟩;refine O1 func67 (eY ?_);apply rn;simp;refine aM.intro (λb=>?_) (λb=>?_)<;>(try simp[-Nat.not_lt]at b)<;>(try simp[b]at h)<;>(try simp)<;>(try exact .done h)
 . rw[wS a]at h
   generalize ij w=e at a h ⊢;have g:(e==0)=false:=am
   have d:(e !=0)=true:=am
   apply rn;simp[d];exact .done h
def SD{w}(a:w.cA)  c :yt w c w.ak.length=bg w [] [] [c]:=by
 unfold yt bg dR
 simp_all [cX]
def pK{w}(a:w.cA){c}(h:bg w [] [] [c]=0):w.Valid/\0<=c/\c.toNat<w.ak.length:=by
 unfold bg at h;split at h
 . next b=>
   obtain⟨d,e⟩:=cX a b;unfold dR at h;refine⟨bF.valid d e,?_⟩;by_cases q:cz c 0 ((w.ak.length:Int)-1)=true
   . have:=dJ q
     omega
   grind
 omega
abbrev Dz(w:bF)(t:Int):AV:=cW (aH w t) (aQ w t) (bf w t) (aG (bf w t) [])
def fX{w:bF}(d:w.cA){a b c:RQ}(h:bg w a b c=0):w.Valid/\dR w a b c=0:=by obtain⟨e,f,g⟩:=pr d h;exact⟨bF.valid e f,g⟩
def kh{w:bF}(a:w.Valid)(t:Int):(aG (bf w t) []).length<1000000000/\(aH w t).length<=6/\(aQ w t).length<=6/\∀v∈aG (bf w t) [],(aH w t).length+(aQ w t).length<=v.length:=by
 have d:=a.jo;have e:=eP w t;have f:=eQ w t;have b:=dO a t;refine⟨?_,ac,ac,λv c=>?_⟩
 . have:=sM b []
   omega
 . rw[(rP b c).1]
   simp
def filter_mono{α:Type}{p q:α->Bool}(l:List α)(h:∀x,p x=true->q x=true):(l.filter p).Sublist (l.filter q):=by
 have e:l.filter p=(l.filter q).filter p:=by
  rw[J4];apply Ff
  simp_all
 rw[e];exact List.filter_sublist
def yu{w:bF}{h a:Int}(e:h<=a)(c:(aH w h).length=(aH w a).length)(d:(aQ w h).length=(aQ w a).length):bf w h=bf w a:=by
 have f:aH w h=aH w a:=(filter_mono _ λx b=>by
  unfold pE at b ⊢
  grind).eq_of_length c
 have g:aQ w h=aQ w a:=(filter_mono _ λx b=>by
  unfold pC at b ⊢
  grind).eq_of_length d
 simp_all
def SE{w:bF}(a:w.Valid)(h:Int){x y:Nat}(b:x<(aH w h).length)(d:y<(aQ w h).length):jA (aH w h) (aG (bf w h) []) x y=(aG (bf w h) []).length↔fV w h (aH w h)[x] (aQ w h)[y]=1:=by
 have k:=a.jo;have l:=a.jS.1;have e:=lb b;have f:=lb d;have m:=bN e;have g:=cC f;have i:(aH w h).idxOf (aH w h)[x]=x:=(fF w h).idxOf_getElem x b;have j:(aQ w h).idxOf (aQ w h)[y]=y:=(dw w h).idxOf_getElem y d;rw[Jt a ac ac];unfold jA;rw[List.length_filter_eq_length_iff];unfold GS;rw[gN e,gO (λc q=>(bN q).2) g.1,i,j]
 simp_all
def Pk(w:bF)(c:Int)(p:Int × Int × Int):Prop:=(bg w [] [] [c]≠0/\p=(0,0,bg w [] [] [c]))\/(bg w [] [] [c]=0/\((∃h i:Nat,h<73/\i<w.fair.ao.length/\foundAt w c h i/\p=((h:Int),(i:Int),0))\/((∀h i:Nat,h<73->i<w.fair.ao.length->fV w h i c≠1)/\p=(0,0,11))))
def Pk.same{w:bF}{c:Int}{p l:Int × Int × Int}(h:Pk w c p)(m:Pk w c l):p=l:=by
 rcases h with⟨q,rfl⟩|⟨q,⟨a,i,n,g,d,rfl⟩|⟨d,rfl⟩⟩<;>rcases m with⟨o,rfl⟩|⟨o,⟨j,f,k,e,b,rfl⟩|⟨b,rfl⟩⟩
 . rfl
 . omega
 . omega
 . omega
 . rcases Nat.lt_trichotomy a j with z|rfl|z
   . exact absurd d.1 (b.2 a i (.inl z) g)
   . rcases Nat.lt_trichotomy i f with z|rfl|z
     . exact absurd d.1 (b.2 a i (.inr ⟨rfl,z⟩) g)
     . rfl
     . exact absurd b.1 (d.2 a f (.inr ⟨rfl,z⟩) e)
   . exact absurd b.1 (d.2 j f (.inl z) e)
 . exact absurd d.1 (b a i n g)
 . omega
 . exact absurd b.1 (d j f k e)
 . rfl
def SF(w:bF)(h:Int):(aH w h).Pairwise (·<·):=by
 unfold aH;refine List.Pairwise.filter _ ?_;unfold fT;rw[List.pairwise_map];refine List.pairwise_lt_range.imp λ{a b} q=>?_
 omega
def PD(w:bF)(h c:Int)(y x:Nat):Prop:=∀(a b:Nat) (d:a<(aQ w h).length) (e:b<(aH w h).length),(a<y\/a=y/\b<x) -> ¬((aQ w h)[a]=c/\jA (aH w h) (aG (bf w h) []) b a=(aG (bf w h) []).length)
def NZ{w:bF}(d:w.Valid){h c:Int}{i:Int}(hi:0<=i/\i<6)(e:0<=c/\c<3)(f:fV w h i c=1):∃(y x:Nat) (a:y<(aQ w h).length) (b:x<(aH w h).length),(aQ w h)[y]=c/\(aH w h)[x]=i/\jA (aH w h) (aG (bf w h) []) x y=(aG (bf w h) []).length:=by obtain⟨⟨g,j⟩,_⟩:=(Jt d hi e).1 f;obtain⟨x,b,ex⟩:=FG.1 g;obtain⟨y,a,k⟩:=FG.1 j;exact⟨y,x,a,b,k,ex,(SE d h b a).2 aq⟩
namespace FN
abbrev ae2:YA:=[⟨15,.take [0,2,5] false (MU [1] (.take [3,4,6,7,9,10,12] false (.both 8 (.both 11 (MV (MX 13 4)) (MU [13] (.take [14] false (MU [11] (MV [15,16]))))) (MU [13] (.take [14] false (MU [8,11] (MV [15,16])))))))⟩,⟨16,MV (MX 0 9)⟩]
def SG{w:bF}(hw:w.cA){c:Int}(h:∀p,Pk w c p->KF (.val (.cx [Xn p.1,Xn p.2.1,Xn p.2.2])) σ):ar prog m 41 [aT w,Xn c] σ KF:=by
 have ay:=hw.ak;unfold Pk at h;refine S0 ae2 func41 ?_
 simp[f41];refine O1 func54 (nu hw ⟨ac,ac⟩ ?_)
 rw[SD hw]
 by_cases q:bg w [] [] [c]=0
 . obtain ⟨H, aC,aE⟩:=pK hw q
   have c3:=H.jS.1;have h6:=H.jo;rw[q];apply rn;simp;refine bz.intro λtb T=>?_
   simp;refine aa.loop 73 (λi s=>∃ε I E C f W,s=⟨ε,σ.set tb (.cells I),[],.no⟩/\(ε 1=Xn c/\ε 2=.cp (aT w) 0/\ε 8=.ref tb 0/\ε 9=Xn i)/\I.length=9/\(∀x∈I,x.flat=true)/\(AV.agg I).W (cW E C f W)/\(W=[]\/∃t:Nat,t<i/\E=aH w t/\C=aQ w t/\W=aG (bf w t) [])/\∀(b:Nat) (B:Nat),b<i->B<w.fair.ao.length->fV w b B c≠1) ?_ ?_
   . refine⟨_,BK.A9,[],[],⟨[],[],0,0,0,0⟩,[],rfl,⟨ap,ap,ap,ap⟩,rfl,aq,ig rfl λi x y x1 x2=>?_,.inl rfl,λb B z=>ac⟩
     match i with
     |0|1|3|8=>cases x1;cases x2;exact bK 1
     |2=>cases x1;cases x2;exact bK 6
     |4|5|6|7=>cases x1;cases x2;exact .refl _
     |i+9=>cases x1
   rintro c0 i _ hi ⟨ε,I,E,C,f,W,rfl,⟨g,o,a,l⟩,U,aF,a8,V,K⟩ ih
   rcases za i 73 with g1|g1
   . have a9 : (i:Int)<=72:=ac
     obtain⟨q1,q2,q3,q4⟩:=kh H i
     have ab:W.length<1000000000:=by
      rcases V with rfl|⟨t,_,_,_,rfl⟩
      . simp
      . exact(kh H t).1
     have ad:E.length=(aH w i).length->C.length=(aQ w i).length->0<W.length->W=aG (bf w i) []:=λL M N=>by
      rcases V with rfl|⟨t,ht,rfl,rfl,rfl⟩
      . simp at N
      . rw[yu ac L M]
     have hT:I.take 9=I:=IL ac
     have hD:I.drop 9=[]:=List.drop_eq_nil_of_le ac
     apply rn;simp[o,a,l,a9,U,hT];refine bp func93 rfl rfl (.cons (.refl _) (.cons (.refl _) (.cons a8 .nil))) (BK.kQ H ab ad ?_);have al:∀x∈aH w i,0<=x/\x<w.fair.ao.length:=λx z=>bN z
     apply rn;simp[a,aI,U,hD];obtain⟨R,D⟩:=S1 (σ.set tb (.cells [Ae (aH w i),Ae (aQ w i),kg (bf w i).ao,Cu w.fair.roads,Xn w.fair.bs,Xn w.fair.fN,Xn w.fair.dN,Xn w.fair.bc,Cu (aG (bf w i) [])]));have F:R tb=some (.cells [Ae (aH w i),Ae (aQ w i),kg (bf w i).ao,Cu w.fair.roads,Xn w.fair.bs,Xn w.fair.fN,Xn w.fair.dN,Xn w.fair.bc,Cu (aG (bf w i) [])]):=by rw[D];exact af.aj _ _ _
     change aa _ _ _ _ _ _ _ ⟨_,σ.set tb _,_,_⟩ _
     rw[<-D];have X:σ.Le R:=by rw[D];exact af.bZ (af.le_refl _) T
     refine aa.loop (aQ w i).length (λk s=>∃ε,s=⟨ε,R,[],.no⟩/\(ε 1=Xn c/\ε 2=.cp (aT w) 0/\ε 8=.ref tb 0/\ε 9=Xn i)/\ε 10=Xn k/\PD w i c k 0) ⟨_,rfl,⟨by simp[g],by simp[o],by simp[a],by simp[l]⟩,ap,λY A _ _ z=>ac⟩ ?_
     clear g o a l ε
     rintro c1 k _ hk ⟨ε,rfl,⟨g,o,a,l⟩,er,d⟩ av
     rcases za k (aQ w i).length with g2|g2
     . have pL : (k:Int)<(aQ w i).length:=ac
       apply rn;simp[a,er,F,pL];refine aa.loop (aH w i).length (λx s=>∃ε,s=⟨ε,R,[],.no⟩/\(ε 1=Xn c/\ε 2=.cp (aT w) 0/\ε 8=.ref tb 0/\ε 9=Xn i/\ε 10=Xn k)/\ε 11=Xn x/\PD w i c k x) ⟨_,rfl,⟨by simp[g],by simp[o],by simp[a],by simp[l],by simp[er]⟩,ap,d⟩ ?_
       clear g o a l er d ε
       rintro c2 x _ hx ⟨ε,rfl,⟨g,o,a,l,er⟩,fh,d⟩ Z
       rcases za x (aH w i).length with g3|g3
       . have Cq : (x:Int)<(aH w i).length:=ac
         obtain⟨O,r⟩:=S1 ((aQ w i)[k])
         have a7:(O=c->jA (aH w i) (aG (bf w i) []) x k≠(aG (bf w i) []).length)->PD w i c k (x+1):=λz Y A J n ho=>by
          by_cases e:Y=k/\A=x
          . obtain⟨rfl,rfl⟩:=e
            omega
          . exact d Y A J n ac
         obtain⟨S,P⟩:=S1 ((aH w i)[x]);have aL:=al S (by rw[P];exact lb g3)
         obtain⟨j,hj⟩:∃j:Nat,(j:Int)=S:=⟨S.toNat,ac⟩
         have G:O=c->jA (aH w i) (aG (bf w i) []) x k=(aG (bf w i) []).length->foundAt w c i j:=λL M=>by
          have N:=(SE H (i:Int) g3 g2).1 M;rw[<-P,<-r,L,<-hj]at N;refine⟨N,λb B z4 z5 z6=>?_⟩
          rcases z4 with z4|⟨rfl,z4⟩
          . exact K b B z4 z5 z6
          . obtain⟨y,A,J,n,r1,r2,r3⟩:=NZ H ⟨ac,ac⟩ ac z6
            have ax:y=k:=by have a1:=(dw w b).idxOf_getElem y J;have a2:=(dw w b).idxOf_getElem k g2;rw[r1]at a1;rw[<-r,L]at a2;omega
            subst ax;refine d y A J n (.inr ⟨rfl,?_⟩) ⟨r1,r3⟩
            rcases za A x with z|z
            . exact z
            . have:(aH w b)[x]<=(aH w b)[A]:=by
               rcases Nat.lt_or_eq_of_le z with z|rfl
               . exact Int.le_of_lt (List.pairwise_iff_getElem.1 (SF w b) x A g3 n z)
               . omega
              omega
         by_cases ec:O=c
         . have b1:(O==c)=true:=by simp[ec]
           by_cases es:jA (aH w i) (aG (bf w i) []) x k=(aG (bf w i) []).length
           . have Q:(((jA (aH w i) (aG (bf w i) []) x k:Nat):Int)==((aG (bf w i) []).length:Nat))=true:=by simp[es]
             unfold jA at Q;apply rn;simp[g,a,er,fh,F,g2,Cq,<-r,b1]
             repeat' first
              |apply And.intro
              | (refine O1 func101 (nP (f:=bf w i) q1 ac ac (λv u=>⟨by have:=q4 v u;omega,by have:=q4 v u;omega⟩) ?_)
                 apply pg;simp[F,Q])
             all_goals (
              apply rn;simp[a,l,fh,g3,<-P,F];apply rn;simp;exact .less X (.done (h ((i:Int),S,0) (.inr ⟨q,.inl ⟨i,j,g1,ac,G ec es,by rw[hj]⟩⟩))))
           . have Q:(((jA (aH w i) (aG (bf w i) []) x k:Nat):Int)==((aG (bf w i) []).length:Nat))=false:=F2
             unfold jA at Q;apply rn;simp[g,a,er,fh,F,g2,Cq,<-r,b1]
             repeat' first
              |apply And.intro
              | (refine O1 func101 (nP (f:=bf w i) q1 ac ac (λv u=>⟨by have:=q4 v u;omega,by have:=q4 v u;omega⟩) ?_)
                 apply pg;simp[F,Q])
             all_goals (
              apply rn;simp[fh];exact⟨ac,Z _ g3 ⟨_,rfl,⟨by simp[g],by simp[o],by simp[a],by simp[l],by simp[er]⟩,ap,a7 λ_=>es⟩⟩)
         . have b1:(O==c)=false:=by simp[ec]
           apply rn;simp[g,a,er,fh,F,g2,Cq,<-r,b1]
           repeat' apply And.intro
           all_goals (
            apply rn;simp[fh];exact⟨ac,Z _ g3 ⟨_,rfl,⟨by simp[g],by simp[o],by simp[a],by simp[l],by simp[er]⟩,ap,a7 λz=>absurd z ec⟩⟩)
       . have ex:x=(aH w i).length:=ac
         have Cq:¬(x:Int)<(aH w i).length:=ac
         apply rn;simp[a,er,fh,F,Cq];exact⟨ac,av _ g2 ⟨_,rfl,⟨by simp[g],by simp[o],by simp[a],by simp[l]⟩,ap,λY A J n ho=>d Y A J n ac⟩⟩
     . have pL:¬(k:Int)<(aQ w i).length:=ac
       apply rn;simp[a,l,er,F,pL];refine⟨ac,?_⟩
       rw[D];refine ih _ g1 ⟨_,_,aH w i,aQ w i,bf w i,aG (bf w i) [],rfl,⟨by simp[g],by simp[o],by simp[a],ap⟩,rfl,by simp[AV.flat],.refl _,.inr ⟨i,ac,rfl,rfl,rfl⟩,λb B L M N=>?_⟩
       by_cases e:b<i
       . exact K b B e M N
       . obtain rfl:b=i:=ac
         obtain⟨y,x,J,hx,r1,r2,r3⟩:=NZ H ⟨ac,ac⟩ ac N
         exact d y x J hx ac ⟨r1,r3⟩
   . obtain rfl:i=73:=ac
     apply rn;simp[l];exact .less (af.bZ (af.le_refl _) T) (.done (h (0,0,11) (.inr ⟨q,.inr ⟨λb B L M=>K b B L M,rfl⟩⟩)))
 . generalize bg w [] [] [c]=e at q h
   have b1:(e==0)=false:=am
   have Q:(e !=0)=true:=am
   apply rn;simp[Q];exact .done (h (0,0,e) (.inl ⟨q,rfl⟩))
end FN
end
section
open Go.bu Go.Conc
variable{m:Mo}{σ:af}{KF:YC}
def FnK{w:bF}(a:w.Valid){c:Nat}(f:c<w.ak.length)(b:bP w c<=72):0<=rN (aB (kC w 72)) c/\ov w c<(ub w).ao.length/\w.fair.ao.length<=(ub w).ao.length:=by
 have d:(c:Int)∈aQ w 72:=(JA a f).2 ⟨b,b⟩;have e:ub w=bf w 72:=by unfold ub;rw[a.kE,a.kC]
 have hlen:(bf w 72).ao.length=w.fair.ao.length+(aQ w 72).length:=by rw[(nK w 72).len,zR,Gg a (FJ _),iF,zD]
 have g:rN (aQ w 72) c=(aQ w 72).idxOf (c:Int):=by unfold rN;rw[ys _ _ _ d];omega
 have:=(dE d).1;rw[e,hlen];unfold ov;rw[a.kC,g];refine⟨ac,?_,ac⟩
 push_cast;omega
end
open Go Go.bu Go.Conc
variable{m:Mo}{σ:af}{KF:YC}
def ZT(n k:Nat):Int:=if n=0 then 2 else if n=k then 1 else 3
def Xb{w:bF}(e:w.Valid){c:Nat}:wC w c=ZT ((aG (bf w 72) []).filter (Cp w (ov w c))).length (aG (bf w 72) []).length:=by
 have f:=nL e 72;obtain⟨P,g⟩:=S1 (Cp w (ov w c));obtain⟨W,d⟩:=S1 (aG (bf w 72) []);have h:∀x,x∈jQ w↔x∈W:=λx=>by rw[d];exact ajT e x
 unfold wC ZT;rw[<-g,<-d];rw[<-d]at f
 by_cases a:(W.filter P).length=0
 . rw[wS a]
   have a:=MM.1 a;rw[Hj]at a
   grind
 . rw[wN a]
   have i:(jQ w).any P=true:=aq
   by_cases b:(W.filter P).length=W.length
   . simp_all
   simp_all
def Pl(w:bF)(c:Int):Int × Int:=if bg w [] [] [c]≠0 then(0,bg w [] [] [c])else if 72<bP w c.toNat then(0,11)else(wC w c,0)
def nxM(e:m.solo=true)(f:σ 0=some (.stay [fW])){w:bF}(d:w.cA){c:Int}(h:KF (.val (.cx [Xn (Pl w c).1,Xn (Pl w c).2])) σ):ar prog m 42 [aT w,Xn c] σ KF:=by
 unfold Pl at h;by_cases q:bg w [] [] [c]=0
 . obtain⟨b,g,a⟩:=pK d q
   obtain⟨_,i⟩:=fX d q;have k:=b.jS.1;obtain⟨C,j⟩:∃C:Nat,c=C:=⟨c.toNat,ac⟩;subst j;rw[FV]at a;rw[wN (by simp[q]),FV]at h;refine afU e b.oX b.open ac (λz=>FnK b a z) i ?_
   grind
 . rw[wS q]at h
   exact ajf e f d q h
def SH(f:m.solo=true)(g:σ 0=some (.stay [fW])){w:bF}(b:w.cA){c:Int}(h:∀p,Pk w c p->KF (.val (.cx [Xn p.1,Xn p.2.1,Xn p.2.2])) σ):ar prog m 40 [aT w,Xn c] σ KF:=by
 by_cases q:bg w [] [] [c]=0
 . obtain⟨d,j,k⟩:=pK b q
   obtain⟨_,l⟩:=fX b q;have r:=d.jS.1;exact Gh f d.oX d.open ac l (λa i n o e=>h (a,i,0) (.inr ⟨q,.inl ⟨a,i,n,o,e,rfl⟩⟩)) λe=>h (0,0,11) (.inr ⟨q,.inr ⟨e,rfl⟩⟩)
 . exact Shr f g b q (h (0,0,_) (.inl ⟨q,rfl⟩))
def lpW{w:bF}(G:w.cA){c:Int}(h:KF (.val (.cx [Xn (Pl w c).1,Xn (Pl w c).2])) σ):ar prog m 43 [aT w,Xn c] σ KF:=by
 have a9:=G.ak;unfold Pl at h;refine S0 aeZ func43 ?_
 simp[f43];refine O1 func54 (nu G ⟨ac,ac⟩ ?_)
 rw[SD G]
 by_cases q:bg w [] [] [c]=0
 . obtain ⟨j,ab,p⟩:=pK G q
   have c3:=j.jS.1;have h6:=j.jo;rw[wN (by simp[q])]at h
   obtain⟨cn,rfl⟩:∃cn:Nat,c=cn:=⟨c.toNat,ac⟩
   rw[FV]at h p;rw[q];apply rn;simp
   have hW:Wl [aT w,Xn 72,AV.agg BK.A9] [aT w,Xn 72,cW [] [] ⟨[],[],0,0,0,0⟩ []]:=.cons (.refl _) (.cons (.refl _) (.cons (ig rfl λi x y H J=>by
    match i with
    |0|1|3|8=>cases H;cases J;exact bK 1
    |2=>cases H;cases J;exact bK 6
    |4|5|6|7=>cases H;cases J;exact .refl _
    |i+9=>cases H) .nil))
   refine bp func93 rfl rfl hW (BK.kQ j ap (λ_ _ q=>by simp at q) ?_)
   obtain⟨q1,q2,q3,q4⟩:=kh j 72;refine aa.runN Ax [] 2 ?_;simp;refine bz.intro λtb K=>?_
   simp[aI]
   change aa _ _ _ _ _ _ _ _ _
   refine aa.bj 7 (b:=tb) (Dz w 72) (af.aj _ _ _) ap rfl ?_
   rw[cy K];have L:(aH w 72).length=w.fair.ao.length:=by rw[Gg j (FJ _),iF]
   have r:=JA j p (h:=72);have t:=Xb j (c:=cn)
   have M:∀(k:Nat) (N:k<(aQ w 72).length),(aQ w 72)[k]=(cn:Int)->ov w cn=(w.fair.ao.length:Int)+k:=λk N z=>by
    have O:(cn:Int)∈aQ w 72:=am
    have e:rN (aQ w 72) cn=((aQ w 72).idxOf (cn:Int):Int):=by unfold rN;rw[ys _ _ _ O];omega
    unfold ov;rw[j.kC,e,<-z,(dw w 72).idxOf_getElem k N]
   unfold Dz cW;obtain⟨X,ad⟩:=S1 (vK (bf w 72));generalize aG (bf w 72) []=W at *;generalize aH w 72=E at *;generalize aQ w 72=C at *;apply rn;simp;refine aa.loop C.length (λk s=>∃ε,s=⟨ε,σ,[],.no⟩/\(ε 1=Xn cn/\ε 7=.cp (.agg (Ae E::Ae C::(vK (bf w 72)++[Cu W]))) 0)/\ε 8=Xn k/\∀(y:Nat) (P:y<C.length),y<k->C[y]≠(cn:Int)) ⟨_,rfl,⟨ap,ap⟩,ap,λy P z=>ac⟩ ?_
   rintro c0 k _ N ⟨ε,rfl,⟨n,a⟩,f,al⟩ ih
   rcases za k C.length with g1|g1
   . have g:(k:Int)<C.length:=ac
     obtain⟨u,A⟩:=S1 (C[k])
     by_cases Y:u=cn
     . have I:(u !=cn)=false:=by simp[Y]
       have hl:bP w cn<=72:=(r.1 am).1
       rw[wN ac,t,M k g1 ac]at h
       apply rn;simp[n,a,f,g1,g,<-A,I];refine aa.loop W.length (λi s=>∃ε,s=⟨ε,σ,[],.no⟩/\(ε 1=Xn cn/\ε 7=.cp (.agg (Ae E::Ae C::(vK (bf w 72)++[Cu W]))) 0/\ε 8=Xn k)/\ε 9=Xn ((W.take i).filter (Cp w ((w.fair.ao.length:Int)+k))).length/\ε 10=Xn i) ⟨_,rfl,⟨by simp[n],by simp[a],by simp[f]⟩,ap,ap⟩ ?_
       clear n a f ε
       rintro c1 i _ hi ⟨ε,rfl,⟨n,a,f⟩,o,er⟩ B
       rcases za i W.length with g2|g2
       . have pL:(i:Int)<W.length:=ac
         obtain⟨v,d⟩:=S1 (W[i]);have av:=q4 v (by rw[d];exact lb g2)
         apply rn;simp[a,er,g2,pL,<-d];refine uP Ax rfl bX rfl nM (es:=v.map Xn) (sp:=.any) (l:=0) (h:=E.length) ap (λcap D=>⟨rfl,⟨⟨.i64,ap⟩,by simp at D;omega⟩,rfl⟩) F2 ?_
         obtain⟨z,Q⟩:=S1 (v.take E.length);have ez:List.take E.length (v.map Xn)=z.map Xn:=by rw[Q,List.map_take]
         have ax:z.length<=6:=by rw[Q,HX];omega
         simp only[IB,Nat.sub_zero,ez];have f1:=M1 ((E.length:Int)+k)
         have Z:E.length+k<v.length:=ac
         have ay:(E.length:Int)+k<v.length:=ac
         have g6:0<=(E.length:Int)+k:=ac
         have g7:((E.length:Int)+k).toNat=E.length+k:=ac
         obtain⟨R,F⟩:=S1 (v[E.length+k])
         have hP:Cp w ((w.fair.ao.length:Int)+k) v=decide (R∈z):=by unfold Cp;rw[<-L,g7,kn Z,IE,<-F,Q]
         apply pg;simp;apply rn;simp[a,f,er,g2,<-d,f1.1,f1.2,Z,g6,g7,<-F];refine O1 func56 (zt ac ?_)
         rw[<-hP];have a7:(W.take i).length<=i:=List.length_take_le _ _;have a8:=Rp (Cp w ((w.fair.ao.length:Int)+k)) (W.take i);cases hp:Cp w ((w.fair.ao.length:Int)+k) v with
         | true=>
           apply pg;simp;apply rn;simp[o,er];refine⟨ac,ac,B _ g2 ⟨_,rfl,⟨by simp[n],by simp[a],by simp[f]⟩,?_,ap⟩⟩
           rw[so g2,MK,<-d];simp[hp]
         | false=>
           apply pg;simp;apply rn;simp[er];refine⟨ac,B _ g2 ⟨_,rfl,⟨by simp[n],by simp[a],by simp[f]⟩,?_,ap⟩⟩
           rw[so g2,MK,<-d];simp[hp,o]
       . have ei:i=W.length:=ac
         subst ei;rw[zH]at o;obtain⟨nn,S⟩:=S1 ((W.filter (Cp w ((w.fair.ao.length:Int)+k))).length);rw[<-S]at o h;unfold ZT at h
         by_cases T:nn=0
         . rw[wS T]at h
           subst T;apply rn;simp[a,er,o];exact .done h
         . rw[wN T]at h
           have z1:((nn:Int)==0)=false:=F2
           have z2:¬(nn:Int)=0:=ac
           by_cases U:nn=W.length
           . rw[wS U]at h
             have V:((nn:Int)==(W.length:Int))=true:=by simp[U]
             apply rn;simp[a,er,o,z1,V];exact .done h
           . rw[wN U]at h
             have V:((nn:Int)==(W.length:Int))=false:=F2
             apply rn;simp[a,er,o,z1,V];exact .done h
     . have I:(u !=cn)=true:=by simp[Y]
       apply rn;simp[n,a,f,g1,g,<-A,I];refine⟨ac,ih _ g1 ⟨_,rfl,⟨by simp[n],by simp[a]⟩,ap,λy P z=>?_⟩⟩
       grind
   . have g:¬(k:Int)<C.length:=ac
     have aC:(cn:Int)∉C:=λz=>by
      obtain⟨y,P,e⟩:=FG.1 z
      grind
     rw[wS am]at h
     apply rn;simp[a,f,g];exact .done h
 . rw[wS q]at h
   generalize bg w [] [] [c]=e at q h;have I:(e==0)=false:=am
   have b2:(e !=0)=true:=am
   apply rn;simp[b2];exact .done h

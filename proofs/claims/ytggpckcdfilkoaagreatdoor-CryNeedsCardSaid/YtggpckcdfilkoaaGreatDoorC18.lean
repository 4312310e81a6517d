import Derived.Test.YtggpckcdfilkoaaGreatDoorC17
set_option linter.all false
set_option maxHeartbeats 1000000
set_option maxRecDepth 4000
namespace Go.Proofs.YtggpckcdfilkoaaGreatDoor
open Go.Proofs.Tryz hiding f0 f1 f10
section
open Go.bu Go.Conc
def xw{α β:Type}{B}{g:α->List β}:∀(l:List α),(∀x∈l,(g x).length<=B)->(l.flatMap g).length<=l.length*B
 |[],_=>ap
 | a::l,h=>by
   rw[Mh,zR,Ds,Kj,Nat.one_mul];have c:=h a ap;have d:=xw l λx b=>h x (by simp[b])
   omega
def KT{f}(a:f.Good)  begun :∀  fuel   way   many   b ,(eu f begun fuel way many b).length<=6 ^ fuel
 |0,_,_,_=>by simp[eu]
 | fuel+1,way,many,b=>by
   refine FL (xw (B:=6 ^ fuel) _ λk _=>?_) ?_
   . split
     . simp
     split
     . exact KT a begun fuel _ _ _
     . simp
   . rw[L2,Nat.pow_succ,Jw]
     have:=a.bc;exact Nat.mul_le_mul_left _ ac
theorem sM{f}(a:f.Good)  begun :(aG f begun).length<=46656:=by refine FL (KT a begun _ _ _ _) ?_;exact KQ ac a.jo
def wV  f   begun :∀  fuel   way   many   a ,begun.length<=way.length->eu f begun fuel way many a=eu f [] fuel way many a
 |0,_,_,_,_=>rfl
 | fuel+1,way,many,a,h=>by
   unfold eu;congr 1;funext k;have b:¬(way.length<begun.length/\begun.getD way.length 0≠(k:Int)):=ac
   have c:¬(way.length<([]:RQ).length/\([]:RQ).getD way.length 0≠(k:Int)):=ap
   rw[wN b,wN c];split
   . exact wV f begun fuel _ _ _ am
   . rfl
def ait{f}(a:f.Good)(e:2<=f.ao.length):aG f []=aG f [0,0]++aG f [0,1]:=by
 obtain⟨n,b⟩:∃n,f.ao.length=n+2:=⟨f.ao.length-2,ac⟩;have g:=a.bc;have c:(min ((0:Int)+1) f.bc).toNat=1:=ac
 unfold aG;rw[b];unfold eu;rw[c];simp;by_cases d:iY f (cM 0 0)=true
 . simp  [d]
   unfold eu;have e2:(min (max (0:Int) 1+1) f.bc).toNat=1\/(min (max (0:Int) 1+1) f.bc).toNat=2:=ac
   rcases e2 with e2|e2
   . rw[e2]
     simp[wV]
   . rw[e2]
     simp[wV]
 grind
def Vu{f}(a:f.Good)(d:f.ao.length<2):aG f []≠[]:=by
 have e:=a.bc;have b:(min ((0:Int)+1) f.bc).toNat=1:=ac
 have c:iY f (cM 0 0)=true:=by
  have:aB (cM 0 0)=[0]:=v3
  unfold iY
  simp_all [Vt]
 rcases(show f.ao.length=0\/f.ao.length=1 by omega)with hn|hn
 . unfold aG;rw[hn];simp[eu]
 . unfold aG;rw[hn]
   unfold eu;rw[b];simp[c,eu]
theorem EF{f}(a:f.Good)(b:2<=f.ao.length):jl f=((aG f []).length:Int):=by
 unfold jl
 simp_all [wN,ait]
def ad3{f}(a:f.Good):0<jl f↔aG f []≠[]:=by
 by_cases b:2<=f.ao.length
 . rw[EF a b]
   cases aG f []<;>simp
 . have:=Vu a ac
   have e:jl f=1:=by unfold jl;omega
   grind
theorem lZ{α β:Type}{f g:α->List β}{l:List α}(h:∀x∈l,f x=g x):l.flatMap f=l.flatMap g:=by grind [List.map_congr_left]
def aN(w:RQ)(k:Int):RQ:=(w.zipIdx.filter λp=>decide (p.1=k)).map λp=>(p.2:Int)
def ba  w   x k :aN (w++[x]) k=aN w k++if x=k then[(w.length:Int)]else[]:=by
 unfold aN
 grind
def aZ{w k n}(h:n∈aN w k):0<=n/\n<w.length/\w.getD n.toNat 0=k:=by
 unfold aN at h
 grind
theorem aS  w   x :aJ (w++[x])=max (aJ w) (x+1):=by
 unfold aJ
 grind
def mR(t:RQ):∀n ,n<=t.foldl (λn k=>max n (k+1)) n:=by
 induction t with
 |nil=>grind
 |cons a t b=>grind
def iJ  w :0<=aJ w:=mR w 0
def afN  w   b  (hb:0<=b) (h:∀x∈w,x<b):aJ w<=b:=by
 have:∀n:Int,n<=b->w.foldl (λn k=>max n (k+1)) n<=b:=by
  induction w with
  |nil=>grind
  | cons a t c=>
    have:=h a ap
    grind
 exact this 0 hb
def Vv:∀x:Fin 64,∀n:Fin 6,(∀e∈aB (x.val:Int),e<(n.val:Int))->aB (cM (x.val:Int) (n.val:Int))=aB (x.val:Int)++[(n.val:Int)]:=v3
theorem l8{x}{n:Nat}(b:0<=x/\x<64)(a:n<6)(h:∀e∈aB x,e<n):aB (cM x n)=aB x++[(n:Int)]:=by
 have:=Vv ⟨x.toNat,ac⟩ ⟨n,a⟩
 grind
end
section
open Go.bu Go.Conc
variable{m:Mo}{σ:af}{KF:YC}
def abn(w:RQ)  i   h :aJ (w.take (i+1))=max (aJ (w.take i)) (w[i]+1):=by rw[so h,aS]
def Ya{l:RQ}(i:l.length<1152921504606846976)(hb:∀x∈l,-1<=x/\x<=1000)(h:KF (.val (Xn (aJ l))) σ):ar prog m 197 [Ae l] σ KF:=by
 refine S0 [] func197 ?_;simp[f197];refine aa.loop l.length (λk=>MY σ λε=>ε 0=Ae l/\ε 3=Xn (aJ (l.take k))/\ε 4=Xn k) ⟨_,rfl,ap,by simp[aJ],ap⟩ ?_;rintro j k _ n ⟨ε,rfl,b,a,c⟩ f;rcases za k l.length with g1|g1
 . have g:(k:Int)<l.length:=ac
   have o:=hb _ (lb g1);have f1:=M1 ((k:Int)+1)
   have e:=M1 (l[k]+1)
   apply rn;simp[b,a,c,g1,f1.1,f1.2,e.1,e.2];refine f _ g1 ⟨_,rfl,by simp[b,a,c],?_,ap⟩;rw[abn _ _ g1];simp[b,a,c];split<;>omega
 . have d:k=l.length:=ac
   subst d;rw[zH]at a;apply rn;simp[b,a,c];exact .done h
def Ah(w:RQ)  k   i   h :aN (w.take (i+1)) k=aN (w.take i) k++if w[i]=k then[(i:Int)]else[]:=by rw[so h,ba,HX,Nat.min_eq_left ac]
def B9  w   k :(aN w k).length<=w.length:=by unfold aN;rw[zD];refine FL (Rp _ _) ?_;simp
def Vw{w:RQ}{k:Int}(r:w.length<1000000)(h:KF (.val (Ae (aN w k))) σ):ar prog m 199 [Ae w,Xn k] σ KF:=by
 refine S0 [] func199 ?_;simp[f199];refine aa.loop w.length (λi s=>∃ε f,s=⟨ε,f,[],.no⟩/\ε 0=Ae w/\ε 1=Xn k/\ε 6=Xn i/\Tok σ f (ε 5) 1 ((aN (w.take i) k).map Xn)) ⟨_,σ,rfl,ap,ap,ap,by simpa[aN]using Tok.nil σ 1⟩ ?_;rintro t i _ u ⟨ε,f,rfl,c,d,e,b⟩ o;have a:=b.cells;rcases za i w.length with g1|g1
 . have p:(i:Int)<w.length:=ac
   have f1:=M1 ((i:Int)+1)
   apply rn;simp[c,d,e,a.1,a.2,g1];refine aM.intro (λg=>?_) (λg=>?_)<;>(try simp[-Int.not_lt,-Int.not_le,-Nat.not_lt,-Nat.not_le]at g)<;>(try simp[c,d,e,a.1,a.2,g])
   . have j:=B9 (w.take i) k
     rw[HX]at j;refine aP Ax rfl rfl rfl bX rfl bX rfl nM be F2 (σ0:=σ) (es:=(aN (w.take i) k).map Xn) (xs:=[Xn i]) (by simpa using b) (.inr ⟨_,rfl⟩) λv q l=>?_
     apply rn;simp[c,d,e,a.1,a.2,f1.1,f1.2];refine o _ g1 ⟨_,_,rfl,by simp[c,d,e,a.1,a.2],by simp[c,d,e,a.1,a.2],ap,?_⟩;rw[Ah _ _ _ g1,wS g,DL];simpa using l
   . simp[c,d,e,a.1,a.2,f1.1,f1.2]
     refine o _ g1 ⟨_,_,rfl,by simp[c,d,e,a.1,a.2],by simp[c,d,e,a.1,a.2],ap,?_⟩;rw[Ah _ _ _ g1,wN g,xx];simpa using b
 . have n:i=w.length:=ac
   subst n;rw[zH]at b;apply rn;simp[c,d,e];exact .less b.1 (.dp b.W (.done h))
end
section
open Go.bu Go.Conc
def nI  k :∀(w:RQ)  n ,(((w.zipIdx n).filter λp=>decide (p.1=k)).map λp=>(p.2:Int)).Pairwise (·<·)/\∀x∈(((w.zipIdx n).filter λp=>decide (p.1=k)).map λp=>(p.2:Int)),(n:Int)<=x
 |[],n=>ap
 | a ::w,n=>by
   have b:=nI k w (n+1);rw[List.zipIdx_cons,List.filter_cons];split
   . rw[LM]
     refine⟨KD.2 ⟨λx c=>?_,b.1⟩,λx c=>?_⟩
     . grind
     grind
   grind
def qR:∀(m:Nat) (s:RQ),s.Nodup->(∀x∈s,0<=x/\x<m)->s.length<=m
 | 0,s,_,h=>by
   cases s with
   |nil=>simp_all
   |cons a s=>have:=h a ap;omega
 | m+1,s,b,h=>by
   have c:=qR m (s.erase (m:Int)) (b.erase _) λx d=>am
   grind
def Fr.Good.Jc{f}(h:f.Good):check f=0:=by
 have c:=h.fr;have d:=h.to;have e:=h.le;have g:=h.dN;have i:=h.bc;have j:=h.jo;have a:(cz f.bs 0 3 && cz f.fN 0 3)=true:=by simp[cz];omega
 have b:(cz f.dN 1 6 && cz f.bc 1 6)=true:=by simp[cz];omega
 unfold Go.Proofs.YtggpckcdfilkoaaGreatDoor.check;rw[wN (by simp[h.HH]),a,wN ap,wN ac,b,wN ap,wN ac]
 exact vz h.pS
theorem GP  lt   x :∀r ,(cI lt x r).Perm (x::r)
 |[]=>List.Perm.refl _
 | y::r=>by
   unfold cI;split
   . exact((GP lt x r).cons y).trans am
   grind
def aiC  lt   l :(gX lt l).Perm l:=by
 have key:∀(l r:RQ),(l.foldl (λr x=>cI lt x r) r).Perm (l++r):=by
  intro l;induction l with
  |nil=>grind
  |cons a l b=>grind [GP]
 simpa[gX]using key l []
def jM  f   l :(aV f l).Perm l:=(List.reverse_perm _).trans (aiC _ _)
def Ov(f:Fr)(n:vU):Fr:={f with ao:=f.ao++[n]}
end
section
open Go.bu Go.Conc
variable{m:Mo}{σ:af}{KF:YC}
structure Way where
 a:Int
 b:Int
 bJ:Int
 bs:Int
 fN:Int
 deriving DecidableEq
structure Az where
 lost:vU
 town:Int
 hour:Int
 deriving DecidableEq
structure bF where
 fair:Fr
 aX:Int
 ways:List Way
 ak:List Az
 deriving DecidableEq
abbrev fG(x:Way):AV:=.agg [Xn x.a,Xn x.b,Xn x.bJ,Xn x.bs,Xn x.fN]
abbrev cK(c:Az):AV:=.agg [Xn c.lost.hour,Xn c.lost.place,Xn c.lost.di,Ae c.lost.marks,Xn c.lost.bY,Xn c.lost.ma,Xn c.town,Xn c.hour]
abbrev rW(l:List Way):AV:=.sl 5 (l.map fG) .any
abbrev kr(l:List Az):AV:=.sl 8 (l.map cK) .any
abbrev xP(w:bF):We:=[kg w.fair.ao,Cu w.fair.roads,Xn w.fair.bs,Xn w.fair.fN,Xn w.fair.dN,Xn w.fair.bc,Xn w.aX,rW w.ways,kr w.ak]
abbrev aT(w:bF):AV:=.agg (xP w)
abbrev Yb(b mb:Nat)(w:bF)(a c d:AV)(hole:ZB)(o:Nat):AV:=.kp b [kg w.fair.ao,Cu w.fair.roads,Xn w.fair.bs,Xn w.fair.fN,Xn w.fair.dN,Xn w.fair.bc,Xn w.aX,rW w.ways,kr w.ak,.lit (.int .i32 0),.lit (.int .u32 0),a,c,d,.map mb] hole o
def uv(aX:Int)(x:Way):Prop:=(0<=x.a/\x.a<aX)/\(0<=x.b/\x.b<aX)/\(1<=x.bJ/\x.bJ<=12)/\(0<=x.bs/\x.bs<=72)/\0<=x.fN/\x.fN<=72
def js(h:Int)(x:Way):Int:=if h<x.bs then x.bs else h
def AA(h a b:Int)(x:Way)(best:Int):Int:=if(x.a≠a\/x.b≠b)/\(x.a≠b\/x.b≠a)then best else if js h x<=x.fN then(if js h x+x.bJ<best then js h x+x.bJ else best)else best
def fj(l:List Way)(h a b:Int):Int:=l.foldl (λc x=>AA h a b x c) 1048576
def aas{h a b best x}(c:1<=x.bJ/\x.bJ<=12)(d:0<=h)(hb:0<=best/\best<=1048576):0<=AA h a b x best/\AA h a b x best<=1048576:=by
 have:0<=js h x:=by unfold js;omega
 unfold AA;omega
def uw{l h a b}(d:∀x∈l,1<=x.bJ/\x.bJ<=12)(e:0<=h):0<=fj l h a b/\fj l h a b<=1048576:=by
 have key:∀(l:List Way) (c:Int),(∀x∈l,1<=x.bJ/\x.bJ<=12)->(0<=c/\c<=1048576)->0<=l.foldl (λc x=>AA h a b x c) c/\l.foldl (λc x=>AA h a b x c) c<=1048576:=λl=>by
  induction l with
  |nil=>grind
  |cons x l f=>simp_all [aas]
 exact key l _ d ⟨ac,ac⟩
def cy{σ:af}{d x}(h:σ d=none):(σ.set d x).del d=σ:=by
 funext c;by_cases e:c=d
 . subst e;simp[af.del,h]
 . simp[af.set,af.del,e]
def JU{fb mb w D E F hole h a b}(Q:∀i∈hole,9<=i)(R:w.ways.length<1152921504606846976)(y:∀x∈w.ways,uv w.aX x)(G:0<=h/\h<=1048576)(H:KF (.val (Xn (fj w.ways h a b))) σ):ar prog m 72 [Yb fb mb w D E F hole 0,Xn h,Xn a,Xn b] σ KF:=by
 have I:7∉hole:=am
 refine S0 [] func72 ?_
 simp[f72,I];apply rn;simp;refine aa.loop w.ways.length (λk=>MY σ λε=>ε 1=Xn h/\ε 2=Xn a/\ε 3=Xn b/\ε 9=Xn (fj (w.ways.take k) h a b)/\ε 17=rW w.ways/\ε 18=Xn w.ways.length/\ε 19=Xn k) ⟨_,rfl,by simp[fj]⟩ ?_
 rintro S k _ T ⟨ε,rfl,o,q,r,t,c,f,g⟩ u
 refine aa.runN Ax [] 17 ?_;simp[f,g];apply aM.intro<;>intro j<;>simp at j<;>simp[t,c,g,j]
 . refine bz.intro λd hd=>?_
   simp
   change aa _ _ _ _ _ _ _ _ _
   refine aa.bj 11 (b:=d) (fG w.ways[k]) (af.aj _ _ _) ap rfl ?_
   rw[cy hd];obtain⟨⟨U,V⟩,⟨W,X⟩,⟨Y,Z⟩,⟨x7,x8⟩,x9,J⟩:=y _ (lb j);have K:=uw (l:=w.ways.take k) (h:=h) (a:=a) (b:=b) (λx L=>(y x (P1 L)).2.2.1) G.1
   have v:fj (w.ways.take (k+1)) h a b=AA h a b w.ways[k] (fj (w.ways.take k) h a b):=by
    unfold fj
    grind [List.take_succ_eq_append_getElem]
   obtain⟨M,z⟩:∃p,(w.ways[k].a !=a)=p:=⟨_,rfl⟩;obtain⟨N,A⟩:∃p,(w.ways[k].b !=b)=p:=⟨_,rfl⟩;obtain⟨O,B⟩:∃p,(w.ways[k].a !=b)=p:=⟨_,rfl⟩;obtain⟨P,C⟩:∃p,(w.ways[k].b !=a)=p:=⟨_,rfl⟩;cases M<;>cases N<;>cases O<;>cases P
   all_goals
    apply rn;simp[o,q,r,g,z,A,B,C]
   all_goals simp at z A B C
   all_goals try refine⟨ac,u _ j ⟨_,rfl,?_⟩⟩
   all_goals try
    simp[o,q,r,t,c,f];rw[v,AA,wS ac]
   all_goals
    rw[show(if h<w.ways[k].bs then w.ways[k].bs else h)=js h w.ways[k]from rfl]
    have f0:0<=js h w.ways[k]/\js h w.ways[k]<=1048576:=by unfold js;split<;>omega
    refine aM.intro (λn=>?_) (λn=>?_)<;>(try simp[-Int.not_lt,-Int.not_le]at n)<;>(try simp[t,g,n])
    . have f1:=M1 (js h w.ways[k]+w.ways[k].bJ)
      simp[f1.1,f1.2];refine⟨ac,u _ j ⟨_,rfl,?_⟩⟩
      simp[o,q,r,c,f];rw[v];exact (show AA h a b w.ways[k] (fj (w.ways.take k) h a b)=_ by rw[AA,wN ac,wS n]).symm
    . refine⟨ac,u _ j ⟨_,rfl,?_⟩⟩
      simp[o,q,r,t,c,f];rw[v,AA,wN ac]
      simp[n]
 . have e:k=w.ways.length:=ac
   subst e;rw[zH];exact .done H
def nD(l:List Way)(a b:Nat)(t:RQ):RQ:=if t.getD a 0<1048576 then t.set b (if fj l (t.getD a 0) a b<t.getD b 0 then fj l (t.getD a 0) a b else t.getD b 0)else t
def Ai(l:List Way)(n a:Nat)(t:RQ):RQ:=(List.range n).foldl (λt b=>nD l a b t) t
def pass(l:List Way)(n:Nat)(t:RQ):RQ:=(List.range n).foldl (λt a=>Ai l n a t) t
def gF(l:List Way)(n:Nat):Nat->RQ->RQ
 |0,t=>t
 |k+1,t=>if pass l n t=t then t else gF l n k (pass l n t)
def yF(t:RQ):Nat:=(t.foldl (·+·) 0).toNat
def begun(town hour:Int):RQ:=[1048576,1048576,1048576,1048576].set town.toNat hour
def lr(l:List Way)(n:Nat)(town hour:Int):RQ:=gF l n (yF (begun town hour)+1) (begun town hour)
def pD{α:Type}(P:RQ->Prop)  f  (a:∀t x,P t->P (f t x)):∀(l:List α)  t ,P t->P (l.foldl f t)
 |[],_,h=>h
 |x::l,t,h=>pD P f a l _ (a t x h)
def CO(t:RQ):Prop:=t.length=4/\∀i,0<=t.getD i 0/\t.getD i 0<=1048576
def wW{t:RQ}{b i v}:(t.set b v).getD i 0=if i=b/\b<t.length then v else t.getD i 0:=am
def CO.to{l}(c:∀x∈l,1<=x.bJ/\x.bJ<=12){a b t}(h:CO t):CO (nD l a b t):=by
 unfold nD;split
 . refine⟨by rw[KU];exact h.1,λi=>?_⟩
   rw[wW];split
   . have:=uw  (a:=a) (b:=b) c (h.2 a).1
     split
     . omega
     . exact h.2 b
   . exact h.2 i
 omega
def CO.from{l}(b:∀x∈l,1<=x.bJ/\x.bJ<=12){n a t}(h:CO t):CO (Ai l n a t):=pD CO _ (λ_ _ h=>h.to b) _ _ h
def CO.pass{l:List Way}(a:∀x∈l,1<=x.bJ/\x.bJ<=12){n:Nat}{t:RQ}(h:CO t):CO (pass l n t):=pD CO _ (λ_ _ h=>h.from a) _ _ h
def nE(a t:RQ):Prop:=a.length=t.length/\∀i,a.getD i 0<=t.getD i 0
theorem nE.trans{a b c}(h:nE a b)(d:nE b c):nE a c:=⟨h.1.trans d.1,λi=>LL (h.2 i) (d.2 i)⟩
theorem GQ  l   a b   t :nE (nD l a b t) t:=by
 unfold nD;split
 . refine⟨KU,λi=>?_⟩
   grind
 . exact⟨rfl,λi=>FJ _⟩
theorem Ca  l   n a   t :nE (Ai l n a t) t:=pD _ _ (λu b h=>(GQ l a b u).trans h) _ _ ⟨rfl,ac⟩
def qa  l   n   t :nE (pass l n t) t:=pD _ _ (λu a h=>(Ca l n a u).trans h) _ _ ⟨rfl,ac⟩
def CP{a t}(h:nE a t)(c:CO a)(b:CO t)(d:a≠t):yF a<yF t:=by
 obtain⟨e,g⟩:=c;obtain⟨f,i⟩:=b
 match a,t,e,f with
 | [j,k,l,m],[n,o,p,q],_,_=>
   have r:=h.2 0;have s:=h.2 1;have u:=h.2 2;have v:=h.2 3;unfold yF
   grind
def vC{l}(a:∀x∈l,1<=x.bJ/\x.bJ<=12){n}:∀  k   t ,CO t->yF t<k->gF l n k t=gF l n (yF t+1) t
 |0,t,_,h=>ac
 | k+1,t,b,h=>by
   show(if pass l n t=t then t else gF l n k _)=if pass l n t=t then t else gF l n _ _;split
   . rfl
   . next c=>have d:=CP (qa l n t) (b.pass a) b c;rw[vC a k _ (b.pass a) ac,vC a _ _ (b.pass a) d]
 termination_by k=>k
def aeF{l}(a:∀x∈l,1<=x.bJ/\x.bJ<=12){n t}(b:CO t):gF l n (yF t+1) t=if pass l n t=t then t else gF l n (yF (pass l n t)+1) (pass l n t):=by
 show(if pass l n t=t then t else gF l n _ _)=_;split
 . rfl
 . next c=>exact vC a _ _ (b.pass a) (CP (qa l n t) (b.pass a) b c)
theorem xH{town hour}(a:0<=hour/\hour<=72):CO (begun town hour):=by
 refine⟨by simp[begun],λi=>?_⟩;unfold begun;rw[wW];split
 . omega
 . match i with
   |0=>simp
   |1=>simp
   |2=>simp
   |3=>simp
   |i+4=>simp
def th{l}(a:∀x∈l,1<=x.bJ/\x.bJ<=12){n}:∀  k   t ,CO t->CO (gF l n k t)
 |0,_,h=>h
 | k+1,t,h=>by
   unfold gF;split
   . exact h
   . exact th a k _ (h.pass a)
def afA{l}(e:∀x∈l,1<=x.bJ/\x.bJ<=12){n town hour}(f:0<=hour/\hour<=72):∃a b c d,lr l n town hour=[a,b,c,d]:=by
 have:=(th e (n:=n) (yF (begun town hour)+1) _ (xH (town:=town) f)).1;unfold lr
 match gF l n _ _,this with
 |[a,b,c,d],_=>grind
def adO:Y7 prog 211 3:=⟨s8,s8,s8⟩
def W3b{fb mb w U V W hole town hour}(hh:∀i∈hole,9<=i)(hl:w.ways.length<1152921504606846976)(hw:∀x∈w.ways,uv w.aX x)(hn:1<=w.aX/\w.aX<=4)(ht:0<=town/\town<w.aX)(h0:0<=hour/\hour<=72)
 (hK:∀σ',σ.Le σ'->KF (.val (.agg ((lr w.ways w.aX.toNat town hour).map Xn))) σ'):ar prog m 136 [Yb fb mb w U V W hole 0,Xn town,Xn hour] σ KF:=by
 have n6:6∉hole:=am
 refine ar.start Ax [6,7,9] adl 3 func136 rfl rfl (by rfl) s8 ?_
 simp[f136];refine bz.intro λr hr=>?_
 simp;refine bz.intro λd hd=>?_
 obtain⟨n1,n2,hd⟩:=af.bd hd;simp;have b4:town<4:=ac
 have b5:town.toNat<4:=ac
 have b6:town<=3:=ac
 refine aa.yD ?_;refine aa.run Ax [6,7,9] ?_;simp;refine aa.again s8 ?_
 refine aa.run Ax [6,7,9] ?_;simp;refine aa.again s8 ?_
 refine aa.run Ax [6,7,9] ?_;simp;refine aa.again s8 ?_
 refine aa.run Ax [6,7,9] ?_;simp;refine aa.again s8 ?_
 refine aa.runN Ax [6,7,9] 16 ?_;simp[ht.1,b4,b5,b6]
 change aa _ _ _ _ _ _ _ _ _
 obtain⟨X,J⟩:=S1 (begun town hour);have hc:([Xn 1048576,Xn 1048576,Xn 1048576,Xn 1048576]:We).set town.toNat (Xn hour)=X.map Xn:=by rw[J];simp[begun,LH]
 rw[hc];have a7:CO X:=J ▸ xH h0;have N:∀x∈w.ways,1<=x.bJ/\x.bJ<=12:=λx hx=>(hw x hx).2.2.1
 refine aa.lower (λa s=>∃ε t,s=⟨ε,(σ.set r (.cells [Xn 0,Xn 0,Xn 0,Xn 0])).set d (.cells (t.map Xn)),[],.no⟩/\ε 0=Yb fb mb w U V W hole 0/\ε 6=.ref r 0/\ε 7=.ref d 0/\CO t/\yF t=a/\gF w.ways w.aX.toNat (yF t+1) t=lr w.ways w.aX.toNat town hour) (yF X) ⟨_,X,rfl,ap,ap,ap,a7,rfl,by rw[J];rfl⟩ ?_
 rintro a _ ⟨ε,t,rfl,E,F,g,Y,rfl,I⟩ ih
 obtain⟨h,l,p,y,rfl⟩:∃h l p y,t=[h,l,p,y]:=by
  match t,Y.1 with
  |[h,l,p,y],_=>grind
 refine aa.runN Ax [6,7,9] 5 ?_;simp[g];refine bz.intro λo Z=>?_
 obtain⟨m1,m2,Z⟩:=af.bd Z;obtain⟨m3,m4,Z⟩:=af.bd Z;simp
 change aa _ _ _ _ _ _ _ _ _
 refine aa.bj 9 (b:=o) (.agg [Xn h,Xn l,Xn p,Xn y]) (af.aj _ _ _) ap rfl ?_
 rw[cy ac]
 refine aa.run Ax [6,7,9] ?_;simp[E,n6];refine aa.loop w.aX.toNat (λk s=>∃ε u,s=⟨ε,(σ.set r (.cells [Xn 0,Xn 0,Xn 0,Xn 0])).set d (.cells (u.map Xn)),[],.no⟩/\ε 0=Yb fb mb w U V W hole 0/\ε 6=.ref r 0/\ε 7=.ref d 0/\ε 9=.cp (.agg [Xn h,Xn l,Xn p,Xn y]) 0/\ε 26=Xn w.aX/\ε 27=Xn k/\CO u/\u=(List.range k).foldl (λt a=>Ai w.ways w.aX.toNat a t) [h,l,p,y]) ⟨_,[h,l,p,y],rfl,by simp[E],by simp[F],by simp[g],ap,ap,ap,Y,rfl⟩ ?_
 rintro cc k _ hk ⟨ε,u,rfl,E,F,g,M,z,f,hU,hu⟩ a8
 refine aa.runN Ax [6,7] 17 ?_;simp[z,f];apply aM.intro<;>intro g1<;>simp at g1<;>simp[E,g,M,f,g1]
 . change aa _ _ _ _ _ _ _ _ _
   refine aa.run Ax [6,7,9] ?_;simp[n6];refine aa.loop w.aX.toNat (λj s=>∃ε v,s=⟨ε,(σ.set r (.cells [Xn 0,Xn 0,Xn 0,Xn 0])).set d (.cells (v.map Xn)),[],.no⟩/\ε 0=Yb fb mb w U V W hole 0/\ε 6=.ref r 0/\ε 7=.ref d 0/\ε 9=.cp (.agg [Xn h,Xn l,Xn p,Xn y]) 0/\ε 10=Xn k/\ε 26=Xn w.aX/\ε 27=Xn k/\ε 34=Xn w.aX/\ε 35=Xn j/\CO v/\v=(List.range j).foldl (λt b=>nD w.ways k b t) u) ⟨_,u,rfl,by simp[E],by simp[F],by simp[g],by simp[M],ap,by simp[z],by simp[f],ap,ap,hU,rfl⟩ ?_
   rintro cc j _ hj ⟨ε,v,rfl,E,F,g,M,er,z,f,K,G,H,hv⟩ O
   refine aa.runN Ax [6,7] 17 ?_;simp[K,G];apply aM.intro<;>intro g2<;>simp at g2<;>simp[er,f,G,g2]
   . have k4:k<4:=ac
     have j4:j<4:=ac
     have k5:k<v.length:=by rw[H.1];omega
     have j5:j<v.length:=by rw[H.1];omega
     have L:v.getD k 0=v[k]:=by simp[k5]
     have a9:v.getD j 0=v[j]:=by simp[j5]
     have i4:(k:Int)<4:=ac
     have l4:(j:Int)<4:=ac
     have j3:j<=3:=ac
     refine aa.runN Ax [6,7] 5 ?_;simp[g,H.1,k4,i4];apply aM.intro<;>intro g3<;>simp at g3<;>(try simp[g3])
     . change aa _ _ _ _ _ _ _ _ _
       refine aa.run Ax [6,7] ?_;simp[E,g,er,H.1,k4,j4,i4,l4];have P:=H.2 k;rw[L]at P;have Q:(v.map Xn).set j (Xn (if fj w.ways v[k] k j<v[j]then fj w.ways v[k] k j else v[j]))=(nD w.ways k j v).map Xn:=by rw[nD,L,a9,wS g3,LH]
       refine⟨?_,?_,?_⟩
       all_goals
        refine O1 func72 (JU hh hl hw P ?_);refine aR.go Ax [6,7] ?_;simp[H.1,j4,j3];rw[Q];refine aa.run Ax [6,7] ?_;simp[G];refine⟨ac,O _ ac ⟨_,nD w.ways k j v,rfl,?_,?_,?_,?_,?_,?_,?_,?_,?_,H.to N,?_⟩⟩
        rotate_right
        . rw[zU,ET,<-hv];rfl
        all_goals simp[E,F,g,M,er,z,f,K]
     . change aa _ _ _ _ _ _ _ _ _
       refine aa.run Ax [6,7] ?_;simp[G];refine⟨ac,O _ ac ⟨_,v,rfl,?_,?_,?_,?_,?_,?_,?_,?_,?_,H,?_⟩⟩
       rotate_right
       . rw[zU,ET,<-hv]
         show v=nD w.ways k j v;rw[nD,L,wN ac]
       all_goals simp[E,F,g,M,er,z,f,K]
   . have ej:j=w.aX.toNat:=ac
     subst ej;refine⟨ac,a8 _ ac ⟨_,v,rfl,?_,?_,?_,?_,?_,?_,H,?_⟩⟩
     rotate_right
     . rw[zU,ET,<-hu]
       exact hv
     all_goals simp[E,F,g,M,z]
 . have ek:k=w.aX.toNat:=ac
   subst ek
   obtain⟨A,B,C,D,rfl⟩:∃A B C D,u=[A,B,C,D]:=by
    match u,hU.1 with
    |[A,B,C,D],_=>exact⟨A,B,C,D,rfl⟩
   have R:=aeF N (n:=w.aX.toNat) Y;rw[show pass w.ways w.aX.toNat [h,l,p,y]=[A,B,C,D]from hu.symm]at R
   refine⟨ap,?_⟩
   refine agi Ax adO nM rfl rfl (a:=A) (b:=B) (c:=C) (d:=D) (a':=h) (b':=l) (c':=p) (d':=y) rfl ap ap ?_
   cases e:(A==h && (B==l && (C==p && D==y)))
   . have S:¬([A,B,C,D]=[h,l,p,y]):=λq=>by simp at q;simp[q]at e
     rw[wN S,I]at R;refine aa.runN Ax [6,7] 2 ?_;simp
     change aa _ _ _ _ _ _ _ _ _
     refine aa.goto rfl s8 ?_
     refine aa.runN Ax [6,7,9] 2 ?_;simp;refine ih (yF [A,B,C,D]) _ (CP (hu.symm ▸ qa w.ways w.aX.toNat [h,l,p,y]) hU Y S) ⟨_,[A,B,C,D],rfl,?_,?_,?_,hU,rfl,R.symm⟩<;>simp[E,F,g]
   . simp at e
     obtain⟨rfl,rfl,rfl,rfl⟩:=e;rw[wS rfl,I]at R;refine aa.run Ax [6,7,9] ?_;simp[F,g,n2,af.ah];refine .done ?_;have:=hK _ (af.bZ (b:=r) (x:=.cells [Xn A,Xn B,Xn C,Xn D]) (af.bZ (b:=d) (x:=.cells [Xn A,Xn B,Xn C,Xn D]) (af.bZ (b:=r) (x:=.cells [Xn 0,Xn 0,Xn 0,Xn 0]) (af.le_refl σ) hr) hd) hr);rw[R]at this;exact this
def im{a lo hi}(h:KF (.val (T0 (cz a lo hi))) σ):ar prog m 76 [Xn a,Xn lo,Xn hi] σ KF:=by
 refine S0 [] func76 ?_;unfold cz at h;by_cases g:lo<=a
 . simp[g]
   refine .done ?_
   grind
 . simp[g]
   refine .done ?_
   grind
def nN{x}(h:KF (.val (Ae (aB x))) σ):ar prog m 63 [u8 x] σ KF:=by
 refine S0 [] func63 ?_;simp[f63];refine aa.loop 6 (λk s=>∃ε b,s=⟨ε,b,[],.no⟩/\ε 0=u8 x/\ε 5=Xn k/\Tok σ b (ε 3) 1 ((((List.range k).map λn:Nat=>(n:Int)).filter λn=>kU x n).map Xn)) ⟨_,_,rfl,ap,ap,.nil σ 1⟩ ?_;rintro l k _ o ⟨ε,b,rfl,d,c,a⟩ f;rcases za k 6 with g1|g1
 . have e:(k:Int)<6:=ac
   have p:(((List.range (k+1)).map λn:Nat=>(n:Int)).filter λn=>kU x n)=(((List.range k).map λn:Nat=>(n:Int)).filter λn=>kU x n)++if kU x k then[(k:Int)]else[]:=by grind [List.range_succ]
   apply rn;simp[d,c,e,Br];have g:kU x k=(KG (x.fdiv (2 ^ min k IntKind.u8.bits)) 1==1):=by simp[kU]
   rw[<-g];cases hb:kU x k
   . simp[c]
     refine⟨ac,f _ g1 ⟨_,_,rfl,by simp[d],ap,?_⟩⟩
     simp_all
   . simp
     refine aP Ax rfl rfl rfl bX rfl bX rfl nM be am (σ0:=σ) (es:=(((List.range k).map λn:Nat=>(n:Int)).filter λn=>kU x n).map Xn)  aq (.inr ⟨_,rfl⟩) λq i j=>?_
     apply rn;simp[c];refine⟨ac,f _ g1 ⟨_,_,rfl,by simp[d],ap,?_⟩⟩
     simp_all
 . have:k=6:=ac
   subst this;apply rn;simp[c];exact .dp a.W (.less a.1 (.done h))
abbrev fT(n:Nat):RQ:=(List.range n).map λn:Nat=>(n:Int)
def xu{n}(j:n<=1000)(h:KF (.val (Ae (fT n))) σ):ar prog m 92 [Xn n] σ KF:=by
 refine S0 [] func92 ?_;simp;refine aa.loop n (λk s=>∃ε b,s=⟨ε,b,[],.no⟩/\ε 5=Xn n/\ε 6=Xn k/\Tok σ b (ε 3) 1 ((fT k).map Xn)) ⟨_,_,rfl,ap,ap,.nil σ 1⟩ ?_;rintro l k _ o ⟨ε,b,rfl,c,d,a⟩ g;rcases za k n with g1|g1
 . have e:(k:Int)<n:=ac
   apply rn;simp[c,d,e];refine aP Ax rfl rfl rfl bX rfl bX rfl nM be am (σ0:=σ) (es:=(fT k).map Xn)  aq (.inr ⟨_,rfl⟩) λp i f=>?_
   apply rn;simp[d];refine⟨ac,g _ g1 ⟨_,_,rfl,by simp[c],ap,?_⟩⟩;rw[show fT _=fT k++[(k:Int)]by unfold fT;rw[zU,DL];rfl,DL];exact f
 . have:k=n:=ac
   subst this;apply rn;simp[c,d];exact .dp a.W (.less a.1 (.done h))
def Vx(h:KF (.val (.agg [u8 1,u8 2,u8 4])) σ):ar prog m 118 [] σ KF:=by
 refine ar.ME Ax [] [] 3 0 func118 rfl rfl (by rfl) s8 ?_;simp;refine bz.intro λc a=>?_
 refine aa.runN Ax [] 3 ?_;refine aa.op rfl (cP rfl) ap am (wT Ax rfl ac8 rfl P7  ap rfl ?_);apply rn;simp;refine .less ?_ (.done h)
 grind [af.bZ,af.le_refl]
def BKU{n}{t:Nat}(a:t=if n=1 then 150 else if n=3 then 305 else 223)(h:KF (.val (.pH t (.agg []))) σ):ar prog m 184 [Xn n] σ KF:=by
 subst a;refine S0 [] func184 ?_;by_cases g:n=1
 . subst g
   simp;exact .done h
 . by_cases b:n=3
   . subst b
     simp;exact .done h
   . have c:(n==1)=false:=am
     have d:(n==3)=false:=am
     simp[c,d];refine .done ?_
     grind
abbrev Aj(l:List Az):List vU:=l.map (·.lost)
def Vy{l}(p:l.length<=1000)(h:KF (.val (kg (Aj l))) σ):ar prog m 81 [kr l] σ KF:=by
 refine S0 [] func81 ?_;simp[f81];refine aa.loop l.length (λk s=>∃ε c,s=⟨ε,c,[],.no⟩/\ε 6=kr l/\ε 7=Xn l.length/\ε 8=Xn k/\Tok σ c (ε 3) 6 ((Aj (l.take k)).map bn)) ⟨_,_,rfl,ap,ap,ap,.nil σ 6⟩ ?_;rintro q k _ r ⟨ε,c,rfl,j,e,f,a⟩ n;rcases za k l.length with g1|g1
 . have g:(k:Int)<l.length:=ac
   refine aa.runN Ax [] 17 ?_;simp[j,e,f,g1,g];refine bz.intro λd hd=>?_
   simp;refine aa.runN Ax [] 1 ?_;simp;refine aa.bj 5 (b:=d) (cK l[k]) (af.aj _ _ _) ap rfl ?_;rw[cy hd];apply rn;simp;refine aP Ax rfl rfl rfl kG rfl kG rfl vb be am (σ0:=σ) (es:=(Aj (l.take k)).map bn)  aq (.inr ⟨_,rfl⟩) λt o i=>?_
   apply rn;simp[f];refine⟨ac,n _ g1 ⟨_,_,rfl,by simp[j],by simp[e],ap,?_⟩⟩;rw[show(Aj _).map bn=(Aj (l.take k)).map bn++[bn l[k].lost]by unfold Aj;rw[so g1,DL,DL];rfl];exact i
 . have:k=l.length:=ac
   subst this;apply rn;simp[e,f];rw[zH]at a;exact .dp a.W (.less a.1 (.done h))
def ajd{l}(f:l.length<=1000)(h:∀a σ',Tok σ σ' a 6 (l.map bn)->KF (.val a) σ'):ar prog m 127 [kg l] σ KF:=by
 refine S0 [] func127 ?_;simp;refine uQ (es:=l.map bn) (sp:=.any) (kk:=6) Ax rfl kG rfl rfl ap (.inl rfl) (λb=>?_) ?_
 . have:l=[]:=aq
   subst this;apply rn;simp;exact .done (h _ _ (.nil σ 6))
 . have c:(BinOp.eql==BinOp.neq)=false:=rfl
   apply rn;simp[c];refine aP Ax rfl rfl rfl kG rfl kG rfl vb be am  (es:=[])  ⟨af.le_refl _,aq⟩ (.inr ⟨_,rfl⟩) λg d e=>?_
   apply rn;simp;exact .done am
def KW{f l}(s:f.ao.length+l.length<=1000)(h:KF (.val (bR {f with ao:=f.ao++l})) σ):ar prog m 80 [bR f,kg l] σ KF:=by
 refine ar.start Ax [2] [] 2 func80 rfl rfl (by rfl) s8 ?_;simp;refine bz.intro λb hb=>?_
 simp;refine bz.intro λd hd=>?_
 obtain⟨j,i,hd⟩:=af.bd hd;simp[i,af.ah];refine O1 func127 (ajd ac λa k n=>?_);refine aa.run Ax [2] ?_;simp;refine aP Ax rfl rfl rfl kG rfl kG rfl vb be am   n (.inr ⟨_,rfl⟩) λt g e=>?_
 rw[<-List.map_append]at e;generalize f.ao++l=L at h e;refine aa.Fs 9  (by simpa using e.W) ?_;have o:g b=some (.cells (vK f)):=e.1 _ _ (by simp[i,af.ah]);have p:g d=some (.cells [.lit (.slice none 0 0),.lit (.slice none 0 0),Xn 0,Xn 0,Xn 0,Xn 0]):=e.1 _ _ ap;refine aa.run Ax [2] ?_;simp[o,p,j,af.ah];refine .less (λc x u=>?_) (.done h);have q:c≠b:=am;have r:c≠d:=am;rw[af.ah _ _ r,af.ah _ _ q];exact e.1 _ _ (by grind [af.ah])
def yG(h:KF (.val (Xn 0)) σ):ar prog m 74 [.lit .nilIface] σ KF:=by
 refine S0 [] func74 ?_;simp;refine bz.intro λb hb=>?_
 simp;refine O1 func123 (YT ?_);apply rn;simp;exact .less (by grind [af.le_refl,af.bZ]) (.done h)
def tD{f}(a:f.Fits)(b:check f=0)(h:KF (.val (.lit .nilIface)) σ):ar prog m 75 [bR f] σ KF:=by
 refine S0 [] func75 ?_;simp;refine O1 func124 (Ew a ?_);apply rn;simp[b];exact .done h
def sD(t:Int)(x:Way):Int:=if cz x.a 0 (t-1)=false then 3 else if cz x.b 0 (t-1)=false then 3 else if x.a=x.b then 8 else if cz x.bJ 1 12=false then 1 else if cz x.bs 0 72=false then 1 else if cz x.fN 0 72=false then 1 else if x.bs>x.fN then 5 else 0
def Ak{x t}(i:0<=t/\t<=100)(h:KF (.val (Xn (sD t x))) σ):ar prog m 77 [fG x,Xn t] σ KF:=by
 unfold sD at h;refine S0 [] func77 ?_;simp[f77];refine⟨ac,?_⟩;refine O1 func76 (im ?_);apply rn;simp;refine xj.intro (λa=>?_) (λa=>?_)<;>(try simp at a)<;>(try simp[a]at h)<;>(try simp[a])<;>(try exact .done h);refine⟨ac,?_⟩;refine O1 func76 (im ?_);apply rn;simp;refine aM.intro (λb=>?_) (λb=>?_)<;>(try simp at b)<;>(try simp[b]at h)<;>(try simp[b])<;>(try exact .done h);refine aM.intro (λc=>?_) (λc=>?_)<;>(try simp at c)<;>(try simp[c]at h)<;>(try simp[c])<;>(try exact .done h);refine O1 func76 (im ?_);apply rn;simp;refine xj.intro (λd=>?_) (λd=>?_)<;>(try simp at d)<;>(try simp[d]at h)<;>(try simp[d])<;>(try exact .done h)
 refine O1 func76 (im ?_);apply rn;simp;refine xj.intro (λe=>?_) (λe=>?_)<;>(try simp at e)<;>(try simp[e]at h)<;>(try simp[e])<;>(try exact .done h);refine O1 func76 (im ?_);apply rn;simp;refine aM.intro (λf=>?_) (λf=>?_)<;>(try simp at f)<;>(try simp[f]at h)<;>(try simp)<;>(try exact .done h);refine aM.intro (λg=>?_) (λg=>?_)<;>(try simp[-Int.not_lt]at g)<;>(try simp[g]at h)<;>(try simp)<;>(try exact .done h)
def dv{α:Type}(g:α->Int):List α->Int
 |[]=>0
 |x::l=>if g x=0 then dv g l else g x
def qY{α}  g  (l:List α)  i   h :dv g (l.drop i)=if g l[i]=0 then dv g (l.drop (i+1))else g l[i]:=by rw[K5 h,dv]
abbrev lone(f:Fr)(e:vU):Fr:={f with ao:=[e]}
abbrev dM(w:bF):Fr:={w.fair with ao:=w.fair.ao++Aj w.ak}
def EG(w:bF)(c:Az):Int:=if cz c.town 0 (w.aX-1)=false then 3 else if cz c.hour 0 72=false then 1 else if c.hour<c.lost.hour then 5 else 0
def tE(w:bF):Int:=if cz w.aX 1 4=false then 1 else if(6:Int)<w.ways.length then 6 else if dv (sD w.aX) w.ways≠0 then dv (sD w.aX) w.ways else if(3:Int)<w.ak.length then 6 else if dv (EG w) w.ak≠0 then dv (EG w) w.ak
 else if(6:Int)<(w.fair.ao.length:Int)+w.ak.length then 6 else if jl (dM w)=0 then 9 else 0
structure bF.pq(w:bF):Prop where
 fits:w.fair.Fits
 Jc:check w.fair=0
 Rl:∀c∈w.ak,(lone w.fair c.lost).Fits/\check (lone w.fair c.lost)=0
 ways:w.ways.length<1152921504606846976
 ak:w.ak.length<1152921504606846976
def Vz{es sp l}:(AV.agg (.sl 6 es sp::l)).W (.agg (.sl 6 es .any::l)):=ig rfl λi x y b a=>by
 cases i with
 |zero=>grind [eo]
 |succ i=>simp at b a;rw[b]at a;cases a;exact .refl _
def Al{w c}(j:0<=w.aX/\w.aX<=100)(f:(lone w.fair c.lost).Fits)(g:check (lone w.fair c.lost)=0)(h:KF (.val (Xn (EG w c))) σ):ar prog m 78 [aT w,cK c] σ KF:=by
 unfold EG at h;have i:Wl [AV.agg [.sl 6 [bn c.lost] .exact,Cu w.fair.roads,Xn w.fair.bs,Xn w.fair.fN,Xn w.fair.dN,Xn w.fair.bc]] [bR (lone w.fair c.lost)]:=.cons Vz .nil;refine ar.thaw ?_;refine S0 [] func78 ?_;simp[f78];refine bz.intro λb hb=>?_
 simp;refine bp func75 rfl rfl i (tD f g ?_);apply rn;simp;refine O1 func74 (yG ?_);apply rn;simp
 replace h:=tO.less (af.bZ (b:=b) (x:=.cells [.sl 6 [bn c.lost] .exact,Cu w.fair.roads,Xn w.fair.bs,Xn w.fair.fN,Xn w.fair.dN,Xn w.fair.bc]) (af.le_refl _) hb) (.done h)
 refine⟨ac,?_⟩;refine O1 func76 (im ?_);apply rn;simp;refine aM.intro (λa=>?_) (λa=>?_)<;>(try simp at a)<;>(try simp[a]at h)<;>(try simp[a])<;>(try exact .done h);refine O1 func76 (im ?_);apply rn;simp;refine aM.intro (λd=>?_) (λd=>?_)<;>(try simp at d)<;>(try simp[d]at h)<;>(try simp[d])<;>(try exact .done h);refine aM.intro (λe=>?_) (λe=>?_)<;>(try simp[-Int.not_lt,-Int.not_le]at e)<;>(try simp[e]at h)<;>(try simp[e])<;>(try exact .done h)
def gy{w}(b:w.pq)(f:w.fair.ao.length+w.ak.length<=6):(dM w).Good:=by
 have a:=Fr.wA b.fits b.Jc;refine⟨⟨?_,a.fits.roads,a.fits.row,λe he=>?_⟩,a.fr,a.to,a.le,a.dN,a.bc,?_,λe he=>?_,a.HH⟩
 . grind
 . rcases E4.1 he with he|he
   . exact a.fits.marks e he
   . obtain⟨c,d,rfl⟩:=CR.1 he
     exact(b.Rl c d).1.marks _ am
 . grind
 . rcases E4.1 he with he|he
   . exact a.pS e he
   . obtain⟨c,d,rfl⟩:=CR.1 he
     exact(Fr.wA (b.Rl c d).1 (b.Rl c d).2).pS _ am
def EH{w}(D:m.solo=true)(e:w.pq)(h:KF (.val (Xn (tE w))) σ):ar prog m 33 [aT w] σ KF:=by
 have E:=e.ways;have F:=e.ak;unfold tE at h;refine S0 Q5 func33 ?_;simp[f33];refine O1 func75 (tD e.fits e.Jc ?_);apply rn;simp;refine O1 func74 (yG ?_);apply rn;simp;refine O1 func76 (im ?_);apply rn;simp;refine aM.intro (λj=>?_) (λj=>?_)<;>(try simp at j)<;>(try simp[j]at h)<;>(try simp[j])<;>(try exact .done h);have I:=dJ j;refine aM.intro (λv=>?_) (λv=>?_)<;>(try simp[-Int.not_lt,-Int.not_le]at v)<;>(try simp[v]at h)<;>(try simp[v])<;>(try exact .done h);refine aa.loop w.ways.length (λk=>MY σ λε=>ε 1=.cp (aT w) 0/\ε 28=rW w.ways/\ε 29=Xn w.ways.length/\ε 30=Xn k/\dv (sD w.aX) w.ways=dv (sD w.aX) (w.ways.drop k)) aq ?_;rintro G k _ H ⟨ε,rfl,c,l,o,g,a⟩ A;refine aa.runN Ax [] 17 ?_;simp[o,g];apply aM.intro<;>intro B<;>simp at B<;>simp[c,l,g,B]
 . rw[qY _ _ k B]at a
   refine bz.intro λd hd=>?_
   simp;change aa _ _ _ _ _ _ _ _ _;refine aa.runN Ax [] 1 ?_;simp;change aa _ _ _ _ _ _ _ _ _;refine aa.bj 5 (b:=d) (fG w.ways[k]) (af.aj _ _ _) ap rfl ?_;rw[cy hd];apply rn;simp[c];refine O1 func77 (Ak ac ?_);apply rn;simp;apply aM.intro<;>intro p<;>simp at p<;>simp[g,p]
   . rw[wN p]at a
     simp[a,p]at h;exact .done h
   . rw[wS p]at a
     refine⟨ac,A _ ac ⟨_,rfl,?_,?_,?_,?_,a⟩⟩<;>simp[c,l,o]
 . have ek:k=w.ways.length:=ac
   subst ek;rw[K1]at a;rw[show dv (sD w.aX) []=0 from rfl]at a;simp[a]at h;refine aM.intro (λx=>?_) (λx=>?_)<;>(try simp[-Int.not_lt,-Int.not_le]at x)<;>(try simp[x]at h)<;>(try simp[x])<;>(try exact .done h)
   . apply rn
     simp;exact .done h
   apply rn;simp[c];refine aa.loop w.ak.length (λk=>MY σ λε=>ε 1=.cp (aT w) 0/\ε 47=kr w.ak/\ε 48=Xn w.ak.length/\ε 49=Xn k/\dv (EG w) w.ak=dv (EG w) (w.ak.drop k)) ⟨_,rfl,by simp[c]⟩ ?_;rintro G k _ H ⟨ε,rfl,c,q,r,i,a⟩ A;refine aa.runN Ax [] 17 ?_;simp[r,i];apply aM.intro<;>intro t<;>simp at t<;>simp[c,q,i,t]
   . rw[qY _ _ k t]at a
     refine bz.intro λd hd=>?_
     simp;change aa _ _ _ _ _ _ _ _ _;refine aa.runN Ax [] 1 ?_;simp;change aa _ _ _ _ _ _ _ _ _;refine aa.bj 8 (b:=d) (cK w.ak[k]) (af.aj _ _ _) ap rfl ?_;rw[cy hd];apply rn;simp[c];refine O1 func78 (Al ac (e.Rl _ (lb t)).1 (e.Rl _ (lb t)).2 ?_);apply rn;simp;apply aM.intro<;>intro u<;>simp at u<;>simp[i,u]
     . rw[wN u]at a
       simp[a,u]at h;exact .done h
     . rw[wS u]at a
       refine⟨ac,A _ ac ⟨_,rfl,?_,?_,?_,?_,a⟩⟩<;>simp[c,q,r]
   . have ek:k=w.ak.length:=ac
     subst ek;rw[K1]at a;rw[show dv (EG w) []=0 from rfl]at a;simp[a]at h;have J:=(Fr.wA e.fits e.Jc).jo;have f1:=M1 ((w.fair.ao.length:Int)+w.ak.length)
     apply rn;simp[f1.1,f1.2];refine aM.intro (λy=>?_) (λy=>?_)<;>(try simp[-Int.not_lt,-Int.not_le]at y)<;>(try simp[y]at h)<;>(try simp[c,y])<;>(try exact .done h);have C:=gy e ac;refine O1 func81 (Vy ac ?_);apply pg;simp;refine O1 func80 (KW am ?_);apply pg;simp;refine O1 func79 (Vm (f:=dM w) D C.fits C.Jc ⟨(by grind [Nat.lt_of_le_of_lt,sM]),(by grind [Nat.lt_of_le_of_lt,sM])⟩ ?_);apply pg;simp;obtain⟨n,a⟩:=S1 (jl (dM w));rw[<-a]at h;change aa _ _ _ _ _ _ _ _ _;simp only[<-a];apply rn;simp;refine aM.intro (λz=>?_) (λz=>?_)<;>(try simp at z)<;>(try simp[z]at h)<;>(try simp[z])<;>(try exact .done h)
end
section
open Go.bu Go.Conc
def aiT{m fb mb A j w c o p q hole}(B:∀i∈hole,9<=i)(C:A.fb=fb/\A.mb=mb/\A.fo=9/\A.nm=nn/\A.ng=ng/\A.dir=true)(hj:j<3)(r:∀x,A.GI x↔x=.map [])(D:w.ways.length<1152921504606846976)(s:∀x∈w.ways,uv w.aX x)(E:1<=w.aX/\w.aX<=4)(F:0<=c.town/\c.town<w.aX)(t:0<=c.hour/\c.hour<=72)
 (G:A.val j=.int .i64 ((lr w.ways w.aX.toNat c.town c.hour).getD 0 0)){body}(hb:f134.body=some body):
 aa prog (mT prog A j) 134 25 none Zb [.code body] ⟨fR [.ref A.gb 0,.cp (Yb fb mb w o p q hole 0) 0,.cp (cK c) 0,.cp (Xn j) 0],o0 A.fb,[],.told .deferred [fy prog] m⟩ (P8 prog A j f134):=by
 obtain⟨rfl,rfl,a,e,H,d⟩:=C;simp only[f134,td]at hb;subst hb;apply rn;simp;refine aa.defer rfl rfl rfl rfl ap rfl ?_
 apply rn;simp;obtain⟨I,L,M,N,y⟩:=afA (l:=w.ways) (n:=w.aX.toNat) (town:=c.town) (λx g=>(s x g).2.2.1) t
 rw[y]at G;refine O1 func136 (W3b B D s E F t λh k=>?_)
 have J:h A.fb=some .mC:=k _ _ (by simp[o0])
 rw[y];apply rn;simp;have cell:A.cell j=11+j:=by unfold dq.cell;rw[a]
 have z:=@ahO prog A j d;rw[a,e]at z;refine O1 func137 (z (by rw[cell];simp<;>omega) J λx v g O=>?_)
 obtain rfl:=(r x).1 g;apply rn;simp;refine aa.defer rfl rfl rfl rfl ap rfl ?_
 have K:(j:Int)<3:=ac
 have P:j<=2:=ac
 refine aa.runN Ax [] 1 ?_;simp
 change aa _ _ _ _ _ _ _ _ _
 refine aa.draw Ax (.take [0,1,2,3,4,5] false (.one 6 (.done))) rfl ?_;refine aR.take Ax [] ?_;simp[Hp,K];refine aR.one rfl s8 rfl ap ?_
 refine aks Ax (b:=A.fb) (off:=11+j) (u:=.int .i64 I) (v0:=v) (f:=A.own j v) rfl nM rfl ?_ ap rfl ap (by simp[dq.own,cell]) ?_
 . simp[xC]
 . refine nf.done ?_
   apply rn;simp;exact⟨rfl,.inl rfl,⟨m,rfl⟩,Yb A.fb A.mb w o p q hole 9,_,.map [],by grind [xC],am,af.aj _ _ _,am,(af.ah _ _ (vj A.d5)).trans (af.aj _ _ _),(r _).2 rfl,rfl⟩
end
section
open Go.bu Go.Conc
variable{m:Mo}{σ:af}{KF:YC}
def VA:sz prog nn:=⟨⟨_,_,func137,rfl,rfl,rfl⟩,⟨_,_,func138,rfl,rfl,rfl⟩⟩
def EJ(w:bF):Prop:=w.ak.length<=3/\∀c∈w.ak,(0<=c.town/\c.town<w.aX)/\0<=c.hour/\c.hour<=72
def Zj(w:bF)(c:Az):Int:=(lr w.ways w.aX.toNat c.town c.hour).getD 0 0
def bP(w:bF)(j:Nat):Int:=match w.ak[j]? with|some c=>Zj w c|none=>0
abbrev xN(fb mb:Nat)(w:bF)(o:Nat):AV:=Yb fb mb w (Xn (bP w 0)) (Xn (bP w 1)) (Xn (bP w 2)) [9,10] o
structure QY(σ:af)  fb mb  (w:bF)  σ' :Prop where
 f0:σ fb=none
 m0:σ mb=none
 ne:fb≠mb
 eq:σ'=(σ.set mb (tw (wi .u8) [])).set fb (.part (dB 9))
def Cb(n:Nat):ZB:=[9,10]++(List.range n).map (11+·)
abbrev Nf(mb:Nat)(w:bF):We:=[kg w.fair.ao,Cu w.fair.roads,Xn w.fair.bs,Xn w.fair.fN,Xn w.fair.dN,Xn w.fair.bc,Xn w.aX,rW w.ways,kr w.ak,.lit (.int .i32 0),.lit (.int .u32 0),Xn 0,Xn 0,Xn 0,.map mb]
abbrev KY(fb mb:Nat)(w:bF)(o:Nat):AV:=Yb fb mb w (Xn 0) (Xn 0) (Xn 0) (Cb w.ak.length) o
def L8(n:Nat):Nat->FP:=λi=>if i=9 then some (.int .i32 0)else if i=10 then some (.int .u32 0)else if 11<=i/\i<11+n then some (.int .i64 0)else none
def uC{n i}:i∈Cb n↔i=9\/i=10\/11<=i/\i<11+n:=by
 unfold Cb;rw[E4,CR];constructor
 . grind
 . rintro(h|h|h)
   . simp_all
   . simp_all
   . exact .inr ⟨i-11,wL.2 ac,ac⟩
def VB{n i}(h:i∈Cb n):9<=i:=by have:=uC.1 h;omega
def aau{n mb w}(h:n<=3)  i   v  (a:L8 n i=some v):(Nf mb w)[i]?=some (.lit v):=by
 unfold L8 at a;split at a
 . simp_all
 split at a
 . simp_all
 split at a
 . next e=>
   cases a;have:i=11\/i=12\/i=13:=ac
   rcases this with rfl|rfl|rfl<;>rfl
 . cases a
def VC  n i :L8 n i=none↔i∉Cb n:=by
 rw[uC];unfold L8
 grind
def Am{w}(hs:m.solo=true)(hl:w.ways.length<1152921504606846976)(hw:∀x∈w.ways,uv w.aX x)(hn:1<=w.aX/\w.aX<=4)(hc:EJ w)(hK:∀σ' fb mb,QY σ fb mb w σ'->KF (.val (xN fb mb w 0)) σ'):ar prog m 91 [aT w] σ KF:=by
 have h3:=hc.1;refine ar.start Ax [10] [] 1 func91 rfl rfl (by rfl) s8 ?_;simp[f91];refine BN (wi .u8) rfl λmb IS=>?_
 refine aa.run Ax [10] ?_;simp[aI];refine bz.intro λfb Q=>?_
 simp;obtain⟨fm,mf,G⟩:=af.bd Q;refine bz.intro λbw o=>?_
 obtain⟨wf,R,o⟩:=af.bd o;obtain⟨wm,mw,o⟩:=af.bd o;simp;refine bz.intro λgb f=>?_
 obtain⟨gw,wg,f⟩:=af.bd f;obtain⟨gf,S,f⟩:=af.bd f;obtain⟨gm,mg,f⟩:=af.bd f;simp[R,wg,S,af.ah];refine aa.part fb (Nf mb w) (Cb w.ak.length) (L8 w.ak.length) (bw:=bw) (l1:=[.ref fb 0]) (l2:=[KY fb mb w 0]) (by simp[af.ah,R,S]) (aau h3) (VC w.ak.length) (λt=>.inl rfl) wf (by simp[af.ah,wg]) rfl (λi a a' T h2=>?_) ?_
 . match i with
   |0=>simp at T h2;subst T;subst h2;exact .inr ⟨0,rfl,rfl⟩
   |i+1=>simp at T
 refine aa.bj 3 (b:=bw) (KY fb mb w 0) (af.aj _ _ _) ap rfl ?_;refine aa.lh (λe σ'=>(e 3=.cp (KY fb mb w 0) 0/\e 4=.ref gb 0/\e 15=kr w.ak/\e 16=Xn w.ak.length/\e 17=Xn 0)/\σ' fb=some (.part (L8 w.ak.length))/\σ' gb=some (.cells [.lit (.int .u64 0),.lit (.int .u32 0)])/\σ' mb=some (tw (wi .u8) [])/\∀c x,σ c=some x->c≠fb/\c≠mb/\c≠gb/\σ' c=some x) ⟨ap,by simp[af.del,af.set,R],by simp[af.del,af.set,gw,gf],by simp[af.del,af.set,mw,mf,mg],λc x p=>?_⟩ ?_
 . have y:c≠fb:=λe=>aq
   have z:c≠mb:=λe=>aq
   have N:c≠gb:=λe=>aq
   have U:c≠bw:=λe=>aq
   exact⟨y,z,N,by simp[af.del,af.set,y,z,N,U,p]⟩
 rintro ε ad ⟨⟨B,C,tZ,BR,d⟩,D,s2,s3,F⟩;refine aa.ac1 hs (n:=w.ak.length) (fo:=9) (GI:=λx=>x=.map []) (λj=>.int .i64 (bP w j)) Zg Zh GL GM VA ac S fm gm s2 D rfl rfl (λj O q=>(VC _ _).1 q (uC.2 (.inr (.inr ac)))) s3 rfl rfl rfl ?_;rintro A ⟨H,rfl,W,rfl,rfl,I,g,h,J,E⟩ Fin kd X k0 K;refine aa.lh (λe σ'=>(e 3=.cp (KY A.fb A.mb w 0) 0/\e 4=.ref A.gb 0/\e 15=kr w.ak/\e 16=Xn w.ak.length/\e 17=Xn 0)/\σ' A.fb=some .mC/\∀c x,σ c=some x->c≠A.fb/\c≠A.mb/\σ' c=some x) ⟨⟨B,C,tZ,BR,d⟩,af.aj _ _ _,λc x p=>?_⟩ ?_
 . obtain⟨y,z,N,U⟩:=F c x p
   exact⟨y,z,by simp[af.del,af.set,y,z,N,U]⟩
 rintro ε al ⟨⟨B,C,tZ,BR,d⟩,D,F⟩;refine aa.ac0 (λk s=>∃e σ',s=⟨e,σ',[],.told kd X k0⟩/\(e 3=.cp (KY A.fb A.mb w 0) 0/\e 4=.ref A.gb 0/\e 15=kr w.ak/\e 16=Xn w.ak.length/\e 17=Xn k)/\σ' A.fb=some .mC/\∀c x,σ c=some x->c≠A.fb/\c≠A.mb/\σ' c=some x) ⟨_,_,rfl,⟨B,C,tZ,BR,d⟩,D,F⟩ ?_ ?_
 . rintro r k _ hk ⟨ε,σ',rfl,⟨B,C,tZ,BR,d⟩,D,F⟩ ih
   rw[H]at hk;have Y:k<w.ak.length:=ac
   have Z:(k:Int)<w.ak.length:=ac
   refine aa.runN Ax [] 17 ?_;simp[tZ,BR,d,Y,Z];refine bz.intro λy av=>?_
   simp;refine bz.intro λz L=>?_
   obtain⟨n1,n2,L⟩:=af.bd L;simp[n2,af.ah];change aa _ _ _ _ _ _ _ _ _;refine aa.runN Ax [] 4 ?_;simp[n1,af.ah];change aa _ _ _ _ _ _ _ _ _;refine aa.bj 6 (b:=z) (cK w.ak[k]) (af.aj _ _ _) ap rfl ?_;refine aa.bj 5 (b:=y) (Xn k) (by simp[af.del,af.set,n2]) ap rfl ?_;refine aa.TR rfl (by rw[g];rfl) rfl ap (by rw[g];exact func133) rfl rfl (by simp[C]) ?_;refine aa.runN Ax [] 4 ?_;simp[B,C];change aa _ _ _ _ _ _ _ _ _;have O:A.n-(r+1)=k:=ac
   have b1:A.fb≠y:=λe=>aq
   have b2:A.fb≠z:=λe=>aq
   have M:=hc.2 _ (lb Y);refine aa.YD h (hold':=Zb) (first:=[]) (cap:=[.ref A.gb 0,.cp (KY A.fb A.mb w 0) 0,.cp (cK w.ak[k]) 0,.cp (Xn k) 0]) rfl rfl rfl ap ap func134 rfl rfl (by show(4:Nat)<=25;decide) (by simp[af.del,af.set,b1,b2,D]) s8 (by rw[g];exact func135) rfl rfl (by rw[I];exact func138) rfl rfl (λk1=>?_) ?_
   . rw[O]
     exact aiT (λi hi=>VB hi) ⟨rfl,rfl,W,I,g,h⟩ ac (λx=>by rw[J]) hl hw hn M.1 M.2 (by rw[E];simp[bP,Y,Zj]) rfl
   have f1:=M1 ((k:Int)+1)
   refine aa.run Ax [10] ?_;simp[d,f1.1,f1.2];refine ih _ ⟨_,_,rfl,by simp[B,C,tZ,BR],by simp[af.del,af.set,b1,b2,D],λc x p=>?_⟩;obtain⟨x1,x2,x3⟩:=F c x p;have y1:c≠y:=λe=>am
   have y2:c≠z:=λe=>am
   exact⟨x1,x2,by simp[af.del,af.set,y1,y2,x3]⟩
 . rintro _ ⟨ε,σ',rfl,⟨B,C,tZ,BR,d⟩,D,F⟩
   rw[H]at d;refine aa.runN Ax [] 9 ?_;simp[BR,d];change aa _ _ _ _ _ _ _ _ _;refine aa.TY h ((bu.cG (ε.upd 18 (T0 false)) (some 25) (.cx [])).upd 3 (.cp (xN A.fb A.mb w 0) 0)) rfl (by rw[g];rfl) rfl ap (by rw[g];exact func139) rfl rfl aq D rfl K (λkk a7 t v P=>?_) λa ha=>?_
   . change V kk v (bu.cG (ε.upd 18 (T0 false)) (some 25) (.cx []) t)at P
     by_cases e:t=3
     . subst e
       rw[show(bu.cG (ε.upd 18 (T0 false)) (some 25) (.cx [])) 3=.cp (KY A.fb A.mb w 0) 0 by simp[B]]at P;rw[show((bu.cG (ε.upd 18 (T0 false)) (some 25) (.cx [])).upd 3 (.cp (xN A.fb A.mb w 0) 0)) 3=.cp (xN A.fb A.mb w 0) 0 by simp];refine V.cp1 rfl rfl (λu=>XR (l:=Nf A.mb w) (hole:=Cb w.ak.length) rfl λj O ax=>?_) P;by_cases hm:j∈Cb w.ak.length
       . have ay:11<=j/\j<11+w.ak.length:=by
          have:=uC.1 hm
          simp_all
         refine .inr ⟨.int .i64 (bP w (j-11)),?_,rfl,?_⟩
         . have:=a7 (j-11) ac
           rwa [E,show A.cell (j-11)=j by unfold dq.cell;omega]at this
         . have:j=11\/j=12\/j=13:=ac
           rcases this with rfl|rfl|rfl<;>rfl
       . refine .inl ⟨hm,?_⟩
         have aC:j<15:=O;have hz:∀i,w.ak.length<=i->Xn (bP w i)=Xn 0:=λi hi=>by rw[bP,Mk hi]
         have aE:¬(11<=j/\j<11+w.ak.length):=λq=>hm (uC.2 (.inr (.inr q)))
         by_cases a8:j=11
         . subst a8;simp[hz 0 ac]
         by_cases a9:j=12
         . subst a9;simp[hz 1 ac]
         by_cases ab:j=13
         . subst ab;simp[hz 2 ac]
         have:j=0\/j=1\/j=2\/j=3\/j=4\/j=5\/j=6\/j=7\/j=8\/j=9\/j=10\/j=14:=ac
         rcases this with rfl|rfl|rfl|rfl|rfl|rfl|rfl|rfl|rfl|rfl|rfl|rfl<;>rfl
     . simpa[Env.upd,e]using P
   . rw[J]at ha
     subst ha;refine aa.run Ax [10] ?_;simp;refine .less (σ':=(σ.set A.mb (tw (wi .u8) [])).set A.fb (.part (dB 9))) ?_ (.done (hK _ _ _ ⟨G,IS,fm,rfl⟩));intro c x p;by_cases c1:c=A.fb
     . simp_all
     by_cases c2:c=A.mb
     . subst c2
       rw[af.ah _ _ c1,af.aj]at p;rw[af.ah _ _ c1,af.aj];exact p
     rw[af.ah _ _ c1,af.ah _ _ c2]at p ⊢
     simp_all
def dR(w:bF)(bJ ji ak:RQ):Int:=if tE w=0 then(if bJ.all (cz · 0 72)=false then 1 else if ji.all (cz · 0 (w.fair.ao.length-1))=false then 3 else if ak.all (cz · 0 (w.ak.length-1))=false then 3 else 0)else tE w
theorem nX{α}  g :∀{l:List α},dv g l=0->∀x∈l,g x=0
 |[],_,x,hx=>am
 | a ::l,h,x,hx=>by
   unfold dv at h;split at h
   . next e=>
     rcases Cv.1 hx with rfl|hx
     . exact e
     . exact nX g h x hx
   omega
theorem acz{t x}(h:sD t x=0):uv t x:=by
 unfold sD at h;split at h
 . cases h
 next a=>
 split at h
 . cases h
 next b=>
 split at h
 . cases h
 split at h
 . cases h
 next c=>
 split at h
 . cases h
 next d=>
 split at h
 . cases h
 next e=>
 have f:=dJ (by simpa using a);have g:=dJ (by simpa using b);have i:=dJ (by simpa using c);have j:=dJ (by simpa using d);have k:=dJ (by simpa using e);unfold uv;omega
structure bF.Valid(w:bF):Prop where
 oX:w.pq
 aX:1<=w.aX/\w.aX<=4
 way:∀x∈w.ways,uv w.aX x
 YV:w.ways.length<=6
 jS:EJ w
 late:∀c∈w.ak,c.lost.hour<=c.hour
 jo:w.fair.ao.length+w.ak.length<=6
 some:aG (dM w) []≠[]
def bF.valid{w}(b:w.pq)(h:tE w=0):w.Valid:=by
 unfold tE at h;split at h
 . cases h
 next f=>
 split at h
 . cases h
 next m=>
 split at h
 . omega
 next n=>
 split at h
 . cases h
 next o=>
 split at h
 . omega
 next g=>
 split at h
 . cases h
 next p=>
 split at h
 . cases h
 next q=>
 have i:=dJ (a:=w.aX) (by simpa using f)
 have d:w.fair.ao.length+w.ak.length<=6:=ac
 have e:∀c∈w.ak,((0<=c.town/\c.town<w.aX)/\0<=c.hour/\c.hour<=72)/\c.lost.hour<=c.hour:=λc e=>by
  have:=nX _ (by simpa using g) c e
  unfold EG at this;split at this
  . omega
  next j=>
  split at this
  . omega
  next k=>
  split at this
  . omega
  next r=>
  have s:=dJ (by simpa using j)
  have t:=dJ (by simpa using k)
  omega
 have l:=gy b d;refine⟨b,i,(by grind [acz,nX]),ac,⟨ac,am⟩,am,d,(ad3 l).1 ?_⟩
 have:0<=jl (dM w):=by unfold jl;omega
 omega
def Nc  p  (l:RQ){i}  h :(l.drop i).all p=(p l[i] && (l.drop (i+1)).all p):=by rw[K5 h,IN]
def kM{w}(z:m.solo=true)(v:w.pq){bJ ji ak}(C:bJ.length<1000000/\ji.length<1000000/\ak.length<1000000)
 (e:dR w bJ ji ak≠0->KF (.val (.cx [.lit (.pointer none),Xn (dR w bJ ji ak)])) σ)
 (q:dR w bJ ji ak=0->∀σ' fb mb,QY σ fb mb w σ'->KF (.val (.cx [xN fb mb w 0,Xn 0])) σ'):ar prog m 51 [aT w,Ae bJ,Ae ji,Ae ak] σ KF:=by
 unfold dR at e q;refine S0 [] func51 ?_;simp[f51];refine O1 func33 (EH z v ?_);apply rn;simp;apply aM.intro<;>intro r<;>simp at r<;>simp[r]
 . simp[r]at e
   exact .done e
 have u:=bF.valid v r;have x:=v.ways;have D:=u.jo;simp only[r,ZC]at e q;refine aa.loop bJ.length (λk=>MY σ λε=>ε 2=Ae ji/\ε 3=Ae ak/\ε 4=.cp (aT w) 0/\ε 22=Ae bJ/\ε 23=Xn bJ.length/\ε 24=Xn k/\bJ.all (cz · 0 72)=(bJ.drop k).all (cz · 0 72)) ⟨_,rfl,ap⟩ ?_;rintro E k _ y ⟨ε,rfl,A,B,p,BS,NI,O0,a⟩ t;apply rn;simp[NI,O0];apply aM.intro<;>intro g<;>simp at g<;>simp[A,B,BS,O0,g]
 . rw[Nc _ _ g]at a
   refine O1 func76 (im ?_);apply rn;simp;refine aM.intro (λb=>?_) (λb=>?_)<;>(try simp at b)<;>(try simp[O0,b])
   . rw[b,LN]at a
     refine⟨ac,t _ ac ⟨_,rfl,?_,?_,?_,?_,?_,?_,a⟩⟩<;>simp[A,B,p,BS,NI]
   . simp[a,b]at e
     exact .done e
 have ek:k=bJ.length:=ac
 subst ek;rw[K1,List.all_nil]at a;simp only[a,ML,LK]at e q;refine aa.yD ?_;apply rn;simp;refine aa.loop ji.length (λk=>MY σ λε=>ε 4=.cp (aT w) 0/\ε 34=.sl 1 [Ae ji,Ae ak] .exact/\ε 35=Xn 2/\ε 36=Xn 0/\ε 13=Xn 0/\ε 41=Ae ji/\ε 42=Xn ji.length/\ε 43=Xn k/\ji.all (cz · 0 (w.fair.ao.length-1))=(ji.drop k).all (cz · 0 (w.fair.ao.length-1))) ⟨_,rfl,by simp[p]⟩ ?_;rintro F k _ y ⟨ε,rfl,p,h,f,i,j,n,o,d,a⟩ t;refine aa.runN Ax [] 25 ?_;simp[o,d];apply aM.intro<;>intro g<;>simp at g<;>simp[p,i,n,d,g]
 . rw[Nc _ _ g]at a
   refine aa.op rfl (cP rfl) ap (λc=>ap) (wT Ax rfl Y9 rfl nM (l:=[Xn w.fair.ao.length,Xn w.ak.length]) ap (by simp[qt,aI]) ?_);apply rn;simp[j];refine⟨ac,?_⟩;refine O1 func76 (im ?_);apply rn;simp;refine aM.intro (λb=>?_) (λb=>?_)<;>(try simp at b)<;>(try simp[d,b])
   . rw[b,LN]at a
     refine⟨ac,t _ ac ⟨_,rfl,?_,?_,?_,?_,?_,?_,?_,?_,a⟩⟩<;>simp[p,h,f,i,j,n,o]
   . rw[b,Bool.false_and]at a
     simp only[a,ZC]at e;exact .done (e be)
 have ek:k=ji.length:=ac
 subst ek;rw[K1,List.all_nil]at a;simp only[a,ML,LK]at e q;refine aa.again s8 ?_;apply rn;simp[h,f];refine aa.loop ak.length (λk=>MY σ λε=>ε 4=.cp (aT w) 0/\ε 34=.sl 1 [Ae ji,Ae ak] .exact/\ε 35=Xn 2/\ε 36=Xn 1/\ε 13=Xn 1/\ε 41=Ae ak/\ε 42=Xn ak.length/\ε 43=Xn k/\ak.all (cz · 0 (w.ak.length-1))=(ak.drop k).all (cz · 0 (w.ak.length-1))) ⟨_,rfl,by simp[p,h,f]⟩ ?_;rintro G k _ y ⟨ε,rfl,p,h,f,i,j,n,o,d,a⟩ t;refine aa.runN Ax [] 25 ?_;simp[o,d];apply aM.intro<;>intro g<;>simp at g<;>simp[p,i,n,d,g]
 . rw[Nc _ _ g]at a
   refine aa.op rfl (cP rfl) ap (λc=>ap) (wT Ax rfl Y9 rfl nM (l:=[Xn w.fair.ao.length,Xn w.ak.length]) ap (by simp[qt,aI]) ?_);apply rn;simp[j];refine⟨ac,?_⟩;refine O1 func76 (im ?_);apply rn;simp;refine aM.intro (λb=>?_) (λb=>?_)<;>(try simp at b)<;>(try simp[d,b])
   . rw[b,LN]at a
     refine⟨ac,t _ ac ⟨_,rfl,?_,?_,?_,?_,?_,?_,?_,?_,a⟩⟩<;>simp[p,h,f,i,j,n,o]
   . rw[b,Bool.false_and]at a
     simp only[a,ZC]at e;exact .done (e be)
 have ek:k=ak.length:=ac
 subst ek;rw[K1,List.all_nil]at a;simp only[a,ML,LK]at e q;refine aa.again s8 ?_;apply rn;simp[p,f];refine O1 func91 (Am z x u.way u.aX u.jS λσ' fb mb y=>?_);apply rn;simp;exact .done am
end
section
open Go Go.bu Go.Conc
open Go.Extern
variable{m:Mo}{σ:af}{KF:YC}
abbrev wH(t:Nat):Value:=.pointer (some ⟨1,t,none⟩)
abbrev EK(t:Nat):AV:=.pH 230 (.agg [.lit (wH t)])
abbrev fW:AV:=EK 110
abbrev P5(t c off w:Nat):AV:=.agg [.lit (wH t),.ref c off,.lit (.int .u64 w)]
structure PH(W PW:Nat):Prop where
 mkP:∀r,bQ prog (ReflectliteValue.mk PW ⟨r,0,none⟩ 0)=some (.agg #[wH PW,.pointer (some ⟨r,0,none⟩),.int .u64 150])
 mkW:∀r,bQ prog (ReflectliteValue.mk W ⟨r,0,none⟩ 0)=some (.agg #[wH W,.pointer (some ⟨r,0,none⟩),.int .u64 153])
 mkA:∀r o,bQ prog (ReflectliteValue.mk W ⟨r,o,none⟩ ReflectliteValue.flagAddr)=some (.agg #[wH W,.pointer (some ⟨r,o,none⟩),.int .u64 409])
 typ:∀r,bQ prog (ReflectliteValue.methodAny (ReflectliteValue.valueError  "reflectlite.Value.Type" 0) (λt _ _ _=>ReflectliteType.toType t) #[.agg #[wH PW,.pointer (some ⟨r,0,none⟩),.int .u64 150]])=some (.iface 230 (.agg #[wH PW]))
 VD:∀r,bQ prog (ReflectliteValue.parts (.agg #[wH PW,.pointer (some ⟨r,0,none⟩),.int .u64 150]))=some (some (PW,⟨r,0,none⟩,150))
 Jb:∀r o,bQ prog (ReflectliteValue.parts (.agg #[wH W,.pointer (some ⟨r,o,none⟩),.int .u64 409]))=some (some (W,⟨r,o,none⟩,409))
 Zk:∀r,bQ prog (ReflectliteValue.parts (.agg #[wH W,.pointer (some ⟨r,0,none⟩),.int .u64 153]))=some (some (W,⟨r,0,none⟩,153))
 Zl:bQ prog ((ReflectliteType.abiMethod λt=>do pure (.int .u8 (<-Rtype.kind t))) #[wH PW])=some (.int .u8 22)
 Zm:bQ prog ((ReflectliteType.abiMethod λt=>do pure (.int .u8 (<-Rtype.kind t))) #[wH W])=some (.int .u8 25)
 el:bQ prog (ReflectliteType.method ReflectliteType.elem #[.agg #[wH PW]])=some (.iface 230 (.agg #[wH W]))
 elem:bQ prog (Rtype.elem? PW)=some (some W)
 impl:bQ prog (ReflectliteType.relation  "Implements" ReflectliteType.implements_ #[.agg #[wH W],.iface 230 (.agg #[wH 110])])=some (.bool true)
 adP:∀v,bQ prog (ReflectliteType.typeOf #[.iface W v])=some (.iface 230 (.agg #[wH W]))
 asg:bQ prog (ReflectliteType.relation  "AssignableTo" ReflectliteType.assignableTo #[.agg #[wH W],.iface 230 (.agg #[wH W])])=some (.bool true)
 dir:bQ prog (Rtype.directlyAssignable W W)=some true
theorem wX{P}{t f:Nat}{name a a'}(h:∀k v,V k v a->∃r,bQ P (Go.method (P.types.size+Made.depth) t v name)=some (f,r)/\V k r a'):tv P t name f a a':=λk O v K g b c=>by obtain⟨r,d,e⟩:=h k v b;exact il _ d (c r e)
theorem VE  h :bQ prog (Go.method (prog.types.size+Made.depth) 230 (.agg #[h])  "Kind")=some (259,h):=s8
def VF  h :bQ prog (Go.method (prog.types.size+Made.depth) 230 (.agg #[h])  "Elem")=some (270,.agg #[h]):=s8
def VG  h :bQ prog (Go.method (prog.types.size+Made.depth) 230 (.agg #[h])  "Implements")=some (271,.agg #[h]):=s8
def Yc  h :bQ prog (Go.method (prog.types.size+Made.depth) 230 (.agg #[h])  "AssignableTo")=some (268,.agg #[h]):=s8
def GR{t}:tv prog 230  "Kind" 259 (.agg [.lit (wH t)]) (.lit (wH t)):=(by grind [wX,wR,VE])
def xI{t f:Nat}{name}(h:∀h,bQ prog (Go.method (prog.types.size+Made.depth) 230 (.agg #[h]) name)=some (f,.agg #[h])):tv prog 230 name f (.agg [.lit (wH t)]) (.agg [.lit (wH t)]):=(by grind [wX,wR])
def Ow{k v t}(h:V k v (EK t)):v=.iface 230 (.agg #[wH t]):=by grind [KB,wR,mr]
theorem vd  k   t :V k (.iface 230 (.agg #[wH t])) (EK t):=KB.2 ⟨_,rfl,wR.2 ⟨_,rfl,.lit _⟩⟩
def aaw{W g b c}(T:PH W g){j q}(t:Ax.tt W=some j)(w:Ax.tt g=some q)(hi:q.agg=false)(A:j.agg=true/\j.size=1){e y z}(F:e.cells=[e]/\e.flat=true)(hb:σ b=some (.cells [y]))(B:σ c=some (.cells [.ref b 0]))(C:b≠c)
 (h:∀σ',(∀x o,x≠b->σ x=some o->σ' x=some o)->σ' b=some (.cells [e])->KF (.val (T0 true)) σ'):
 ar prog m 152 [.pH W (.agg [e]),z,P5 g c 0 150,EK W] σ KF:=by
 refine S0 [] func152 ?_;simp[f152];refine aa.loop 1 (λk s=>k=0/\s=⟨((fR [AV.pH W (AV.agg [e]),z,P5 g c 0 150,EK W]).upd 6 ((P5 g c 0 150).cp 0)).upd 8 (AV.lit (Value.bool false)),σ,[],.no⟩) ⟨rfl,rfl⟩ ?_;rintro G k _ H ⟨rfl,rfl⟩ I;apply rn;simp;refine cQ.ext func120 rfl rfl s8 (e:=ReflectliteType.typeOf) s8 (oT.pure (v:=.iface 230 (.agg #[wH W])) (a:=EK W) (λk r f=>?_) (by simp[vd]) ?_)
 . obtain⟨v,n,p⟩:=f.one
   subst n;obtain⟨u,rfl,_⟩:=KB.1 p;exact T.adP u
 apply rn;simp;refine aa.xD rfl rfl (cP rfl) ap rfl (xI Yc) func268 rfl rfl s8 (e:=ReflectliteType.relation  "AssignableTo" ReflectliteType.assignableTo) s8 (oT.pure (v:=.bool true) (a:=T0 true) (λk r f=>?_) (λk=>.lit _) ?_)
 . match r,f with
   |[v,x],f=>obtain⟨u,rfl,D⟩:=wR.1 (f.2 0 v _ rfl rfl);rw[mr.1 D,Ow (f.2 1 x (EK W) rfl rfl)];exact T.asg
 apply rn;simp;refine cQ.ext func188 rfl rfl s8 (e:=ReflectliteValue.method (ReflectliteValue.valueError  "reflectlite.Value.Elem" 0) ReflectliteValue.elem) s8 (TZ Ax T.VD rfl w hi T.elem T.mkA B ?_)
 apply rn;simp;refine cQ.ext func149 rfl rfl s8 (e:=λargs=>ReflectliteValue.unpack (args.getD 0 (.tuple #[]))) s8 (B6 aq T.mkW λd hd=>?_);have E:b≠d:=am;apply rn;simp;refine cQ.ext func189 rfl rfl s8 (e:=ReflectliteValue.set) s8 (XT Ax (a:=.agg [e]) (l:=[e]) (i:=j) (σ':=(σ.set d (.cells [e])).set b (.cells [e])) T.Jb T.Zk rfl T.dir t (af.aj _ _ _) aq ?_ ?_)
 . simp_all [af.ah]
 apply rn;simp;refine .done (h _ (λx o J K=>?_) (af.aj _ _ _))
 grind [af.ah]
def kindOf{t n}(h:bQ prog ((ReflectliteType.abiMethod λt=>do pure (.int .u8 (<-Rtype.kind t))) #[wH t])=some (.int .u8 n)){K}(a:K (.lit (.int .u8 n)) σ):
 oT prog (ReflectliteType.abiMethod λt=>do pure (.int .u8 (<-Rtype.kind t))) [.lit (wH t)] σ K:=oT.pure  (λk e b=>by
 obtain⟨v,c,d⟩:=b.one
 grind [mr]) (λk=>.lit _) a
def aax{W j b}(T:PH W j){s B}(E:Ax.tt W=some s)(C:Ax.tt j=some B)(hi:B.agg=false)(w:s.agg=true/\s.size=1){e y}(F:e.cells=[e]/\e.flat=true)(R:σ 0=some (.stay [fW]))(hb:σ b=some (.cells [y]))
 (h:∀σ',(∀x o,x≠b->σ x=some o->σ' x=some o)->σ' b=some (.cells [e])->KF (.val (T0 true)) σ'):
 ar prog m 123 [.pH W (.agg [e]),.pH j (.ref b 0)] σ KF:=by
 refine S0 [] func123 ?_;simp[f123];refine dP Ax rfl zq rfl (.inr ⟨⟨_,_,rfl⟩,rfl⟩) (.inl ⟨rfl,rfl⟩) ?_;apply rn;simp;refine dP Ax rfl aff rfl (.inr ⟨⟨_,_,rfl⟩,rfl⟩) (.inl ⟨rfl,rfl⟩) ?_;apply rn;simp;refine cQ.ext func149 rfl rfl s8 (e:=λargs=>ReflectliteValue.unpack (args.getD 0 (.tuple #[]))) s8 (B6 (by rfl) T.mkP λc S=>?_);have z:b≠c:=am;have G:0≠c:=am;obtain⟨f,q⟩:=S1 (σ.set c (.cells [.ref b 0]));have U:f 0=some (.stay [fW]):=by simp_all [af.ah]
 have gb:f b=some (.cells [y]):=by simp_all [af.ah]
 have gc:f c=some (.cells [.ref b 0]):=aq
 have H:∀x o,σ x=some o->f x=some o:=λx o I=>by
  have J:x≠c:=am
  simp_all [af.ah]
 rw[show AV.cells (.ref b 0)=[.ref b 0]from rfl,<-q];apply rn;simp;refine bz.intro λd hd=>?_
 have K:b≠d:=am;have L:c≠d:=am;have M:0≠d:=am;simp;obtain⟨g,r⟩:=S1 (f.set d (.cells [.lit (wH j),.ref c 0,.lit (.int .u64 150)]));have N:g 0=some (.stay [fW]):=by simp_all [af.ah]
 have kb:g b=some (.cells [y]):=by simp_all [af.ah]
 have kc:g c=some (.cells [.ref b 0]):=by simp_all [af.ah]
 have O:∀x o,σ x=some o->g x=some o:=λx o I=>by
  have P:x≠d:=am
  simp_all [af.ah]
 have kd:g d=some (.cells [.lit (wH j),.ref c 0,.lit (.int .u64 150)]):=aq
 rw[<-r];refine cQ.ext func150 rfl rfl s8 (e:=ReflectliteValue.methodAny (ReflectliteValue.valueError  "reflectlite.Value.Type" 0) (λt _ _ _=>ReflectliteType.toType t)) s8 (oT.pure (v:=.iface 230 (.agg #[wH j])) (a:=EK j) (λk A i=>?_) (by grind [vd]) ?_)
 . obtain⟨v,l,n⟩:=i.one
   subst l;obtain⟨_,_,_,rfl,p,D,Q⟩:=yE.1 n;rw[mr.1 p,Ep.1 D,mr.1 Q];exact T.typ c
 apply rn;simp;refine aa.xD rfl rfl (cP rfl) ap rfl GR func259 rfl rfl s8 (e:=ReflectliteType.abiMethod λt=>do pure (.int .u8 (<-Rtype.kind t))) s8 (kindOf T.Zl ?_);apply rn;simp[kd];refine cQ.ext func151 rfl rfl s8 (e:=ReflectliteValue.method (ReflectliteValue.valueError  "reflectlite.Value.IsNil" 0) ReflectliteValue.isNil) s8 (ahH Ax T.VD rfl C hi kc ?_)
 apply rn;simp;refine aa.xD rfl rfl (cP rfl) ap rfl (xI VF) func270 rfl rfl s8 (e:=ReflectliteType.method ReflectliteType.elem) s8 (oT.pure (v:=.iface 230 (.agg #[wH W])) (a:=EK W) (λk A i=>?_) (by simp[vd]) ?_)
 . obtain⟨v,l,n⟩:=i.one
   subst l;obtain⟨_,rfl,p⟩:=wR.1 n;rw[mr.1 p];exact T.el
 apply rn;simp;refine aa.xD rfl rfl (cP rfl) ap rfl GR func259 rfl rfl s8 (e:=ReflectliteType.abiMethod λt=>do pure (.int .u8 (<-Rtype.kind t))) s8 (kindOf T.Zm ?_);apply rn;simp[N];refine aa.xD rfl rfl ⟨_,_,rfl,rfl,be,rfl⟩ ap rfl (xI VG) func271 rfl rfl s8 (e:=ReflectliteType.relation  "Implements" ReflectliteType.implements_) s8 (oT.pure (v:=.bool true) (a:=T0 true) (λk A i=>?_) (λk=>.lit _) ?_)
 . match A,i with
   |[v,x],i=>obtain⟨u,rfl,p⟩:=wR.1 (i.2 0 v _ rfl rfl);rw[mr.1 p,Ow (i.2 1 x (EK 110) rfl rfl)];exact T.impl
 apply rn;simp[kd];refine O1 func152 (aaw T E C hi w F kb kc z λσ' p D=>?_);apply rn;simp;exact .done am
abbrev GU:AV:=.pH 115 (.agg [])
def VH(h:KF (.val (T0 false)) σ):ar prog m 70 [.lit .nilIface,GU] σ KF:=by
 refine S0 [] func70 ?_;simp;refine dP Ax rfl zq rfl (.inl ⟨rfl,rfl⟩) (.inl ⟨rfl,rfl⟩) ?_;apply rn;simp;refine sf (vx:=.nilIface)  (r:=.bool false) rfl (by simp_all [mr]) (λk v a=>V.XU (by simpa using a)) s8 ?_;apply rn;simp;exact .done h
def VI  h :bQ prog (Go.method (prog.types.size+Made.depth) 230 (.agg #[h])  "Comparable")=some (269,.agg #[h]):=s8
def Yd(h:KF (.val (T0 true)) σ):ar prog m 121 [GU,GU,T0 true] σ KF:=by
 refine S0 [] func121 ?_;simp;refine aa.yD ?_;apply rn;simp;refine sf   (r:=.bool true) rfl (λk v a=>V.XU (by simpa using a)) (λk v a=>V.XU (by simpa using a)) s8 ?_;apply rn;simp;exact .done h
def Ox(h:KF (.val (T0 true)) σ):ar prog m 70 [GU,GU] σ KF:=by
 refine S0 [] func70 ?_;simp[f70];refine dP Ax rfl zq rfl (.inr ⟨⟨_,_,rfl⟩,rfl⟩) (.inl ⟨rfl,rfl⟩) ?_;apply rn;simp;refine dP Ax rfl zq rfl (.inr ⟨⟨_,_,rfl⟩,rfl⟩) (.inl ⟨rfl,rfl⟩) ?_;apply rn;simp;refine cQ.ext func120 rfl rfl s8 (e:=ReflectliteType.typeOf) s8 (oT.pure (v:=.iface 230 (.agg #[wH 115])) (a:=EK 115) (λk f d=>?_) (by simp[vd]) ?_)
 . obtain⟨v,b,c⟩:=d.one
   subst b;rw[V.XU c]
   kernel_rfl
 apply rn;simp;refine aa.xD rfl rfl (cP rfl) ap rfl (xI VI) func269 rfl rfl s8 (e:=ReflectliteType.method λt=>do Rtype.noPackHeld  "Comparable" t;pure (.bool (<-typeInfo t).comparable)) s8 (oT.pure (v:=.bool true) (a:=T0 true) (λk f d=>?_) (λk=>.lit _) ?_)
 . obtain⟨v,b,c⟩:=d.one
   subst b;obtain⟨u,rfl,g⟩:=wR.1 c;rw[mr.1 g]
   kernel_rfl
 apply rn;simp;refine O1 func121 (Yd ?_);apply rn;simp;exact .done h
def sK{w fb mb c}(b:c<3)(h:if 72<bP w c then KF (.val (.cx [Xn 0,GU])) σ else KF (.val (.cx [Xn (bP w c),.lit .nilIface])) σ):ar prog m 69 [xN fb mb w 0,Xn c] σ KF:=by
 have:c=0\/c=1\/c=2:=ac
 rcases this with rfl|rfl|rfl
 all_goals
  refine S0 [] func69 ?_;simp;refine aM.intro (λa=>?_) (λa=>?_)<;>(try simp[-Int.not_lt]at a)<;>(try simp[a]at h)<;>(try simp)<;>(try exact .done h)
def pE(w:bF)(h:Int)(i:Int):Bool:=decide ((aU w.fair i).hour<=h)
def pC(w:bF)(h:Int)(i:Int):Bool:=decide (bP w i.toNat<=72) && decide (bP w i.toNat<=h)
def aH(w:bF)(h:Int):RQ:=(fT w.fair.ao.length).filter (pE w h)
def aQ(w:bF)(h:Int):RQ:=(fT w.ak.length).filter (pC w h)
abbrev HI(w:bF)(h:Int):AV:=.agg [u8 (bh (aH w h)),u8 (bh (aQ w h))]
def iu  k   p :(fT (k+1)).filter p=(fT k).filter p++if p k then[(k:Int)]else[]:=by grind [List.range_succ]
def kP  l   n :bh (l++[n])=cM (bh l) n:=by
 unfold bh
 grind
namespace CK
abbrev afr:YA:=[⟨6,.take (MX 0 6) true (MU [6] .done)⟩,⟨13,.take [0,3,6] false (.both 1 (MU [2] (.take [4,5] true (MU [7] .done))) (MU [2] (.take [1,4,5] true (MU [7] .done))))⟩]
def A8{w fb mb h}(D:w.fair.ao.length<=6)(E:w.ak.length<=3)(v:KF (.val (HI w h)) σ):ar prog m 62 [xN fb mb w 0,Xn h] σ KF:=by
 refine S0 afr func62 ?_
 simp[f62];refine bz.intro λb hb=>?_
 simp;refine bz.intro λd hd=>?_
 obtain⟨F,y,hd⟩:=af.bd hd;simp;refine aa.loop w.fair.ao.length (λk s=>∃ε,s=⟨ε,(σ.set b (.cells [u8 0,u8 0])).set d (.cells [u8 (bh ((fT k).filter (pE w h))),u8 0]),[],.no⟩/\ε 0=xN fb mb w 0/\ε 1=Xn h/\ε 4=.ref b 0/\ε 5=.ref d 0/\ε 16=kg w.fair.ao/\ε 17=Xn w.fair.ao.length/\ε 18=Xn k) ⟨_,rfl,ap⟩ ?_
 rintro G k _ z ⟨ε,rfl,g,i,l,f,BR,n,qP⟩ o
 refine aa.runN Ax [] 17 ?_;simp[n,qP];apply aM.intro<;>intro p<;>simp at p<;>simp[g,BR,qP,p]
 . have A:aU w.fair k=w.fair.ao[k]:=by simp[aU,p]
   refine bz.intro λq B=>?_
   obtain⟨H,I,C⟩:=af.bd B;obtain⟨J,K,L⟩:=af.bd C;simp
   change aa _ _ _ _ _ _ _ _ _
   refine aa.runN Ax [] 2 ?_;simp
   change aa _ _ _ _ _ _ _ _ _
   refine aa.bj 7 (b:=q) (bn w.fair.ao[k]) (af.aj _ _ _) ap rfl ?_
   rw[cy ac]
   apply rn;simp[i];have a:=iu k (pE w h);have r:pE w h k=decide (w.fair.ao[k].hour<=h):=by unfold pE;rw[A]
   apply aM.intro<;>intro t<;>simp at t<;>simp[f,qP,t,Ab]
   . rw[r,show decide (w.fair.ao[k].hour<=h)=true by grind,wS rfl]at a
     apply rn;simp[qP];refine⟨ac,o _ ac ⟨_,by rw[a,kP];rfl,by simp[g,i,l,f,BR,n]⟩⟩
   . rw[r,show decide (w.fair.ao[k].hour<=h)=false by grind,wN ap,xx]at a
     refine⟨ac,o _ ac ⟨_,by rw[a],by simp[g,i,l,f,BR,n]⟩⟩
 have ek:k=w.fair.ao.length:=ac
 subst ek;rw[show(fT w.fair.ao.length).filter (pE w h)=aH w h from rfl]
 apply rn;simp;refine aa.loop w.ak.length (λk s=>∃ε,s=⟨ε,(σ.set b (.cells [u8 0,u8 0])).set d (.cells [u8 (bh (aH w h)),u8 (bh ((fT k).filter (pC w h)))]),[],.no⟩/\ε 0=xN fb mb w 0/\ε 1=Xn h/\ε 4=.ref b 0/\ε 5=.ref d 0/\ε 39=Xn w.ak.length/\ε 40=Xn k) ⟨_,rfl,by simp[g,i,l,f]⟩ ?_
 rintro M k _ z ⟨ε,rfl,g,i,l,f,j,e⟩ o
 apply rn;simp[j,e];apply aM.intro<;>intro p<;>simp at p<;>simp[g,l,f,e,p,y,af.ah]
 . have a:=iu k (pC w h)
   have r:pC w h k=(decide (bP w k<=72) && decide (bP w k<=h)):=rfl;refine O1 func69 (sK ac ?_)
   split
   . next t=>
     apply rn;simp;refine O1 func70 (Ox ?_);apply rn;simp[e];rw[r,show decide (bP w k<=72)=false by simp;omega,Bool.false_and,wN ap,xx]at a
     refine⟨ac,o _ ac ⟨_,by rw[a],by simp[g,i,l,f,j]⟩⟩
   . next t=>
     apply rn;simp;refine O1 func70 (VH ?_);apply rn;simp[i];rw[r,show decide (bP w k<=72)=true by simp;omega,LN]at a
     apply aM.intro<;>intro u<;>simp at u<;>simp[f,e,u]
     . rw[show decide (bP w k<=h)=true by grind,wS rfl]at a
       have:k=0\/k=1\/k=2:=ac
       refine⟨?_,?_⟩
       all_goals
        refine O1 func118 (Vx ?_)
        rcases this with rfl|rfl|rfl
       all_goals
        apply pg;simp[Ab];apply rn;simp[e]
       all_goals exact o _ ac ⟨_,by rw[a,kP];rfl,by simp[g,i,l,f,j]⟩
     . rw[show decide (bP w k<=h)=false by grind,wN ap,xx]at a
       refine⟨ac,o _ ac ⟨_,by rw[a],by simp[g,i,l,f,j]⟩⟩
 . have ek:k=w.ak.length:=ac
   subst ek;rw[show(fT w.ak.length).filter (pC w h)=aQ w h from rfl]
   refine .less (λc x N=>?_) (.done v)
   grind [af.ah]
end CK
def wY{b o l n}(a:σ b=some (.cells l))(c:l[o]?=some (.lit (.int .u32 n)))(h:KF (.val (T0 (n !=0))) σ):ar prog m 209 [.ref b o] σ KF:=by
 refine S0 [] func209 ?_;simp[f209];refine cQ.ext func227 rfl rfl s8 (e:=Atomic.loadT (.int .u32)) s8 (age (vu b o) a c ?_);apply rn;simp;exact .done h
def aay(h:KF (.val (.lit (.int .u32 1))) σ):ar prog m 239 [T0 true] σ KF:=by
 refine S0 [] func239 ?_;simp[f239];exact .done h
def abr{b o l}(a:σ b=some (.cells l))(c:o<l.length)(h:KF (.val (.cx [])) (σ.set b (.cells (l.set o (.lit (.int .u32 1)))))):ar prog m 228 [.ref b o,T0 true] σ KF:=by
 refine S0 ady func228 ?_;simp[f228];refine O1 func239 (aay ?_);apply pg;simp;refine cQ.ext func238 rfl rfl s8 (e:=Atomic.storeT) s8 (aeD (vu b o) a c ?_);apply pg;simp;apply rn;simp;exact .done h
def aeC{b l f}(a:σ b=some (.cells l))(c:l[0]?=some (.lit (.int .u32 1)))(h:KF (.val (.cx [])) σ):ar prog m 181 [.ref b 0,f] σ KF:=by
 refine S0 [] func181 ?_;simp[f181];refine O1 func209 (wY a c ?_);apply rn;simp;exact .done h
def wkP(d:m.solo=true){b l f}(c:σ b=some (.cells l))(p:l[0]?=some (.lit (.int .u32 0)))(e:l[1]?=some (.lit (.int .i32 0)))(g:l[2]?=some (.lit (.int .u32 0)))
 (h:∀K ,(∀σ' a,σ' b=some (.cells a)->a[0]?=some (.lit (.int .u32 0))->a[1]?=some (.lit (.int .i32 1))->a[2]?=some (.lit (.int .u32 0))->KF (.val (.cx [])) (σ'.set b (.cells ((a.set 0 (.lit (.int .u32 1))).set 1 (.lit (.int .i32 0)))))->K (.val (.cx [])) σ')->cQ prog m f [] (σ.set b (.cells (l.set 1 (.lit (.int .i32 1))))) K):
 ar prog m 210 [.ref b 0,f] σ KF:=by
 refine S0 [] func210 ?_;simp[f210];refine O1 func137 (WC2 GL GM VA d (vu b 1) c e g ?_);apply rn;simp;refine aa.defer rfl rfl rfl rfl ap rfl ?_;apply rn;simp;have i:(σ.set b (.cells (l.set 1 (.lit (.int .i32 1))))) b=some (.cells (l.set 1 (.lit (.int .i32 1)))):=af.aj _ _ _;have j:(l.set 1 (.lit (.int .i32 1)))[0]?=some (.lit (.int .u32 0)):=aq
 refine O1 func209 (wY i j ?_);apply rn;simp;refine aa.defer rfl rfl rfl rfl ap rfl ?_;apply rn;simp;refine h _ λσ' a k n q r o=>?_
 apply rn;simp;refine xT.func func228 rfl rfl (abr k (IK.1 n).1 ?_);refine xT.func func138 rfl rfl (adv GL GM VA d (vu b 1) (af.aj _ _ _) aq aq ?_);rw[af.set_set];exact⟨[],rfl,.done o⟩
def aiD(e:m.solo=true){b l f}(c:σ b=some (.cells l))(d:l[0]?=some (.lit (.int .u32 0)))(g:l[1]?=some (.lit (.int .i32 0)))(h:l[2]?=some (.lit (.int .u32 0)))
 (i:∀K ,(∀σ' a,σ' b=some (.cells a)->a[0]?=some (.lit (.int .u32 0))->a[1]?=some (.lit (.int .i32 1))->a[2]?=some (.lit (.int .u32 0))->KF (.val (.cx [])) (σ'.set b (.cells ((a.set 0 (.lit (.int .u32 1))).set 1 (.lit (.int .i32 0)))))->K (.val (.cx [])) σ')->cQ prog m f [] (σ.set b (.cells (l.set 1 (.lit (.int .i32 1))))) K):
 ar prog m 181 [.ref b 0,f] σ KF:=by
 refine ar.thaw ?_;refine S0 [] func181 ?_;simp[f181];refine O1 func209 (wY c d ?_);apply rn;simp;refine O1 func210 (wkP e c d g h λK j=>i K λσ' a k n o p q=>j σ' a k n o p ?_);apply rn;simp;exact .done (.done q)
end
open Go Go.bu Go.Conc
variable{m:Mo}{σ:af}{KF:YC}
def fU(w:bF)(c:Int):Az:=w.ak.getD c.toNat ⟨⟨0,0,0,[],0,0⟩,0,0⟩
abbrev cJ(w:bF)(es cs:RQ):Fr:={w.fair with ao:=es.map (aU w.fair)++cs.map λc=>(fU w c).lost}
abbrev zr(f:Fr):We:=[Cu f.roads,Xn f.bs,Xn f.fN,Xn f.dN,Xn f.bc]
abbrev Nd:We:=[.lit (.slice none 0 0),.lit (.slice none 0 0),Xn 0,Xn 0,Xn 0,Xn 0]
theorem tA{a a' l}(h:a.W a'):(AV.agg (a::l)).W (.agg (a'::l)):=ig rfl λi x y c b=>by
 cases i with
 |zero=>grind
 |succ i=>simp at c b;rw[c]at b;cases b;exact .refl _
namespace CF
abbrev adQ:YA:=[⟨6,.take [0,2,3,4,5,6,7,8,9,10,13] false (.both 1 (MU [11,12,14] .done) (MU [11] (.take [1] true (MU [12,14] .done))))⟩,⟨11,.take (MX 1 9) false (.both 0 (MU [10,11,12] .done) (MU [10] (.take [0] true (MU [11,12] .done))))⟩]
def Jy{w fb mb x y}(U:∀i∈aB x,0<=i/\i<w.fair.ao.length)(V:∀i∈aB y,0<=i/\i<w.ak.length)(h:KF (.val (bR (cJ w (aB x) (aB y)))) σ):ar prog m 104 [xN fb mb w 0,.agg [u8 x,u8 y]] σ KF:=by
 have X:=rO x;have Y:=rO y;refine S0 adQ func104 ?_
 simp[f104];refine bz.intro λb hb=>?_
 simp;refine bz.intro λd l=>?_
 obtain⟨n1,n2,hd⟩:=af.bd l;simp;refine O1 func63 (nN ?_);apply rn;simp
 refine aa.loop (aB x).length (λk s=>∃ε f a,s=⟨ε,f,[],.no⟩/\ε 0=xN fb mb w 0/\ε 3=.cp (.agg [u8 x,u8 y]) 0/\ε 4=.ref b 0/\ε 5=.ref d 0/\ε 18=Ae (aB x)/\ε 19=Xn (aB x).length/\ε 20=Xn k/\f d=some (.cells (a::zr w.fair))/\Tok (σ.set b (.cells Nd)) f a 6 (((aB x).take k).map λi=>bn (aU w.fair i))) ⟨_,_,_,rfl,ap,ap,ap,ap,ap,ap,ap,af.aj _ _ _,(Tok.nil _ _).beside l (by simp[bG])⟩ ?_
 rintro c0 k _ Z ⟨ε,f,a,rfl,E,R,F,n,qP,xn,Ay,p,g⟩ K
 have L:=g.cells;apply rn;simp[xn,Ay];apply aM.intro<;>intro o<;>simp at o<;>simp[E,R,n,qP,Ay,o]
 . obtain⟨i,r⟩:∃i,(aB x)[k]=i:=⟨_,rfl⟩
   have t:=U i (r ▸ lb o);have j:i.toNat<w.fair.ao.length:=ac
   have M:aU w.fair i=w.fair.ao[i.toNat]:=by simp[aU,j]
   simp only[r];have u:w.fair.ao[i.toNat]?=some w.fair.ao[i.toNat]:=kn j;refine⟨t.1,?_⟩;simp[n,p,u]
   have N:((aB x).take (k+1)).map (λi=>bn (aU w.fair i))=((aB x).take k).map (λi=>bn (aU w.fair i))++[bn w.fair.ao[i.toNat]]:=by rw[so o,DL,r,<-M];rfl
   have O:bG a≠some d:=λe=>by obtain⟨_,_,q⟩:=g.bH e;simp_all
   refine⟨?_,?_⟩
   all_goals
    refine aP Ax rfl rfl rfl kG rfl kG rfl vb be (by simp only[zD,HX,Ds,Dv];omega) (σ0:=f.off a) (es:=((aB x).take k).map λi=>bn (aU w.fair i)) (xs:=[bn w.fair.ao[i.toNat]]) (by simpa using g.here.1) (.inr ⟨_,by simp;rfl⟩) λa' P A=>?_
    have G:=A.cells;have S:P d=some (.cells (a::zr w.fair)):=A.1 _ _ (by rw[af.hQ O];exact p)
    have B:=A.base g.here.2;rw[<-N]at B;apply pg;simp[S,G.1,G.2,aI];apply rn;simp[Ay];refine⟨ac,K _ ac ⟨_,_,a',rfl,by simp[E],by simp[R],by simp[F],by simp[n],by simp[qP],by simp[xn],ap,af.aj _ _ _,B.beside l (λe=>by obtain⟨_,_,q⟩:=B.bH e;rw[S]at q;cases q)⟩⟩
 . have ek:k=(aB x).length:=ac
   subst ek;rw[zH]at g;refine O1 func63 (nN ?_);apply rn;simp
   have H:a.W (kg ((aB x).map (aU w.fair)++(((aB y).take 0).map λc=>(fU w c).lost))):=by simp only[List.take_zero,List.map_nil,xx];have:=g.W;show a.W (.sl 6 (((aB x).map (aU w.fair)).map bn) .any);rw[List.map_map];exact this
   refine aa.loop (aB y).length (λk s=>∃ε f z,s=⟨ε,f,[],.no⟩/\ε 0=xN fb mb w 0/\ε 4=.ref b 0/\ε 5=.ref d 0/\ε 41=Ae (aB y)/\ε 42=Xn (aB y).length/\ε 43=Xn k/\f d=some (.cells (z::zr w.fair))/\(z.cells=[z]/\z.flat=true)/\z.W (kg ((aB x).map (aU w.fair)++(((aB y).take k).map λc=>(fU w c).lost)))/\(σ.set b (.cells Nd)).Le f) ⟨_,_,a,rfl,by simp[E],by simp[F],by simp[n],ap,ap,ap,p,L,H,g.1⟩ ?_
   rintro T k _ Z ⟨ε,f,z,rfl,E,F,n,I,J,C,p,Q,H,D⟩ K
   have qb:f b=some (.cells Nd):=D _ _ (af.aj _ _ _);apply rn;simp[J,C];apply aM.intro<;>intro o<;>simp at o<;>simp[E,F,n,I,C,p,qb,Q.2,o,aI]
   . obtain⟨i,r⟩:∃i,(aB y)[k]=i:=⟨_,rfl⟩
     have t:=V i (r ▸ lb o);have j:i.toNat<w.ak.length:=ac
     have M:fU w i=w.ak[i.toNat]:=by simp[fU,j]
     simp only[r];have u:w.ak[i.toNat]?=some w.ak[i.toNat]:=kn j;refine⟨t.1,?_⟩;simp[n,p,u]
     have N:((aB y).take (k+1)).map (λc=>(fU w c).lost)=((aB y).take k).map (λc=>(fU w c).lost)++[w.ak[i.toNat].lost]:=by rw[so o,DL,r,<-M];rfl
     have hW:Wl [AV.agg (z::zr w.fair),.sl 6 [bn w.ak[i.toNat].lost] .exact] [bR (cJ w (aB x) ((aB y).take k)),kg [w.ak[i.toNat].lost]]:=.cons (tA H) (.cons (eo _ _ _) .nil);refine⟨?_,?_⟩
     all_goals
      refine bp func80 rfl rfl hW (KW (by simp only[zR,zD,HX,Ds,Dv];omega) ?_)
      rw[IG,<-N];apply pg;simp[n,p];apply rn;simp[C];refine⟨ac,K _ ac ⟨_,_,_,rfl,by simp[E],by simp[F],by simp[n],by simp[I],by simp[J],ap,af.aj _ _ _,⟨rfl,rfl⟩,by simp only[List.map_take];exact .refl _,af.bZ D l⟩⟩
   . have ek:k=(aB y).length:=ac
     subst ek;rw[zH]at H;refine .dp (tA H) (.less (λc v hv=>?_) (.done h))
     have T:c≠b:=am
     rw[af.ah _ _ T];exact D _ _ (by grind [af.ah])
end CF
def jc(f:Fr)(x y:Int):Int:=dZ (((aG f []).filter (bo x y)).length:Int) (aG f []).length
def GV(n:Int):Nat:=if n=1 then 150 else if n=3 then 305 else 223
abbrev EL(n:Int):AV:=.pH (GV n) (.agg [])
def An(n:Int):AV:=if n=0 then .lit .nilIface else EL n
def mG(f:Fr)(es cs:RQ)(x:Nat)(N:RQ):RQ:=(List.range cs.length).foldl (λN y=>N.set (3*(es.getD x 0).toNat+(cs.getD y 0).toNat) (jc f x ((es.length:Int)+y))) N
def rL(f:Fr)(es cs:RQ):RQ:=(List.range es.length).foldl (λN x=>mG f es cs x N) (List.replicate 18 0)
abbrev Cc(a b:Int)(N:RQ):We:=[.lit (.int .u32 a),.lit (.int .i32 b),.lit (.int .u32 0)]++N.map An
def VJ  f   x y :jc f x y≠0:=by unfold jc dZ;omega
theorem oP{σ:af}{b x}(h:σ b=some x):σ.set b x=σ:=by
 funext c;by_cases e:c=b
 . simp_all
 . simp[af.set,e]
theorem VK  f   es cs   x   N :(mG f es cs x N).length=N.length:=by
 have key:∀(l:ZB) (N:RQ),(l.foldl (λN y=>N.set (3*(es.getD x 0).toNat+(cs.getD y 0).toNat) (jc f x ((es.length:Int)+y))) N).length=N.length:=λl=>by
  induction l with
  |nil=>grind
  |cons a l b=>grind
 exact key _ N
def akP{a b c}{N:RQ}{i j n}(f:3*i+j<N.length)(d:n≠0):aI (a::b::c::N.map An) (3+i*3+j) [EL n]=a::b::c::(N.set (3*i+j) n).map An:=by
 have e:3+i*3+j=3*i+j+1+1+1:=ac
 rw[e];unfold aI;rw[LH,List.set_eq_take_append_cons_drop,wS aq];simp[An,d]
def VL(Q:m.solo=true){w fb mb bk x y}(K:∀i∈aB x,0<=i/\i<w.fair.ao.length)(L:∀i∈aB y,0<=i/\i<w.ak.length)(D:(cJ w (aB x) (aB y)).Good)(R:aG (cJ w (aB x) (aB y)) []≠[])(h6:w.fair.ao.length<=6/\w.ak.length<=3)
 (hb:σ bk=some (.cells (Cc 0 1 (List.replicate 18 0)))) (h:KF (.val (.cx [])) (σ.set bk (.cells (Cc 0 1 (rL (cJ w (aB x) (aB y)) (aB x) (aB y)))))):
 ar prog m 182 [.cp (xN fb mb w 0) 0,.cp (.agg [u8 x,u8 y]) 0,.cp (.ref bk 0) 0] σ KF:=by
 have S:=rO x;have T:=rO y;refine S0 adp func182 ?_;simp[f182]
 repeat' first
  |refine⟨?_,?_⟩
  | (refine O1 func104 (CF.Jy K L ?_)
     apply pg;simp)
  | (refine O1 func63 (nN ?_)
     apply pg;simp)
  | (refine qB.intro λd hd=>?_
     simp)
 all_goals
  refine aa.bj 3 (b:=d) (bR (cJ w (aB x) (aB y))) (af.aj _ _ _) ap rfl ?_;rw[cy hd];apply rn;simp;refine aa.loop (aB x).length (λk s=>∃ε N,s=⟨ε,σ.set bk (.cells (Cc 0 1 N)),[],.no⟩/\N.length=18/\N=(List.range k).foldl (λN i=>mG (cJ w (aB x) (aB y)) (aB x) (aB y) i N) (List.replicate 18 0)/\ε 2=.cp (.ref bk 0) 0/\ε 3=.cp (bR (cJ w (aB x) (aB y))) 0/\ε 4=Ae (aB x)/\ε 5=Ae (aB y)/\ε 21=Ae (aB x)/\ε 22=Xn (aB x).length/\ε 23=Xn k) ⟨_,List.replicate 18 0,by rw[oP hb],rfl,rfl,ap⟩ ?_;rintro c0 k _ hk ⟨ε,N,rfl,U,p,q,r,u,v,yo,BS,NI⟩ V;apply rn;simp[BS,NI];apply aM.intro<;>intro B<;>simp at B<;>simp[v,yo,NI,B]
  . obtain⟨i,E⟩:∃i,(aB x)[k]=i:=⟨_,rfl⟩
    have W:=K i (E ▸ lb B);have F:(aB x).getD k 0=i:=by simp[sg,B,E]
    refine aa.loop (aB y).length (λj s=>∃ε g,s=⟨ε,σ.set bk (.cells (Cc 0 1 g)),[],.no⟩/\g.length=18/\g=(List.range j).foldl (λN M=>N.set (3*i.toNat+((aB y).getD M 0).toNat) (jc (cJ w (aB x) (aB y)) k (((aB x).length:Int)+M))) N/\ε 2=.cp (.ref bk 0) 0/\ε 3=.cp (bR (cJ w (aB x) (aB y))) 0/\ε 4=Ae (aB x)/\ε 5=Ae (aB y)/\ε 21=Ae (aB x)/\ε 22=Xn (aB x).length/\ε 23=Xn k/\ε 6=Xn k/\ε 7=Xn i/\ε 28=Ae (aB y)/\ε 29=Xn (aB y).length/\ε 30=Xn j) ⟨_,N,rfl,U,rfl,by simp[q,r,u,v,yo,BS,NI,E]⟩ ?_;rintro c1 j _ hj ⟨ε,g,rfl,l,e,q,r,u,v,yo,BS,NI,O,P,z,A,n⟩ G;apply rn;simp[A,n];apply aM.intro<;>intro C<;>simp at C<;>simp[r,u,NI,O,z,n,C]
    . obtain⟨c,o⟩:∃c,(aB y)[j]=c:=⟨_,rfl⟩
      have X:=L c (o ▸ lb C);have H:(aB y).getD j 0=c:=by simp[sg,C,o]
      have Y:(cJ w (aB x) (aB y)).ao.length=(aB x).length+(aB y).length:=ap
      simp only[o];refine⟨ac,?_⟩;refine O1 func183 (X6 (f:=cJ w (aB x) (aB y)) Q D.fits D.Jc ⟨ac,ac⟩ ac R (Nat.lt_of_le_of_lt (sM D _) be) ?_);apply rn;simp[q,P];refine⟨ac,ac,?_⟩;refine O1 func184 (BKU (t:=GV (jc (cJ w (aB x) (aB y)) k (((aB x).length:Int)+j))) rfl ?_);have I:3+i.toNat*3+c.toNat<=20:=ac
      have J:=λa b d=>akP (a:=a) (b:=b) (c:=d) (N:=g) (i:=i.toNat) (j:=c.toNat) ac (VJ (cJ w (aB x) (aB y)) k (((aB x).length:Int)+j))
      apply pg;simp[l,I,J];apply rn;simp[n];simp only[<-List.map_set];refine⟨ac,G _ ac ⟨_,g.set (3*i.toNat+c.toNat) (jc (cJ w (aB x) (aB y)) k (((aB x).length:Int)+j)),rfl,by rw[KU];exact l,?_,by simp[q,r,u,v,yo,BS,NI,O,P,z,A]⟩⟩;rw[zU,ET,<-e];simp only[HW,Is,H]
    . have Z:j=(aB y).length:=ac
      subst Z;refine⟨ac,V _ ac ⟨_,g,rfl,l,?_,by simp[q,r,u,v,yo,BS]⟩⟩;rw[zU,ET,<-p];simp only[HW,Is];unfold mG;rw[F];exact e
  . have ek:k=(aB x).length:=ac
    subst ek;refine .done ?_;rw[p];exact h
def Zn:Jd prog 178 98 221 96 .u8:=.of s8 s8 s8 s8
abbrev EM(w:bF)(p:Int × Int):RQ:=rL (cJ w (aB p.1) (aB p.2)) (aB p.1) (aB p.2)
def je(w:bF)(mb:Nat)(σ:af):Prop:=∃l,σ mb=some (tw (wi .u8) l)/\∀p a,gg l p=some a->∃bk,a=.ref bk 0/\bk≠mb/\σ bk=some (.cells (Cc 1 0 (EM w p)))
def jR(mb:Nat)(σ σ':af):Prop:=∀c x,σ c=some x->c≠mb->σ' c=some x
theorem jR.refl  mb   σ :jR mb σ σ:=λ_ _ h _=>h
theorem jR.trans{mb a b c}(h:jR mb a b)(e:jR mb b c):jR mb a c:=λd x q n=>e d x (h d x q n) n
structure bF.Bk(w:bF)  x y :Prop where
 hx:∀i∈aB x,0<=i/\i<w.fair.ao.length
 hy:∀i∈aB y,0<=i/\i<w.ak.length
 wA:(cJ w (aB x) (aB y)).Good
 some:aG (cJ w (aB x) (aB y)) []≠[]
def wkL{l}{p q:Int × Int}{a b}(h:gg (l++[(q,b)]) p=some a):gg l p=some a\/p=q/\a=b:=by
 unfold gg at h ⊢;cases e:l.find? _ with
 |some r=>grind
 |none=>grind
def VM(G:m.solo=true){w fb mb x y}(hb:w.Bk x y)(N:w.fair.ao.length<=6/\w.ak.length<=3)(O:je w mb σ)
 (h:∀bk σ',je w mb σ'->jR mb σ σ'->σ' bk=some (.cells (Cc 1 0 (EM w (x,y))))->KF (.val (.ref bk 0)) σ'):ar prog m 140 [xN fb mb w 0,.agg [u8 x,u8 y]] σ KF:=by
 obtain⟨l,z,q⟩:=O;refine ar.start Ax [15] adm 2 func140 rfl rfl (by rfl) s8 ?_;simp[f140];have f:∀{o:Oper}{ε:Env}{σ:af}{K P:CU},o.op=.lookup 178 (.tmp 9) (.tmp 10) false->ε 9=.map mb->ε 10=wi .u8 (x,y)->σ mb=some (tw (wi .u8) l)->K ((gg l (x,y)).getD (.lit (.pointer none))) σ->bt prog o ε σ K P:=λQ R B S C=>Dj Ax (Zn.key Ax P7 rfl) Q ada R B S C
 have j:gg l (x,y)=none\/∃bk,gg l (x,y)=some (.ref bk 0)/\bk≠mb/\σ bk=some (.cells (Cc 1 0 (EM w (x,y)))):=by
  cases e:gg l (x,y)with
  |none=>grind
  |some a=>grind
 rcases j with g|⟨bk,g,T,s⟩
 . refine⟨f rfl ap (by simp[wi]) z ?_,?_⟩
   rotate_left
   refine qB.intro λd hd=>?_
   have t:mb≠d:=am;simp;refine f rfl ap (by simp[wi]) (by grind [af.ah]) ?_;rw[g];refine aR.go Ax [15] ?_;simp
   rotate_left
   rw[g];refine aR.go Ax [15] ?_;simp;refine qB.intro λd hd=>?_
   have t:mb≠d:=am;simp
   all_goals
    refine aa.run Ax [15] ?_;simp;refine sf (vx:=.pointer none) (vy:=.pointer none) (r:=.bool true) rfl (by simp_all [mr]) (by simp_all [mr]) s8 ?_;refine aa.run Ax [15] ?_;simp;refine bz.intro λbk u=>?_
    obtain⟨U,V,H⟩:=af.bd u;have A:mb≠bk:=am;simp[V,af.ah];refine xW (Zn.key Ax P7 rfl) rfl (b:=mb) (l:=l) (n:=(x,y)) (a:=.ref bk 0) ap (by simp[wi]) ap (by simp[af.set,t,A,z]) g ?_;refine aR.go Ax [15] ?_;simp;refine aa.bj 5 (b:=d) (.ref bk 0) (by simp[af.set,vj t]) ap rfl ?_;refine aa.lh (λe i=>(e 2=.cp (xN fb mb w 0) 0/\e 3=.cp (.agg [u8 x,u8 y]) 0/\e 5=.cp (.ref bk 0) 0)/\i mb=some (tw (wi .u8) (l++[((x,y),.ref bk 0)]))/\i bk=some (.cells (Cc 0 0 (List.replicate 18 0)))/\jR mb σ i) ⟨ap,by simp[af.set,af.del,t],by simp[af.set,af.del,U,vj A,List.replicate,An],λc v D k=>?_⟩ ?_
    . have W:c≠d:=am
      have E:c≠bk:=am;simp[af.set,af.del,W,E,k,D]
    rintro ε i ⟨⟨X,Y,I⟩,Z,q2,J⟩;refine aa.run Ax [15] ?_;simp[X,Y,I];refine O1 func181 (aiD G q2 rfl rfl rfl λK C=>fS func182 rfl rfl rfl (VL G hb.hx hb.hy hb.wA hb.some N (af.aj _ _ _) (C _ _ (af.aj _ _ _) rfl rfl rfl ?_)));simp only[af.set_set];refine aa.run Ax [15] ?_;simp[I];refine .done (h bk _ ⟨_,(af.ah _ _ A).trans Z,λp a F=>?_⟩ (λc v D k=>?_) (af.aj _ _ _))
    . rcases wkL F with F|⟨rfl,rfl⟩
      . obtain⟨L,rfl,M,h2⟩:=q _ _ F
        have h3:L≠bk:=am;exact⟨L,rfl,M,(af.ah _ _ h3).trans (J _ _ h2 M)⟩
      . exact⟨bk,rfl,vj A,af.aj _ _ _⟩
    . have E:c≠bk:=am
      exact(af.ah _ _ E).trans (J _ _ D k)
 . refine⟨f rfl ap (by simp[wi]) z ?_,?_⟩
   rotate_left
   refine qB.intro λd hd=>?_
   have t:mb≠d:=am;simp;refine f rfl ap (by simp[wi]) (by grind [af.ah]) ?_;rw[g];refine aR.go Ax [15] ?_;simp
   rotate_left
   rw[g];refine aR.go Ax [15] ?_;simp;refine qB.intro λd hd=>?_
   simp
   all_goals
    refine aa.bj 5 (b:=d) (.ref bk 0) (af.aj _ _ _) ap rfl ?_;rw[cy hd];refine aa.run Ax [15] ?_;simp;refine sf (vx:=.pointer (some ⟨bk,0,none⟩)) (vy:=.pointer none) (r:=.bool false) rfl (by simp_all [Ep]) (by simp_all [mr]) s8 ?_;refine aa.run Ax [15] ?_;simp;refine O1 func181 (aeC s rfl ?_);refine aa.run Ax [15] ?_;simp;exact .done (h bk σ ⟨l,z,q⟩ (.refl mb σ) s)
abbrev kE(w:bF)(h:Int):Int:=bh (aH w h)
abbrev kC(w:bF)(h:Int):Int:=bh (aQ w h)
structure bF.Open(w:bF):Prop where
 jo:w.fair.ao.length<=6/\w.ak.length<=3
 bk:∀h,w.Bk (kE w h) (kC w h)
def fV(w:bF)(h i c:Int):Int:=(EM w (kE w h,kC w h)).getD (3*i.toNat+c.toNat) 0
def ajG  f   es cs :(rL f es cs).length=18:=by
 have key:∀(l:ZB) (N:RQ),(l.foldl (λN x=>mG f es cs x N) N).length=N.length:=λl=>by
  induction l with
  |nil=>grind
  |cons a l b=>grind [VK]
 exact key _ _
def K0(l:m.solo=true){w fb mb h i c}(b:w.Open)(hi:0<=i/\i<6)(d:0<=c/\c<3)(o:je w mb σ)(f:∀σ',je w mb σ'->jR mb σ σ'->KF (.val (EL (fV w h i c))) σ'):ar prog m 100 [xN fb mb w 0,Xn h,Xn i,Xn c] σ KF:=by
 refine S0 [] func100 ?_
 simp[f100];refine O1 func62 (CK.A8 b.jo.1 b.jo.2 ?_);apply rn;simp;refine O1 func140 (VM l (b.bk h) b.jo o λbk σ' p q g=>?_)
 have hlen:=ajG (cJ w (aB (kE w h)) (aB (kC w h))) (aB (kE w h)) (aB (kC w h));obtain⟨N,j⟩:=S1 (EM w (kE w h,kC w h));have r:N.length=18:=am
 have s:fV w h i c=N.getD (3*i.toNat+c.toNat) 0:=by rw[j];rfl
 rw[<-j]at g
 have a:(AV.lit (.int .u32 1)::.lit (.int .i32 0)::.lit (.int .u32 0)::N.map An)[3+i.toNat*3+c.toNat]?=some (An (fV w h i c)):=by
  have e:3+i.toNat*3+c.toNat=3*i.toNat+c.toNat+3:=ac
  have t:3*i.toNat+c.toNat<N.length:=ac
  grind
 generalize fV w h i c=n at f a;apply rn;simp[g,hi.1,hi.2,d.1,d.2,a]
 by_cases k:n=0
 . subst k
   refine dP Ax rfl Y8 rfl (.inl ⟨by simp[An],rfl⟩) (.inr ⟨rfl,rfl⟩) ?_
   apply rn;simp;exact .done (f σ' p q)
 . have e:An n=EL n:=wN k
   rw[e];refine dP Ax rfl Y8 rfl (.inr ⟨⟨GV n,.agg [],ap⟩,rfl⟩) (.inr ⟨rfl,rfl⟩) ?_
   apply rn;simp;exact .done am
def nv(n:Int):Bool:=n==1||n==3
def Bu{t f:Nat}(h:bQ prog (Go.method (prog.types.size+Made.depth) t (.agg #[])  "palfrey/cry.holds")=some (f,.agg #[])):tv prog t  "palfrey/cry.holds" f (.agg []) (.agg []):=wX λk v a=>by
 cases a with
 | agg c l b d=>
   obtain⟨c⟩:=c
   match c,b with
   |[],_=>exact⟨_,h,.agg _ _ rfl ac⟩
def afF(h:KF (.val (T0 true)) σ):ar prog m 264 [.agg []] σ KF:=by
 refine S0 [] func264 ?_;simp;exact .done h
def aey(h:KF (.val (T0 true)) σ):ar prog m 281 [.agg []] σ KF:=by
 refine S0 [] func281 ?_;simp;exact .done h
def aei(h:KF (.val (T0 false)) σ):ar prog m 266 [.agg []] σ KF:=by
 refine S0 [] func266 ?_;simp;exact .done h
def VN(b:m.solo=true){w fb mb h i c}(d:w.Open)(hi:0<=i/\i<6)(f:0<=c/\c<3)(g:je w mb σ)(a:∀σ',je w mb σ'->jR mb σ σ'->KF (.val (T0 (nv (fV w h i c)))) σ'):ar prog m 119 [Xn c,.cp (xN fb mb w 0) 0,.cp (Xn h) 0,.cp (Xn i) 0] σ KF:=by
 refine S0 [] func119 ?_
 simp[f119];refine O1 func100 (K0 b d hi f g λσ' j k=>?_)
 have a:=a σ' j k;generalize fV w h i c=n at a;unfold nv at a
 by_cases l:n=1
 . subst l
   apply rn;simp;refine aa.invoke rfl rfl rfl ap rfl (Bu s8) func264 rfl rfl (afF ?_)
   apply rn;simp;exact .done a
 by_cases o:n=3
 . subst o
   apply rn;simp;refine aa.invoke rfl rfl rfl ap rfl (Bu s8) func281 rfl rfl (aey ?_)
   apply rn;simp;exact .done a
 have e:EL n=.pH 223 (.agg []):=by unfold EL GV;grind
 rw[e];apply rn;simp;refine aa.invoke rfl rfl rfl ap rfl (Bu s8) func266 rfl rfl (aei ?_)
 apply rn;simp;rw[show(n==1)=false by simp_all,show(n==3)=false by simp_all]at a
 exact .done a
theorem Ao{σ0 σ σ2 a kk es}(h:Tok σ0 σ a kk es)(d:∀b e,σ b=some (.tail e)->σ2 b=some (.tail e)):Tok (σ2.off a) σ2 a kk es:=by
 rcases h.2 with⟨rfl,rfl⟩|rfl|⟨b,e,_,rfl,f⟩
 . exact⟨af.le_refl _,am⟩
 . exact⟨af.le_refl _,am⟩
 . refine⟨λc x g=>?_,.inr (.inr ⟨b,e,by simp[af.off,bG,af.del],rfl,d b e f⟩)⟩
   simp  [af.off,bG,af.del]at g
   grind
structure Q7(I:FC)  mb :Prop where
 le:∀{σ σ'},I σ->(∀c x,σ c=some x->(∀e,x≠.tail e)->σ' c=some x)->I σ'
 mb:∀{σ},I σ->∀e,σ mb≠some (.tail e)
theorem Ng{σ0 σ a kk es}(h:Tok σ0 σ a kk es){c x}(b:σ c=some x)(d:∀e,x≠.tail e):(σ.off a) c=some x:=by
 rw[af.hQ λe=>?_]
 . omega
 . obtain⟨_,n,q⟩:=h.bH e
   grind
def Sw{I mb}(w:Q7 I mb){f l p}(T:l.length<=1000)(y:f.flat=true)
 (O:∀x∈l,∀  σ   K ,I σ->(∀σ',I σ'->jR mb σ σ'->K (.val (T0 (p x))) σ')->cQ prog m f [Xn x] σ K)
 (P:I σ) (h:∀σ',I σ'->jR mb σ σ'->KF (.val (Ae (l.filter p))) σ'):ar prog m 114 [.agg [f],Ae l] σ KF:=by
 refine S0 [] func114 ?_
 simp[f114];refine⟨y,?_⟩;refine aa.loop l.length (λk s=>∃ε σ' a,s=⟨ε,σ',[],.no⟩/\ε 2=.cp (.agg [f]) 0/\ε 8=Ae l/\ε 9=Xn l.length/\ε 10=Xn k/\ε 5=a/\I σ'/\Tok (σ'.off a) σ' a 1 (((l.take k).filter p).map Xn)/\jR mb σ (σ'.off a)) ?_ ?_
 . refine⟨_,σ,AV.nil,rfl,?_,?_,?_,?_,?_,P,Tok.nil σ 1,jR.refl mb σ⟩<;>simp
 rintro U k _ V ⟨ε,σ',a,rfl,z,A,B,er,u,C,d,hb⟩ H
 apply rn;simp[B,er];apply aM.intro<;>intro D<;>simp at D<;>simp[z,A,er,u,D]
 . have J:(l.take (k+1)).filter p=(l.take k).filter p++if p l[k]then[l[k]]else[]:=by
    grind [List.take_succ_eq_append_getElem]
   have Q:((l.take k).filter p).length<=k:=am
   refine O _ (lb D) _ _ C λσ2 L i=>?_
   have j:=Ao d (σ2:=σ2) (λb e o=>i b _ o λq=>w.mb C e (q ▸ o))
   have g:jR mb σ (σ2.off a):=λc x r v=>by
    have M:=hb c x r v;have E:bG a≠some c:=λe=>by obtain⟨n,_⟩:=d.bH e;grind
    rw[af.hQ E]at M ⊢;exact i c x M v
   apply rn;simp;cases N:p l[k]
   . rw[N,wN ap,xx]at J
     simp[er];refine⟨ac,H _ ac ⟨_,σ2,a,rfl,?_,?_,?_,?_,?_,L,am,g⟩⟩<;>simp[z,A,B,u]
   . rw[N,wS rfl]at J
     simp[u];refine aP Ax rfl rfl rfl bX rfl bX rfl nM be am (σ0:=σ2.off a) (es:=((l.take k).filter p).map Xn) (xs:=[Xn l[k]]) (by simpa[u]using j) (.inr ⟨_,by simp;rfl⟩) λR F t=>?_
     apply rn;simp[er];have G:=t.here;refine⟨ac,H _ ac ⟨_,F,R,rfl,?_,?_,?_,?_,?_,w.le L λc x r S=>t.1 _ _ (Ng j r S),am,λc x r v=>G.2 _ _ (g c x r v)⟩⟩<;>simp[z,A,B]
 . have ek:k=l.length:=ac
   subst ek;rw[zH]at d;refine .dp d.W (.less d.1 (.done (h _ (w.le C (by grind [Ng])) hb)))
def yH  w   mb :Q7 (je w mb) mb where
 le h hk:=by
  obtain⟨l,b,c⟩:=h;refine⟨l,hk _ _ b (by simp[tw]),λp a d=>?_⟩
  grind
 mb h e q:=by obtain⟨l,b,_⟩:=h;rw[b]at q;simp[tw]at q
def fE{n x}(h:x∈fT n):0<=x/\x<n:=am
def iF  n :(fT n).length=n:=am
def rV(w:bF)(h i:Int):RQ:=(fT w.ak.length).filter λc=>nv (fV w h i c)
def dc(w:bF)(h:Int):RQ:=(fT w.fair.ao.length).filter λi=>decide (0<(rV w h i).length)
def HM(c:m.solo=true){w fb mb h i}(b:w.Open)(hi:0<=i/\i<6)(d:je w mb σ)(a:∀σ',je w mb σ'->jR mb σ σ'->KF (.val (Ae (rV w h i))) σ'):ar prog m 66 [xN fb mb w 0,Xn h,Xn i] σ KF:=by
 have j:=b.jo.2;refine S0 [] func66 ?_;simp;refine O1 func92 (xu ac ?_);apply rn;simp;refine O1 func114 (Sw (yH w mb) am rfl (λx k σ K e a=>fS func119 rfl rfl rfl (VN c b hi am e a)) d λσ' f g=>?_);apply rn;simp;exact .done (a σ' f g)
def VO(a:m.solo=true){w fb mb h i}(b:w.Open)(hi:0<=i/\i<6)(c:je w mb σ)(d:∀σ',je w mb σ'->jR mb σ σ'->KF (.val (T0 (decide (0<(rV w h i).length)))) σ'):ar prog m 115 [Xn i,.cp (xN fb mb w 0) 0,.cp (Xn h) 0] σ KF:=by
 refine S0 [] func115 ?_;simp;refine O1 func66 (HM a b hi c λσ' e f=>?_);apply rn;simp;refine .done ?_
 grind
def zx(c:m.solo=true){w fb mb h}(b:w.Open)(d:je w mb σ)(a:∀σ',je w mb σ'->jR mb σ σ'->KF (.val (Ae (dc w h))) σ'):ar prog m 57 [xN fb mb w 0,Xn h] σ KF:=by
 have i:=b.jo.1;refine S0 [] func57 ?_;simp;refine O1 func92 (xu ac ?_);apply rn;simp;refine O1 func114 (Sw (yH w mb) am rfl (λx j σ K e a=>fS func115 rfl rfl rfl (VO c b am e a)) d λσ' f g=>?_);apply rn;simp;exact .done (a σ' f g)

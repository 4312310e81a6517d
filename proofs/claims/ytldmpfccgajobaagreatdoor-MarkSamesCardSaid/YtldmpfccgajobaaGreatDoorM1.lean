import Derived.Test.YtldmpfccgajobaaGreatDoorC37
set_option linter.all false
namespace Go.Proofs.YtldmpfccgajobaaGreatDoor
open Go.aR
abbrev Vm:List Entry:=[⟨3,.take [0,1,2] false (.one 3 (.one 4 (.take [5] true (.done))))⟩,⟨19,.take [0,1,2,3,4,5,6,7,8] false (.one 9 (.take [10,11,12,13,14] true (.done)))⟩,⟨20,.take [0,1,2,3,4,5,6,7,8,9,10,11] false (.one 12 (.take [13,14,15,16,17] true (.done)))⟩,⟨25,.take [0,1,2,3,4,5] false (.one 6 (.take [7,8,9,10,11,12,13,14] false (.one 15 (.take [16,17] true (.done)))))⟩]
abbrev IN:List Entry:=[⟨5,.take [0,1,2,3,4,5,6,7,8,9,10,11,12,13,14] true (.done)⟩]
end Go.Proofs.YtldmpfccgajobaaGreatDoor
namespace Go.Proofs.YtldmpfccgajobaaGreatDoor
open Go.aR Go.Conc
set_option maxHeartbeats 1000000
set_option maxRecDepth 4000
variable{m:Mo}{σ:aa}{KF:dF->aa->Prop}
theorem ib(r:m.solo=true){f:Fr}{l:List Int}{sp:bX}(o:f.Fits)(p:check f=0)(s:∀n∈l,0<=n/\n<f.ao.length)(j:l.length<1152921504606846976)(g:am f []=[])(h:∀σ',σ.Le σ'->KF (.val (.bk [.lit (.pointer none),int 11])) σ'):ar Tryz.prog m 62 [az f,.sl 1 (l.map int) sp] σ KF:=by
 have t:=Fr.eh o p;have u:=l8 p s;refine ar.start lay [] [] 2 Tryz.func62 rfl rfl (by rfl) (by kernel_rfl) ?_
 simp[Tryz.f62];have v:Wl [AV.agg (bS f),.sl 1 (l.map int) sp] [az f,ints l]:=.cons (.refl _) (.cons (eE 1 _ sp) .nil);refine aT Tryz.func59 rfl rfl v (fI o j (λq=>absurd u q) λ_ b mb σ' d=>?_)
 have w:rj b 6 mb .u8 (cO f) σ':=by rw[d.eq];exact⟨aa.an _ _ _,[],(aa.ag _ _ (Ne.symm d.ne)).trans (aa.an _ _ _),λn a h=>by simp[gu]at h⟩
 refine ab.run lay [] ?_;simp;refine ai Tryz.func88 rfl rfl (mR (eo ln lp qH r d.ne) t w λk B y=>?_)
 refine ab.run lay [] ?_;simp[g];refine .done (h k λc x i=>?_)
 have z:c≠b:=λe=>by subst e;rw[d.hb]at i;cases i
 have A:c≠mb:=λe=>by subst e;rw[d.tk]at i;cases i
 exact y c x (d.le c x i) z (.inl A)
def toldOf(n all:Int):Int:=if n=0 then 2 else if n=all then 1 else 3
theorem lD{n all:Int}(c:0<=n)(d:n<=all)(e:0<all):eN n all=toldOf n all:=by
 unfold eN toldOf;by_cases a:n=0
 . subst a;rw[if_neg (by omega),if_neg (by omega),if_pos rfl]
 . rw[if_neg a]
   by_cases b:n=all
   . subst b;rw[if_neg (by omega),if_pos rfl,if_pos rfl]
   . rw[if_pos (by omega),if_neg b]
end Go.Proofs.YtldmpfccgajobaaGreatDoor
namespace Go.Proofs.YtldmpfccgajobaaGreatDoor
open Go.aR Go.Conc
set_option maxHeartbeats 1000000
set_option maxRecDepth 4000
theorem Gp{n all:Int}(h:0<all):toldOf n all=1↔n=all:=by
 unfold toldOf;by_cases a:n=0
 . subst a;simp;omega
 . by_cases b:n=all
   . rw[if_neg a,if_pos b];simp[b]
   . simp[a,b]
theorem kC{α:Type}(p:α->Bool):∀l:List α,(l.filter p).length=l.length↔∀x∈l,p x=true
 |[]=>by simp
 | a ::l=>by
   have b:=kC p l;have:=List.length_filter_le p l;rw[List.filter_cons];by_cases q:p a=true
   . rw[if_pos q,List.length_cons,List.length_cons]
     simp only[List.mem_cons,forall_eq_or_imp,q,true_and,<-b];omega
   . rw[if_neg q,List.length_cons]
     simp only[List.mem_cons,forall_eq_or_imp];constructor
     . intro h;omega
     . intro h;exact absurd h.1 q
section
variable{L:List (List Int)}{n:Nat}
def DA(L:List (List Int))(x y:Nat):Int:=eN ((L.filter (aJ x y)).length:Int) L.length
theorem Gq(a:0<L.length){x y:Nat}:DA L x y=1↔∀w∈L,aJ x y w=true:=by
 have:=List.length_filter_le (aJ (x:Int) y) L;unfold DA;rw[lD (by omega) (by omega) (by omega),Gp (by omega),<-kC];omega
end
def aD(S:Nat->Nat->Bool):Nat->List Int × Int
 |0=>([],0)
 | n+1=>
   match (List.range n).find? (λk=>S k n)with
   |some k=>((aD S n).1++[(aD S n).1.getD k 0],(aD S n).2)
   |none=>((aD S n).1++[(aD S n).2],(aD S n).2+1)
def BO(l:List Int):Int:=l.foldl max (-1)
structure BP(S:Nat->Nat->Bool)(n:Nat)(l:List Int)(many:Int):Prop where
 len:l.length=n
 Me:∀x:Nat,x<n->0<=l.getD x 0/\l.getD x 0<many
 same:∀x y:Nat,x<n->y<n->(l.getD x 0=l.getD y 0↔S x y=true)
 top:BO l=many-1
 low:∀x:Nat,x<n->l.getD x 0<=BO (l.take x)+1
 le:0<=many/\many<=n
theorem vX(l:List Int)(a:Int):BO (l++[a])=max (BO l) a:=by unfold BO;rw[List.foldl_append];rfl
theorem IS(l:List Int)(a:Int)(x:Nat)(h:x<=l.length):(l++[a]).getD x 0=if x<l.length then l.getD x 0 else a:=by
 rw[lM];split
 . rfl
 . rw[if_pos (by omega)]
theorem yG{S:Nat->Nat->Bool}{N:Nat}(o:∀x:Nat,x<N->S x x=true)(m:∀x y:Nat,x<N->y<N->S x y=true->S y x=true)(j:∀x y z:Nat,x<N->y<N->z<N->S x y=true->S y z=true->S x z=true):∀n:Nat,n<=N->BP S n (aD S n).1 (aD S n).2
 |0,_=>⟨rfl,by simp,by simp,rfl,by simp,by simp[aD]⟩
 | n + 1,s=>by
   have b:=yG o m j n (by omega);have hlen:=b.len;have q:=b.le;have f:∀(a:Int) (x:Nat),x<=n->((aD S n).1++[a]).getD x 0=if x<n then(aD S n).1.getD x 0 else a:=λa x h=>by rw[IS _ _ x (by omega),hlen]
   unfold aD;split
   . next k g=>
     have d:=List.find?_some g;have i:=List.mem_range.1 (List.mem_of_find?_eq_some g);have p:=b.Me k i;refine⟨by simp[hlen],λx l=>?_,λx y l r=>?_,?_,λx l=>?_,by omega⟩
     . rw[f _ x (by omega)]
       by_cases e:x<n
       . rw[if_pos e];exact b.Me x e
       . rw[if_neg e];exact p
     . rw [f _ x (by omega),f _ y (by omega)]
       by_cases ex:x<n
       . by_cases c:y<n
         . rw[if_pos ex,if_pos c];exact b.same x y ex c
         . rw[if_pos ex,if_neg c]
           obtain rfl:y=n:=by omega
           rw[b.same x k ex i];exact⟨λh=>j x k y (by omega) (by omega) (by omega) h d,λh=>j x y k (by omega) (by omega) (by omega) h (m k y (by omega) (by omega) d)⟩
       . obtain rfl:x=n:=by omega
         rw[if_neg ex];by_cases c:y<x
         . rw[if_pos c,b.same k y i c]
           exact⟨λh=>j x k y (by omega) (by omega) (by omega) (m k x (by omega) (by omega) d) h,λh=>j k x y (by omega) (by omega) (by omega) d h⟩
         . obtain rfl:y=x:=by omega
           rw[if_neg ex];simp[o y (by omega)]
     . simp only[vX,b.top];omega
     . rw[f _ x (by omega)]
       by_cases e:x<n
       . rw[if_pos e,List.take_append_of_le_length (by omega)];exact b.low x e
       . obtain rfl:x=n:=by omega
         rw[if_neg e,List.take_append_of_le_length (by omega),List.take_of_length_le (by omega),b.top];omega
   . next g=>
     rw[List.find?_eq_none]at g;have g:∀k,k<n->S k n=false:=λk h=>by simpa using g k (List.mem_range.2 h)
     refine⟨by simp[hlen],λx l=>?_,λx y l r=>?_,?_,λx l=>?_,by omega⟩
     . rw[f _ x (by omega)]
       by_cases e:x<n
       . rw[if_pos e];have:=b.Me x e;omega
       . rw[if_neg e];omega
     . rw [f _ x (by omega),f _ y (by omega)]
       by_cases ex:x<n
       . by_cases c:y<n
         . rw[if_pos ex,if_pos c];exact b.same x y ex c
         . rw[if_pos ex,if_neg c]
           obtain rfl:y=n:=by omega
           rw[g x ex];have:=b.Me x ex;exact⟨λh=>by omega,λh=>by cases h⟩
       . obtain rfl:x=n:=by omega
         rw[if_neg ex];by_cases c:y<x
         . rw[if_pos c]
           have:=b.Me y c;exact⟨λh=>by omega,λh=>by have:=m x y (by omega) (by omega) h;rw[g y c]at this;cases this⟩
         . obtain rfl:y=x:=by omega
           rw[if_neg ex];simp[o y (by omega)]
     . simp only[vX,b.top];omega
     . rw[f _ x (by omega)]
       by_cases e:x<n
       . rw[if_pos e,List.take_append_of_le_length (by omega)];exact b.low x e
       . obtain rfl:x=n:=by omega
         rw[if_neg e,List.take_append_of_le_length (by omega),List.take_of_length_le (by omega),b.top];omega
def eF(L:List (List Int))(x y:Nat):Bool:=decide (DA L x y=1)
theorem j7{L:List (List Int)}(a:0<L.length){x y:Nat}:eF L x y=true↔∀w∈L,aJ x y w=true:=by unfold eF;rw[decide_eq_true_eq,Gq a]
theorem tB(x y:Nat)(w:List Int):aJ x y w=aJ y x w:=by simp only[aJ,eq_comm]
theorem DB{x y z:Nat}{w:List Int}(a:aJ x y w=true)(b:aJ y z w=true):aJ x z w=true:=by simp only[aJ,decide_eq_true_eq]at a b ⊢;rw[a,b]
theorem Gr(x:Nat)(w:List Int):aJ x x w=true:=by simp[aJ]
theorem BQ{L:List (List Int)}(a:0<L.length)(n:Nat):BP (eF L) n (aD (eF L) n).1 (aD (eF L) n).2:=
 yG (N:=n) (λx _=>(j7 a).2 λw _=>Gr x w)
  (λx y _ _ h=>(j7 a).2 λw b=>by rw[tB];exact(j7 a).1 h w b)
  (λx y z _ _ _ c d=>(j7 a).2 λw b=>DB ((j7 a).1 c w b) ((j7 a).1 d w b)) n (Nat.le_refl _)
section
variable{L:List (List Int)}{n:Nat}
end
theorem ia{b mb:Nat}{f:Fr}{σ σ':aa}(h:rj b 6 mb .u8 (cO f) σ)(a:σ' b=σ b)(c:σ' mb=σ mb):rj b 6 mb .u8 (cO f) σ':=by unfold rj at h ⊢;rw[a,c];exact h
end Go.Proofs.YtldmpfccgajobaaGreatDoor
namespace Go.Proofs.YtldmpfccgajobaaGreatDoor
open Go.aR Go.Conc
set_option maxHeartbeats 1000000
variable{m:Mo}{σ:aa}{KF:dF->aa->Prop}
theorem dD{f:Fr}{n:Int}(a:f.ao.length<1152921504606846976)(h:KF (.val (bool (bx n 0 (f.ao.length-1)))) σ):ar Tryz.prog m 118 [az f,int n] σ KF:=by
 have f1:-9223372036854775808<=(f.ao.length:Int)-1/\(f.ao.length:Int)-1<=9223372036854775807:=by omega
 refine ar.start lay [] [] 2 Tryz.func118 rfl rfl (by rfl) (by kernel_rfl) ?_;simp[Tryz.f118,f1.1,f1.2];refine ai Tryz.func83 rfl rfl (cr ?_);refine ab.run lay [] ?_;simp;exact .done h
end Go.Proofs.YtldmpfccgajobaaGreatDoor
namespace Go.Proofs.YtldmpfccgajobaaGreatDoor
open Go.aR Go.Conc
set_option maxHeartbeats 1000000
set_option maxRecDepth 4000
variable{m:Mo}{σ:aa}{KF:dF->aa->Prop}
def aA(f:Fr)(asks:Bool)(x y:Int):Int:=if check f≠0 then check f else if asks=true/\¬(bx x 0 (f.ao.length-1)=true/\bx y 0 (f.ao.length-1)=true)then 3 else if am f []=[]then 11 else 0
theorem gL{f:Fr}{asks:Bool}{x y:Int}(j:f.Fits)(a:aA f asks x y≠0->KF (.val (.bk [.lit (.slice none 0 0),int (aA f asks x y)])) σ)(d:aA f asks x y=0->check f=0->am f []≠[]->KF (.val (.bk [rows (am f []),int 0])) σ):
 ar Tryz.prog m 66 [az f,bool asks,int x,int y] σ KF:=by
 have g:=j.ao;refine ar.start lay [] [] 4 Tryz.func66 rfl rfl (by rfl) (by kernel_rfl) ?_
 simp[Tryz.f66];refine ai Tryz.func34 rfl rfl (jW j ?_);refine ab.run lay [] ?_;simp;refine aE.intro (λb=>?_) (λb=>?_)<;>simp at b<;>simp[b]
 . have e:aA f asks x y=check f:=by unfold aA;rw[if_pos b]
   rw[e]at a;exact .done (a b)
 have k:=Fr.eh j b;have hlen:=cH k [];cases asks with
 | false=>
   have e:aA f false x y=if am f []=[]then 11 else 0:=by unfold aA;rw[if_neg (by simp[b]),if_neg (by simp)]
   rw[e]at a d;simp
   ((
     refine ai Tryz.func61 rfl rfl (jy k ?_);refine ab.run lay [] ?_;simp;refine aE.intro (λc=>?_) (λc=>?_)<;>simp at c
     . rw[if_pos c]at a
       simp;exact .done (a (by simp))
     . rw[if_neg c]at d
       simp;exact .done (d rfl b c)))
 | true=>
   simp;refine ai Tryz.func118 rfl rfl (dD g ?_);refine ab.run lay [] ?_;simp
   by_cases h:bx x 0 (f.ao.length-1)=true
   . simp [h]
     refine ai Tryz.func118 rfl rfl (dD g ?_);refine ab.run lay [] ?_;simp
     by_cases i:bx y 0 (f.ao.length-1)=true
     . have e:aA f true x y=if am f []=[]then 11 else 0:=by unfold aA;rw[if_neg (by simp[b]),if_neg (by simp[h,i])]
       rw[e]at a d;simp[i]
       ((
         refine ai Tryz.func61 rfl rfl (jy k ?_);refine ab.run lay [] ?_;simp;refine aE.intro (λc=>?_) (λc=>?_)<;>simp at c
         . rw[if_pos c]at a
           simp;exact .done (a (by simp))
         . rw[if_neg c]at d
           simp;exact .done (d rfl b c)))
     . have e:aA f true x y=3:=by unfold aA;rw[if_neg (by simp[b]),if_pos ⟨rfl,λq=>i q.2⟩]
       rw[e]at a;have mE:bx y 0 (f.ao.length-1)=false:=by simpa using i
       simp[mE];exact .done (a (by simp))
   . have e:aA f true x y=3:=by unfold aA;rw[if_neg (by simp[b]),if_pos ⟨rfl,λq=>h q.1⟩]
     rw[e]at a;have jj:bx x 0 (f.ao.length-1)=false:=by simpa using h
     simp[jj];exact .done (a (by simp))
theorem pJ{L:List (List Int)}{n:Int}(h:KF (.val (int (toldOf n L.length))) σ):ar Tryz.prog m 96 [rows L,int n] σ KF:=by
 unfold toldOf at h;refine ar.start lay [] [] 2 Tryz.func96 rfl rfl (by rfl) (by kernel_rfl) ?_;simp[Tryz.f96];refine aE.intro (λa=>?_) (λa=>?_)<;>simp at a
 . rw[if_pos a]at h
   simp;exact .done h
 rw[if_neg a]at h;simp;refine aE.intro (λb=>?_) (λb=>?_)<;>simp at b
 . rw[if_pos b]at h
   simp;exact .done h
 rw[if_neg b]at h;simp;exact .done h
theorem tz{l:List (List Int)}{x y:Int}(B:l.length<1000000000)(o:0<=x/\∀w∈l,x.toNat<w.length)(p:0<=y/\∀w∈l,y.toNat<w.length)(h:KF (.val (int ((l.filter (aJ x y)).length:Int))) σ):ar Tryz.prog m 94 [rows l,int x,int y] σ KF:=by
 refine ar.start lay [] IN 3 Tryz.func94 rfl rfl (by rfl) (by kernel_rfl) ?_;simp[Tryz.f94];refine ab.loop l.length (λi s=>∃env,s=⟨env,σ,[],.no⟩/\env 0=rows l/\env 1=int x/\env 2=int y/\env 7=int (((l.take i).filter (aJ x y)).length:Int)/\env 8=int i) ⟨_,rfl,by simp,by simp,by simp,by simp,by simp⟩ ?_;rintro C i _ D ⟨env,rfl,d,j,k,n,f⟩ t;rcases Nat.lt_or_ge i l.length with g1|g1
 . have z:(i:Int)<l.length:=by omega
   obtain⟨w,g⟩:∃w,w=l[i]:=⟨_,rfl⟩;have b:=o.2 w (by rw[g];exact List.getElem_mem g1);have c:=p.2 w (by rw[g];exact List.getElem_mem g1);have A:((l.take i).filter (aJ x y)).length<=i:=Nat.le_trans (List.length_filter_le _ _) (by rw[List.length_take];omega);have f1:-9223372036854775808<=(i:Int)+1/\(i:Int)+1<=9223372036854775807:=by omega
   have u:-9223372036854775808<=(((l.take i).filter (aJ x y)).length:Int)+1/\(((l.take i).filter (aJ x y)).length:Int)+1<=9223372036854775807:=by omega
   have v:aJ x y w=decide (w[x.toNat]=w[y.toNat]):=by simp[aJ,List.getD_eq_getElem?_getD,b,c]
   have a:(l.take (i+1)).filter (aJ x y)=(l.take i).filter (aJ x y)++if aJ x y w=true then[w]else[]:=by
    rw[List.take_succ_eq_append_getElem g1,List.filter_append,<-g];by_cases e:aJ x y w=true<;>simp[e]
   by_cases q:w[x.toNat]=w[y.toNat]
   . rw[v,if_pos (decide_eq_true q)]at a
     refine ab.run lay [] ?_;simp[d,j,k,f,g1,<-g,o.1,p.1,b,c,beq_iff_eq.2 q];refine ab.run lay [] ?_;simp[n,f,f1.1,f1.2,u.1,u.2];refine t _ g1 ⟨_,rfl,by simp[d],by simp[j],by simp[k],by simp[a],by simp⟩
   . rw[v,if_neg (by simpa using q),List.append_nil]at a
     refine ab.run lay [] ?_;simp[d,j,k,f,g1,<-g,o.1,p.1,b,c,beq_eq_false_iff_ne.2 q];refine ab.run lay [] ?_;simp[f,f1.1,f1.2];refine t _ g1 ⟨_,rfl,by simp[d],by simp[j],by simp[k],by simp[a,n],by simp⟩
 . have r:i=l.length:=by omega
   subst r;rw[List.take_length]at n;refine ab.run lay [] ?_;simp[d,n,f];exact .done h
theorem nu{a b:AV}:(AV.bk [.lit (.slice none 0 0),a]).W (.bk [ints [],a]):=oy rfl λi x y c d=>by
 match i with
 |0=>simp at c d;subst c;subst d;exact cV 1
 |1=>simp at c d;subst c;subst d;exact .refl _
 |i+2=>simp at c
theorem kE{f:Fr}{x y:Int}(h:aA f true x y=0):check f=0/\(0<=x/\x<f.ao.length)/\(0<=y/\y<f.ao.length)/\am f []≠[]:=by
 unfold aA at h;split at h
 . next q=>exact absurd h q
 next q=>
 split at h
 . cases h
 next a=>
 split at h
 . cases h
 next b=>
 have a:bx x 0 (f.ao.length-1)=true/\bx y 0 (f.ao.length-1)=true:=Classical.byContradiction λg=>a ⟨rfl,g⟩
 rw[gx,gx]at a;exact⟨by simpa using q,by omega,by omega,b⟩
theorem eZ{f:Fr}(b:f.Good){w:List Int}(a:w∈am f []):w.length=f.ao.length/\∀x∈w,0<=x/\x<f.most:=by
 refine⟨?_,jY f [] _ _ _ _ (by simp) w a⟩;have:=fP f [] _ _ _ _ w a;simpa using this
def vY(f:Fr)(x y:Int):Int × Int:=if aA f true x y≠0 then(0,aA f true x y)else(toldOf (((am f []).filter (aJ x y)).length:Int) (am f []).length,0)
theorem IT{f:Fr}{x y:Int}(d:f.Fits)(h:KF (.val (.bk [int (vY f x y).1,int (vY f x y).2])) σ):ar Tryz.prog m 40 [az f,int x,int y] σ KF:=by
 unfold vY at h;refine ar.start lay [] [] 3 Tryz.func40 rfl rfl (by rfl) (by kernel_rfl) ?_;simp[Tryz.f40];refine ai Tryz.func66 rfl rfl (gL (asks:=true) d (λa=>?_) λa _ _=>?_)
 . rw[if_pos a]at h
   rw[<-bne_iff_ne]at a;refine ab.run lay [] ?_;simp[a];exact .done h
 . rw[if_neg (by simp[a])]at h
   obtain⟨e,g,i,j⟩:=kE a;have b:=Fr.eh d e;have hlen:=cH b [];refine ab.run lay [] ?_;simp;refine ai Tryz.func94 rfl rfl (tz (by omega) ⟨g.1,λw c=>by rw[(eZ b c).1];omega⟩ ⟨i.1,λw c=>by rw[(eZ b c).1];omega⟩ ?_);refine ab.run lay [] ?_;simp;refine ai Tryz.func96 rfl rfl (pJ ?_);refine ab.run lay [] ?_;simp;exact .done h
theorem gy{f:Fr}(h:aA f false 0 0=0):check f=0/\am f []≠[]:=by
 unfold aA at h;split at h
 . next q=>exact absurd h q
 next q=>
 rw[if_neg (by simp)]at h;split at h
 . cases h
 next a=>exact⟨by simpa using q,a⟩
end Go.Proofs.YtldmpfccgajobaaGreatDoor
namespace Go.Proofs.YtldmpfccgajobaaGreatDoor
open Go.aR Go.Conc
set_option maxHeartbeats 2000000
set_option maxRecDepth 4000
variable{m:Mo}{σ:aa}{KF:dF->aa->Prop}
theorem Ak{σ0 σ:aa}{a:AV}{kk:Nat}{es:List AV}(h:Tok σ0 σ a kk es)(c:es≠[]):∃sp,a=.sl kk es sp:=by
 rcases h.2 with⟨_,q⟩|q|⟨b,e,_,q,_⟩
 . exact absurd q c
 . exact⟨_,q⟩
 . exact⟨_,q⟩
theorem Om{σ0 σ σ':aa}{a:AV}{kk:Nat}{es:List AV}{b mb:Nat}(h:Tok σ0 σ a kk es)(g:lq b mb σ σ')(hb:σ0 b=none/\σ0 mb=none)(i:∀e,σ b≠some (.tail e))(j:∀e,σ mb≠some (.tail e)):Tok σ0 σ' a kk es:=by
 refine jC h (λy x c=>?_) λd hd=>?_
 . have k:y≠b:=λe=>by subst e;rw[hb.1]at c;cases c
   have l:y≠mb:=λe=>by subst e;rw[hb.2]at c;cases c
   exact g y x (h.1 y x c) k (.inl l)
 . obtain⟨m,e,f⟩:=h.aY hd
   refine⟨?_,m⟩;rw[f];exact g d _ f (λq=>by subst q;exact i _ f) (.inl λq=>by subst q;exact j _ f)
theorem se{σ0 σ σ':aa}{a a':AV}{kk c:Nat}{es d:List AV}{y:Nat}(h:Tok σ0 σ a kk es)(f:Tok (σ.off a) σ' a' c d)(g:∀e,σ y≠some (.tail e))(i:(σ y).isSome=true):σ' y=σ y:=by
 obtain⟨x,b⟩:=Option.isSome_iff_exists.1 i;rw[b];refine f.1 _ _ ?_;rw[aa.fQ (λq=>by obtain⟨_,e,j⟩:=h.aY q;exact g e j)];exact b
theorem Al{a a' b:AV}(h:a.W a'):(AV.bk [a,b]).W (.bk [a',b]):=oy rfl λi x y c d=>by
 match i with
 |0=>simp at c d;subst c;subst d;exact h
 |1=>simp at c d;subst c;subst d;exact .refl _
 |i+2=>simp at c
theorem DC{S:Nat->Nat->Bool}{n k:Nat}(g:k<n)(b:∀j,j<k->S j n=false)(c:S k n=true):(List.range n).find? (λj=>S j n)=some k:=by
 rw[List.find?_eq_some_iff_append];refine⟨c,List.range k,List.range' (k+1) (n-(k+1)),?_,λa d=>by simp[b a (List.mem_range.1 d)]⟩
 have e:n=k+(1+(n-(k+1))):=by omega
 have f:List.range' 0 k++List.range' k (1+(n-(k+1)))=List.range' 0 n:=by have:=@List.range'_append_1 0 k (1+(n-(k+1)));rw[Nat.zero_add,<-e]at this;exact this
 rw[List.range_eq_range',List.range_eq_range',<-f,Nat.add_comm 1,List.range'_succ]
theorem Mf{S:Nat->Nat->Bool}{n:Nat}(a:∀j,j<n->S j n=false):(List.range n).find? (λj=>S j n)=none:=by rw[List.find?_eq_none];intro j b;simp[a j (List.mem_range.1 b)]
theorem rp{S:Nat->Nat->Bool}{n k:Nat}(h:(List.range n).find? (λj=>S j n)=some k):aD S (n+1)=((aD S n).1++[(aD S n).1.getD k 0],(aD S n).2):=by rw[aD,h]
theorem rq{S:Nat->Nat->Bool}{n:Nat}(h:(List.range n).find? (λj=>S j n)=none):aD S (n+1)=((aD S n).1++[(aD S n).2],(aD S n).2+1):=by rw[aD,h]
theorem Gs(hs:m.solo=true){f:Fr}(hf:f.Fits)(hc:check f=0)(w:am f []≠[])(h:KF (.val (.bk [ints (aD (eF (am f [])) f.ao.length).1,int 0])) σ):ar Tryz.prog m 41 [az f] σ KF:=by
 have S:=Fr.eh hf hc;have h6:=S.oA;have hlen:=cH S [];have I:0<(am f []).length:=List.length_pos_iff.2 w;refine ar.start lay [] [] 1 Tryz.func41 rfl rfl (by rfl) (by kernel_rfl) ?_
 simp[Tryz.f41];have hW:Wl [az f,AV.lit (.slice none 0 0)] [az f,.sl 1 (([]:List Int).map int) .any]:=.cons (.refl _) (.cons (cV 1) .nil);refine aT Tryz.func62 rfl rfl hW (jX (l:=[]) (sp:=.any) hs hf hc (by simp) (by simp) w λb mb σ0 T t U y=>?_)
 refine ab.run lay [] ?_;simp;obtain⟨n,J⟩:∃n,n=f.ao.length:=⟨_,rfl⟩;obtain⟨L,R⟩:∃L,L=am f []:=⟨_,rfl⟩;rw[<-R,<-J]at h;rw[<-R]at I hlen;refine ab.loop n (λx s=>∃env i a,s=⟨env,i,[],.no⟩/\env 1=.cp (az f) 0/\env 4=iY b mb f 0/\env 6=a/\env 7=int (aD (eF L) x).2/\env 20=int n/\env 21=int x/\rj b 6 mb .u8 (cO f) i/\Tok σ i a 1 ((aD (eF L) x).1.map int)) ⟨_,σ0,.lit (.slice none 0 0),rfl,by simp,by simp,by simp,by simp[aD],by simp[J],by simp,t,y,.inl ⟨rfl,rfl⟩⟩ ?_
 clear t y
 rintro k0 x _ hx ⟨env,i,a,rfl,G,z,A,B,IU,IV,t,c⟩ K
 have al:=c.cells;have hG:=BQ I x;have C:=hG.len;have av:=hG.le
 have H:∀{v:aa}{e:_},rj b 6 mb .u8 (cO f) v->v b≠some (.tail e)/\v mb≠some (.tail e):=λ{v e} V=>by obtain⟨M,l,N,_⟩:=V;rw[M,N];simp[mapA]
 rcases Nat.lt_or_ge x n with g1|g1
 . have X:(x:Int)<n:=by omega
   have f1:-9223372036854775808<=(x:Int)+1/\(x:Int)+1<=9223372036854775807:=by omega
   refine ab.run lay [] ?_;simp[IU,IV,X];refine ab.loop x (λk s=>∃env i,s=⟨env,i,[],.no⟩/\env 1=.cp (az f) 0/\env 4=iY b mb f 0/\env 6=a/\env 7=int (aD (eF L) x).2/\env 20=int n/\env 21=int x/\env 8=int x/\env 24=int x/\env 25=int k/\rj b 6 mb .u8 (cO f) i/\Tok σ i a 1 ((aD (eF L) x).1.map int)/\∀j,j<k->eF L j x=false) ⟨_,i,rfl,by simp[G],by simp[z],by simp[A],by simp[B],by simp[IU],by simp[IV],by simp,by simp,by simp,t,c,by simp⟩ ?_
   clear G z A B IU IV t c
   rintro k1 k _ hk ⟨env,i,rfl,G,z,A,B,IU,IV,e8,Ps,D,t,c,E⟩ Y
   rcases Nat.lt_or_ge k x with g2|g2
   . have jj:(k:Int)<x:=by omega
     have f2:-9223372036854775808<=(k:Int)+1/\(k:Int)+1<=9223372036854775807:=by omega
     refine ab.run lay [] ?_;simp[z,e8,Ps,D,jj];refine ai Tryz.func95 rfl rfl (Fb (eo ln lp qH hs T) S ⟨by omega,by omega⟩ ⟨by omega,by omega⟩ (by rw[<-R];omega) t λZ u q2=>?_)
     rw[<-R];rw[show eN ((L.filter (aJ k x)).length:Int) L.length=DA L k x from rfl]
     have d:=Om c q2 U (λe=>(H t).1) (λe=>(H t).2)
     by_cases q:DA L k x=1
     . have qb:(DA L k x==1)=true:=by simp[q]
       have a7:=DC g2 E (by simp[eF,q])
       have o:=rp a7;obtain⟨sp,rfl⟩:=Ak d (λe=>by have:=congrArg List.length e;rw[List.length_map,C]at this;simp at this;omega)
       have O:k<(aD (eF L) x).1.length:=by omega
       have P:(aD (eF L) x).1.getD k 0=(aD (eF L) x).1[k]:=by simp[List.getD_eq_getElem?_getD,O]
       refine ab.run lay [] ?_;simp[A,qb,O];refine aF lay rfl rfl rfl bC rfl bC rfl oo (by decide) (by simp[C];omega) (σ0:=Z.off (.sl 1 ((aD (eF L) x).1.map int) sp)) (es:=(aD (eF L) x).1.map int) (xs:=[int (aD (eF L) x).1[k]]) (by simpa using d.here.1) (.inr ⟨_,by simp;rfl⟩) λa' a8 r=>?_
       have p:=r.base d.here.2;have Q:=p.cells;have F:=ia u (se d r (λe=>(H u).1) (by obtain⟨M,_⟩:=u;rw[M];simp)) (se d r (λe=>(H u).2) (by obtain⟨_,l,N,_⟩:=u;rw[N];simp))
       refine ab.run lay [] ?_;simp[IV,f1.1,f1.2];refine K _ g1 ⟨_,_,a',rfl,by simp[G],by simp[z],by simp,by simp[B,o],by simp[IU],by simp,F,?_⟩
       rw[o,P];simpa using p
     . have qb:(DA L k x==1)=false:=by simp[q]
       refine ab.run lay [] ?_;simp[D,qb,f2.1,f2.2];refine Y _ g2 ⟨_,_,rfl,by simp[G],by simp[z],by simp[A],by simp[B],by simp[IU],by simp[IV],by simp[e8],by simp[Ps],by simp,u,d,λj hj=>?_⟩
       rcases Nat.lt_or_ge j k with g|g
       . exact E j g
       . obtain rfl:j=k:=by omega
         simp[eF,q]
   . have a9:k=x:=by omega
     subst a9;have o:=rq (Mf E);have f3:-9223372036854775808<=(aD (eF L) k).2+1/\(aD (eF L) k).2+1<=9223372036854775807:=by omega
     refine ab.run lay [] ?_;simp[A,B,Ps,D];refine aF lay rfl rfl rfl bC rfl bC rfl oo (by decide) (by simp[C];omega) (σ0:=i.off a) (es:=(aD (eF L) k).1.map int) (xs:=[int (aD (eF L) k).2]) (by simpa using c.here.1) (.inr ⟨_,by simp;rfl⟩) λa' a8 r=>?_
     have p:=r.base c.here.2;have Q:=p.cells;have F:=ia t (se c r (λe=>(H t).1) (by obtain⟨M,_⟩:=t;rw[M];simp)) (se c r (λe=>(H t).2) (by obtain⟨_,l,N,_⟩:=t;rw[N];simp))
     refine ab.run lay [] ?_;simp[B,IV,f1.1,f1.2,f3.1,f3.2];refine K _ g1 ⟨_,_,a',rfl,by simp[G],by simp[z],by simp,by simp[o],by simp[IU],by simp,F,?_⟩
     rw[o];simpa using p
 . have ad:x=n:=by omega
   subst ad;refine ab.run lay [] ?_;simp[A,IU,IV];exact .less c.1 (.eG (Al c.W) (.done h))
namespace MS
end MS
end Go.Proofs.YtldmpfccgajobaaGreatDoor
namespace Go.Proofs.YtldmpfccgajobaaGreatDoor
open Go.aR Go.Conc
set_option maxHeartbeats 1000000
set_option maxRecDepth 4000
variable{m:Mo}{σ:aa}{KF:dF->aa->Prop}
theorem pK(S:Nat->Nat->Bool):∀n:Nat,aB (aD S n).1=(aD S n).2/\(aD S n).1.length=n/\(∀x∈(aD S n).1,0<=x/\x<(aD S n).2)/\0<=(aD S n).2/\(aD S n).2<=n
 |0=>⟨rfl,rfl,by simp[aD],by simp[aD]⟩
 | n + 1=>by
   obtain⟨d,e,b,f,h⟩:=pK S n;cases c:(List.range n).find? (λk=>S k n)with
   | some k=>
     rw[rp c];have i:=List.mem_range.1 (List.mem_of_find?_eq_some c)
     have g:(aD S n).1.getD k 0∈(aD S n).1:=by
      rw[List.getD_eq_getElem?_getD,List.getElem?_eq_getElem (by omega)];exact List.getElem_mem (by omega)
     have hb:=b _ g;refine⟨by rw[ki,d];show max _ _=(aD S n).2;omega,by simp[e],λx a=>?_,f,by show(aD S n).2<=_;omega⟩;rcases List.mem_append.1 a with a|a
     . exact b x a
     . simp at a;subst a;exact hb
   | none=>
     rw[rq c];refine⟨by rw[ki,d];show max _ _=(aD S n).2+1;omega,by simp[e],λx a=>?_,by show 0<=(aD S n).2+1;omega,by show(aD S n).2+1<=_;omega⟩;rcases List.mem_append.1 a with a|a
     . have:=b x a
       exact⟨this.1,by show x<(aD S n).2+1;omega⟩
     . simp at a;subst a;exact⟨f,by show(aD S n).2<(aD S n).2+1;omega⟩
def sf(S:Nat->Nat->Bool)(n k:Nat):Int:=match ((List.range' k (n-k)).find? λj=>S j n)with
 |some j=>(aD S n).1.getD j 0
 |none=>(aD S n).2
theorem DD{S:Nat->Nat->Bool}{n k:Nat}(a:k<n):sf S n k=if S k n=true then(aD S n).1.getD k 0 else sf S n (k+1):=by
 unfold sf;rw[show n-k=(n-(k+1))+1 by omega,List.range'_succ,List.find?_cons];by_cases h:S k n=true
 . simp[h]
 . have h:S k n=false:=by simpa using h
   simp[h]
theorem Gt(S:Nat->Nat->Bool)(n:Nat):aD S (n+1)=((aD S n).1++[sf S n 0],(aD S (n+1)).2):=by
 unfold sf;rw[Nat.sub_zero,<-List.range_eq_range'];cases a:(List.range n).find? (λk=>S k n)with
 |some k=>rw[rp a]
 |none=>rw[rq a]
theorem IW{L:List (List Int)}(b:0<L.length)(x y:Nat):eF L x y=(((L.filter (aJ y x)).length:Int)==(L.length:Int)):=by
 rw[Bool.eq_iff_iff,j7 b,beq_iff_eq];constructor
 . intro h
   have:=(kC (aJ (y:Int) x) L).2 λw a=>by rw[tB];exact h w a
   omega
 . intro h w a
   rw[tB];exact(kC (aJ (y:Int) x) L).1 (by omega) w a
theorem DF{f:Fr}(Y:f.Fits)(h0:aA f false 0 0≠0->KF (.val (.bk [ints [],int (aA f false 0 0)])) σ)(h1:aA f false 0 0=0->KF (.val (.bk [ints (aD (eF (am f [])) f.ao.length).1,int 0])) σ):ar Tryz.prog m 42 [az f] σ KF:=by
 refine ar.start lay [] [] 1 Tryz.func42 rfl rfl (by rfl) (by kernel_rfl) ?_
 simp[Tryz.f42];refine ai Tryz.func66 rfl rfl (gL (asks:=false) Y (λv=>?_) λv _ _=>?_)
 . have h:=h0 v
   rw[<-bne_iff_ne]at v;refine ab.run lay [] ?_;simp[v];exact .eG (nu (b:=.bJ)) (.done h)
 . have h:=h1 v
   obtain⟨hc,h4⟩:=gy v;have J:=Fr.eh Y hc;have h6:=J.oA;have hlen:=cH J [];have r:∀w∈am f [],w.length=f.ao.length:=λw z=>(eZ J z).1
   have A:0<(am f []).length:=List.length_pos_iff.2 h4;generalize am f []=L at *;obtain⟨S,Z⟩:∃S,S=eF L:=⟨_,rfl⟩;rw[<-Z]at h;refine ab.run lay [] ?_;simp;refine ab.loop f.ao.length (λi s=>∃env n a,s=⟨env,n,[],.no⟩/\env 1=.cp (az f) 0/\env 4=rows L/\env 6=a/\env 7=int i/\Tok σ n a 1 ((aD S i).1.map int)) ⟨_,σ,.lit (.slice none 0 0),rfl,by simp,by simp,by simp,by simp,Tok.nil σ 1⟩ ?_
   rintro c0 i _ hi ⟨env,n,a,rfl,t,u,o,l,d⟩ ih
   have a7:=d.cells;obtain⟨K,a8,M,a9,ad⟩:=pK S i
   rcases Nat.lt_or_ge i f.ao.length with g2|g2
   . have jj:(i:Int)<f.ao.length:=by omega
     have f1:-9223372036854775808<=(i:Int)+1/\(i:Int)+1<=9223372036854775807:=by omega
     have f2:-9223372036854775808<=(i:Int)-1/\(i:Int)-1<=9223372036854775807:=by omega
     have B:=Gt S i;have C:sf S i i=(aD S i).2:=by unfold sf;rw[Nat.sub_self];rfl
     refine ab.run lay [] ?_;simp[t,o,l,jj];have hW:Wl [a] [ints (aD S i).1]:=.cons d.W .nil;refine aT Tryz.func67 rfl rfl hW (oC (by omega) (λx hx=>by have:=M x hx;omega) ?_)
     rw[K];refine ab.run lay [] ?_;simp[l,f2.1,f2.2];refine ab.loop i (λc s=>∃env,s=⟨env,n,[],.no⟩/\env 1=.cp (az f) 0/\env 4=rows L/\env 6=a/\env 7=int i/\env 8=int (sf S i (i-c))/\env 9=int ((i:Int)-1-c)) ⟨_,rfl,by simp[t],by simp[u],by simp[o],by simp[l],by simp[C],by simp⟩ ?_
     clear t u o l
     rintro c1 c _ al ⟨env,rfl,t,u,o,l,H,y⟩ D
     rcases Nat.lt_or_ge c i with g3|g3
     . obtain⟨k,hk⟩:∃k,k=i-1-c:=⟨_,rfl⟩
       have N:i-c=k+1:=by omega
       have E:i-(c+1)=k:=by omega
       have O:(i:Int)-1-c=(k:Int):=by omega
       have P:k<i:=by omega
       have p:k<(aD S i).1.length:=by omega
       rw[N]at H;rw[O]at y
       have Q:(aD S i).1.map int≠[]:=λe=>by have:(aD S i).1=[]:=List.map_eq_nil_iff.1 e;rw[this]at p;simp at p
       obtain⟨sp,R⟩:=Ak d Q;have F:=o;rw[R]at F;have p1:(0:Int)<=k:=by omega
       have I:-9223372036854775808<=(k:Int)-1/\(k:Int)-1<=9223372036854775807:=by omega
       have T:(aD S i).1.getD k 0=(aD S i).1[k]:=by rw[List.getD_eq_getElem?_getD,List.getElem?_eq_getElem p];rfl
       have g:=DD (S:=S) P;have j:=IW A (k:Nat) i;rw[<-Z]at j;rw[j,T]at g;refine ab.run lay [] ?_;simp[u,l,y,p1];refine ai Tryz.func94 rfl rfl (tz (by omega) ⟨by omega,λw z=>by rw[r w z];omega⟩ ⟨by omega,λw z=>by rw[r w z];omega⟩ ?_)
       refine ab.run lay [] ?_;simp[u]
       by_cases q:(((L.filter (aJ i k)).length:Int)==(L.length:Int))=true
       . rw[if_pos q]at g
         simp[q,F,y,p,p1,I.1,I.2];refine D _ g3 ⟨_,rfl,by simp[t],by simp[u],by simp[o],by simp[l],by simp[E,g],by simp;omega⟩
       . rw[if_neg q]at g
         have q:(((L.filter (aJ i k)).length:Int)==(L.length:Int))=false:=by simpa using q
         simp[q,y,I.1,I.2];refine D _ g3 ⟨_,rfl,by simp[t],by simp[u],by simp[o],by simp[l],by simp[E,g,H],by simp;omega⟩
     . have U:c=i:=by omega
       subst U;have p0:(c:Int)-1-c=-1:=by omega
       rw[p0]at y;rw[Nat.sub_self]at H;refine ab.run lay [] ?_;simp[o,H,y];refine aF lay rfl rfl rfl bC rfl bC rfl oo (by decide) (by simp;omega) (σ0:=σ) (es:=(aD S c).1.map int) (xs:=[int (sf S c 0)]) (by simpa using d) (.inr ⟨_,by simp;rfl⟩) λa' V G=>?_
       have av:=G.cells;refine ab.run lay [] ?_;simp[l,f1.1,f1.2];exact ih _ g2 ⟨_,V,a',rfl,by simp[t],by simp[u],by simp,by simp,by rw[B];simpa using G⟩
   . have X:i=f.ao.length:=by omega
     subst X;refine ab.run lay [] ?_;simp[t,o,l];exact .eG (Al d.W) (.less d.1 (.done h))
def aW(f:Fr)(l:List Int):Int:=if aO f l≠0 then aO f l else if am f []=[]then 11 else 0
theorem fB(j:m.solo=true){f:Fr}{l:List Int}{sp:bX}(g:f.Fits)(b:l.length<1152921504606846976)(hb:aW f l≠0)(h:∀σ',σ.Le σ'->KF (.val (.bk [.lit (.pointer none),int (aW f l)])) σ'):ar Tryz.prog m 62 [az f,.sl 1 (l.map int) sp] σ KF:=by
 by_cases a:aO f l=0
 . have i:check f=0:=by
    unfold aO at a;split at a
    . next q=>exact absurd a q
    next q=>simpa using q
   have k:∀n∈l,0<=n/\n<f.ao.length:=by
    unfold aO at a;rw[if_neg (by simp[i])]at a
    split at a
    . next q=>intro n o;have:=gx.1 (List.all_eq_true.1 q n o);omega
    . cases a
   have e:aW f l=if am f []=[]then 11 else 0:=by unfold aW;rw[if_neg (by simp[a])]
   by_cases c:am f []=[]
   . rw[if_pos c]at e
     rw[e]at h;exact ib j g i k b c h
   . rw[if_neg c]at e
     exact absurd e hb
 . have e:aW f l=aO f l:=by unfold aW;rw[if_pos a]
   rw[e]at h;have d:(aO f l==0)=false:=by simpa using a
   refine ar.start lay [] [] 2 Tryz.func62 rfl rfl (by rfl) (by kernel_rfl) ?_
   simp[Tryz.f62];have p:Wl [AV.agg (bS f),.sl 1 (l.map int) sp] [az f,ints l]:=.cons (.refl _) (.cons (eE 1 _ sp) .nil);refine aT Tryz.func59 rfl rfl p (fI g b (λq=>?_) λq=>absurd q a)
   refine ab.run lay [] ?_;simp[d];exact .done (h σ (aa.le_refl _))
theorem l9(f:Fr)(x y:Int):aA f true x y=aW f [x,y]:=by
 unfold aA aW aO;simp only[List.all_cons,List.all_nil,Bool.and_true,Bool.and_eq_true];by_cases a:check f=0
 . by_cases b:bx x 0 (f.ao.length-1)=true/\bx y 0 (f.ao.length-1)=true
   . simp[a,b]
   . simp[a,b]
 . simp[a]
theorem dY(f:Fr):aA f false 0 0=aW f []:=by
 unfold aA aW aO;by_cases a:check f=0<;>simp[a]
theorem IX(d:m.solo=true){f:Fr}{x y:Int}(a:f.Fits)(h:KF (.val (.bk [int (vY f x y).1,int (vY f x y).2])) σ):ar Tryz.prog m 39 [az f,int x,int y] σ KF:=by
 unfold vY at h;by_cases hb:aA f true x y=0
 . rw[if_neg (by simp[hb])]at h
   obtain⟨e,j,k,g⟩:=kE hb;have n:=Fr.eh a e;have hlen:=cH n [];have i:=List.length_pos_iff.2 g;have o:=List.length_filter_le (aJ x y) (am f []);refine Fc d a e j k g (by omega) ?_;rw[lD (by omega) (by omega) (by omega)];exact h
 . rw[if_pos hb,l9]at h
   rw[l9]at hb;have b:(aW f [x,y]!=0)=true:=by simpa using hb
   refine ar.start lay [] [] 3 Tryz.func39 rfl rfl (by rfl) (by kernel_rfl) ?_;simp[Tryz.f39];refine ai Tryz.func62 rfl rfl (fB (l:=[x,y]) (sp:=.exact) d a (by simp) hb λp c=>?_);refine ab.run lay [] ?_;simp[b];exact .less c (.done h)
theorem DG(d:m.solo=true){f:Fr}(e:f.Fits)(g:aA f false 0 0≠0->KF (.val (.bk [ints [],int (aA f false 0 0)])) σ)(i:aA f false 0 0=0->KF (.val (.bk [ints (aD (eF (am f [])) f.ao.length).1,int 0])) σ):ar Tryz.prog m 41 [az f] σ KF:=by
 by_cases hb:aA f false 0 0=0
 . obtain⟨j,k⟩:=gy hb
   exact Gs d e j k (i hb)
 . have h:=g hb
   rw[dY]at h;rw[dY]at hb;have a:(aW f []!=0)=true:=by simpa using hb
   refine ar.start lay [] [] 1 Tryz.func41 rfl rfl (by rfl) (by kernel_rfl) ?_;simp[Tryz.f41];have n:Wl [az f,AV.lit (.slice none 0 0)] [az f,.sl 1 (([]:List Int).map int) .any]:=.cons (.refl _) (.cons (cV 1) .nil);refine aT Tryz.func62 rfl rfl n (fB (l:=[]) (sp:=.any) d e (by simp) hb λo c=>?_);refine ab.run lay [] ?_;simp[a];exact .less c (.eG (nu (b:=.bJ)) (.done h))
end Go.Proofs.YtldmpfccgajobaaGreatDoor
namespace Go.Proofs.YtldmpfccgajobaaGreatDoor
open Go.aR Go.Conc
set_option maxHeartbeats 2000000
set_option maxRecDepth 4000
variable{m:Mo}{σ:aa}{KF:dF->aa->Prop}
def kj(f:Fr):List Int × Int:=if aA f false 0 0≠0 then([],aA f false 0 0)else((aD (eF (am f [])) f.ao.length).1,0)
theorem qo{f:Fr}(h:KF (.val (.bk [ints (kj f).1,int (kj f).2])) σ):(aA f false 0 0≠0->KF (.val (.bk [ints [],int (aA f false 0 0)])) σ)/\(aA f false 0 0=0->KF (.val (.bk [ints (aD (eF (am f [])) f.ao.length).1,int 0])) σ):=by
 unfold kj at h;refine⟨λq=>?_,λq=>?_⟩
 . rw[if_pos q]at h;exact h
 . rw[if_neg (by simp[q])]at h;exact h
theorem IY(a:m.solo=true){f:Fr}(b:f.Fits)(h:KF (.val (.bk [ints (kj f).1,int (kj f).2])) σ):ar Tryz.prog m 41 [az f] σ KF:=DG a b (qo h).1 (qo h).2
theorem Gu{f:Fr}(a:f.Fits)(h:KF (.val (.bk [ints (kj f).1,int (kj f).2])) σ):ar Tryz.prog m 42 [az f] σ KF:=DF a (qo h).1 (qo h).2
theorem An{f:Fr}(a:f.Fits):(kj f).1.length<1000000:=by
 unfold kj;split
 . simp
 . next q=>have q:aA f false 0 0=0:=Decidable.not_not.1 q;obtain⟨b,d⟩:=gy q;have c:=Fr.eh a b;have:=(pK (eF (am f [])) f.ao.length).2.1;have:=c.oA;show(aD _ _).1.length<1000000;omega
structure BN(σ0 σ:aa)(a b:AV)(xs ys:List AV):Prop where
 fst:Tok σ0 σ a 1 xs
 snd:Tok σ0 σ b 1 ys
 ne:∀c,bv a=some c->bv b≠some c
theorem BN.symm{σ0 σ:aa}{a b:AV}{xs d:List AV}(h:BN σ0 σ a b xs d):BN σ0 σ b a d xs:=⟨h.snd,h.fst,λc e f=>h.ne c f e⟩
theorem BN.grow{σ0 σ σ':aa}{a b a':AV}{xs j es:List AV}(h:BN σ0 σ a b xs j)(d:Tok (σ.off a) σ' a' 1 es):BN σ0 σ' a' b es j:=by
 have g:σ0.Le σ':=aa.le_trans h.fst.here.2 d.1
 have hb:∀c e,bv b=some c->σ c=some (.tail e)->(σ.off a) c=some (.tail e):=λc e i f=>by rw[aa.fQ (λq=>h.ne c q i)];exact f
 refine⟨d.base h.fst.here.2,⟨g,?_⟩,λc i f=>?_⟩
 . rcases h.snd.2 with q|q|⟨c,e,m,k,n⟩
   . exact .inl q
   . exact .inr (.inl q)
   . exact .inr (.inr ⟨c,e,m,k,d.1 _ _ (hb c e (by rw[k];rfl) n)⟩)
 . obtain⟨l,_⟩:=d.aY i
   obtain⟨_,e,o⟩:=h.snd.aY f;rw[hb c e f o]at l;cases l
theorem Ao(S:m.solo=true){f:Fr}{n:gq}{x y:Int}{K:List Int}(hf:f.Fits)(hm:n.marks.length<1152921504606846976)(hn:K.length<1152921504606846976)(h:KF (.val (bool true)) σ):gS Tryz.prog lay m 6 [az f,aS n,int x,int y,ints K] σ KF:=by
 refine gS.start lay [] Vm 5 Tryz.func6 rfl rfl (by rfl) (by kernel_rfl) ?_
 simp[Tryz.f6];refine ai Tryz.func10 rfl rfl (r9 hf λv hv=>?_)
 refine ab.run lay [] ?_;simp;cases v with
 |true=>simp;refine ai Tryz.func11 rfl rfl (dq S ?_);refine ab.run lay [] ?_;simp;exact .done h
 |false=>
 by_cases g0:(20:Int)<n.marks.length
 . simp[g0]
   refine ai Tryz.func11 rfl rfl (dq S ?_);refine ab.run lay [] ?_;simp;exact .done h
 obtain⟨ad,_⟩:=hv rfl;have T:n.marks.length<=20:=by omega
 simp[g0];refine ai Tryz.func13 rfl rfl (nQ λc b8 hc hb N=>?_)
 refine aI.go lay [] ?_;simp;refine ai Tryz.func12 rfl rfl (lY (by omega) hn hb (by obtain⟨_,_,_,q⟩:=hb;rw[q];simp) λf1 seen al av _ ax h5 hd=>?_)
 have M:=lZ ad av ax h5 T;have hlen:[f,f1,seen,cW seen n].length=4:=rfl;generalize [f,f1,seen,cW seen n]=L at M hlen ⊢
 have ay:σ.Le al:=λy x hy=>by
  have y1:y≠c:=λe=>by subst e;rw[hc]at hy;cases hy
  rw[hd.2 y y1,N y y1];exact hy
 refine aI.go lay [] ?_;simp;refine ab.run lay [] ?_;simp;refine ab.weaken (σ:=σ) ?_ ay;refine ab.loop L.length (λi s=>∃env,s=⟨env,σ,[],.no⟩/\env 2=int x/\env 3=int y/\env 11=gO L/\env 12=int i) ⟨_,rfl,by simp,by simp,by simp,by simp⟩ ?_
 rintro c0 i _ hi ⟨env,rfl,p,r,aV,bh⟩ ih
 rcases Nat.lt_or_ge i L.length with g1|g1
 . have G:(i:Int)<L.length:=by omega
   have f1:-9223372036854775808<=(i:Int)+1/\(i:Int)+1<=9223372036854775807:=by omega
   obtain⟨g,U⟩:∃g,g=L[i]:=⟨_,rfl⟩;have O:=M g (by rw[U];exact List.getElem_mem g1)
   have C:=O.fits;have b9:=O.ao;have b1:∀z:Int,(z !=z)=false:=λz=>by simp
   refine ab.run lay [] ?_;simp[p,r,aV,bh,g1,G,<-U];refine ai Tryz.func14 rfl rfl (O.own ?_);refine ab.runN lay [] 2 ?_;simp;refine bT.intro λd b0=>?_
   simp[p,r,aV,bh];refine ab.bD 13 (b:=d) (az g) (by simp) (by simp) rfl ?_
   rw[mS b0];refine ab.run lay [] ?_;simp[p,r,aV,bh];obtain⟨cnt,b7⟩:∃cnt,cnt=min g.ao.length 5:=⟨_,rfl⟩
   refine ab.loop cnt (λk s=>∃env B a b X Y,s=⟨env,B,[],.no⟩/\env 2=int x/\env 3=int y/\env 11=gO L/\env 12=int i/\env 13=.cp (az g) 0/\env 14=a/\env 15=b/\env 16=int k/\BN σ B a b (X.map int) (Y.map int)/\X.length=Y.length/\X.length<=1+21*k)
    ⟨_,σ,.sl 1 [int x] .exact,.sl 1 [int y] .exact,[x],[y],rfl,by simp[p],by simp[r],by simp[aV],by simp[bh],by simp,by simp,by simp,by simp,⟨Tok.exact σ 1 [int x],Tok.exact σ 1 [int y],λc h=>by cases h⟩,rfl,by simp⟩ ?_
   clear p r aV bh
   rintro c1 k _ hk ⟨env,B,a,b,X,Y,rfl,p,r,aV,bh,j,bU,ck,hQ,u,D,V⟩ P
   rcases Nat.lt_or_ge k cnt with g2|g2
   . have H:(k:Int)<g.ao.length:=by omega
     have R:(k:Int)<5:=by omega
     have Z:-9223372036854775808<=(k:Int)+1/\(k:Int)+1<=9223372036854775807:=by omega
     refine ab.run lay [] ?_;simp[p,r,aV,bh,j,bU,ck,hQ,H,R]
     refine ab.loop (k+1) (λl s=>∃env B a b X Y,s=⟨env,B,[],.no⟩/\env 2=int x/\env 3=int y/\env 11=gO L/\env 12=int i/\env 13=.cp (az g) 0/\env 14=a/\env 15=b/\env 16=int k/\env 17=int l/\BN σ B a b (X.map int) (Y.map int)/\X.length=Y.length/\X.length<=1+21*k+l)
      ⟨_,B,a,b,X,Y,rfl,by simp[p],by simp[r],by simp[aV],by simp[bh],by simp[j],by simp[bU],by simp[ck],by simp[hQ],by simp,u,D,by omega⟩ ?_
     clear p r aV bh j bU ck hQ u D V X Y a b B
     rintro c2 l _ hl ⟨env,B,a,b,X,Y,rfl,p,r,aV,bh,j,bU,ck,hQ,A,u,D,V⟩ b2
     have t:=u.fst.cells;have o:=u.snd.cells
     rcases Nat.lt_or_ge l (k+1)with g3|g3
     . have p3:(l:Int)<=k:=by omega
       have f3:-9223372036854775808<=(l:Int)+1/\(l:Int)+1<=9223372036854775807:=by omega
       refine ab.run lay [] ?_;simp[p,r,aV,bh,j,bU,ck,hQ,A,t.1,t.2,o.1,o.2,p3];refine aF lay rfl rfl rfl bC rfl bC rfl oo (by decide) (by simp;omega) (σ0:=B.off a) (es:=X.map int) (xs:=[int k]) (by simpa using u.fst.here.1) (.inr ⟨_,by simp;rfl⟩) λa1 b3 a7=>?_
       have E:=u.grow a7;have J:=a7.cells;refine ab.run lay [] ?_;simp[ck,A,J.1,J.2,o.1,o.2];refine aF lay rfl rfl rfl bC rfl bC rfl oo (by decide) (by simp;omega) (σ0:=b3.off b) (es:=Y.map int) (xs:=[int l]) (by simpa using E.snd.here.1) (.inr ⟨_,by simp;rfl⟩) λb1 b4 a8=>?_
       have Q:=(E.symm.grow a8).symm;have a9:=a8.cells;refine ab.run lay [] ?_;simp[p,r,aV,bh,j,bU,ck,hQ,A,t.1,t.2,o.1,o.2,J.1,J.2,a9.1,a9.2,f3.1,f3.2]
       exact b2 _ g3 ⟨_,b4,a1,b1,X++[(k:Int)],Y++[(l:Int)],rfl,by simp[p,r,aV,bh,j,bU,ck,hQ,A,t.1,t.2,o.1,o.2],by simp[p,r,aV,bh,j,bU,ck,hQ,A,t.1,t.2,o.1,o.2],by simp[p,r,aV,bh,j,bU,ck,hQ,A,t.1,t.2,o.1,o.2],by simp[p,r,aV,bh,j,bU,ck,hQ,A,t.1,t.2,o.1,o.2],by simp[p,r,aV,bh,j,bU,ck,hQ,A,t.1,t.2,o.1,o.2],by simp,by simp,by simp[p,r,aV,bh,j,bU,ck,hQ,A,t.1,t.2,o.1,o.2],by simp,by simpa using Q,by simp[D],by simp;omega⟩
     . have p3:¬(l:Int)<=k:=by omega
       refine ab.run lay [] ?_;simp[p,r,aV,bh,j,bU,ck,hQ,A,t.1,t.2,o.1,o.2,p3,Z.1,Z.2]
       exact P _ g2 ⟨_,B,a,b,X,Y,rfl,by simp[p,r,aV,bh,j,bU,ck,hQ,A,t.1,t.2,o.1,o.2],by simp[p,r,aV,bh,j,bU,ck,hQ,A,t.1,t.2,o.1,o.2],by simp[p,r,aV,bh,j,bU,ck,hQ,A,t.1,t.2,o.1,o.2],by simp[p,r,aV,bh,j,bU,ck,hQ,A,t.1,t.2,o.1,o.2],by simp[p,r,aV,bh,j,bU,ck,hQ,A,t.1,t.2,o.1,o.2],by simp[p,r,aV,bh,j,bU,ck,hQ,A,t.1,t.2,o.1,o.2],by simp[p,r,aV,bh,j,bU,ck,hQ,A,t.1,t.2,o.1,o.2],by simp,u,D,by omega⟩
   . have bq:k=cnt:=by omega
     refine ab.yD 14 (a':=ints X) (by rw[bU];exact u.fst.W) ?_
     refine ab.yD 15 (a':=ints Y) (by simp[ck];exact u.snd.W) ?_
     refine ab.weaken (σ:=σ) ?_ u.fst.1;apply pG (I:=λenv B=>σ=B/\env 2=int x/\env 3=int y/\env 11=gO L/\env 12=int i/\env 13=.cp (az g) 0/\env 14=ints X/\env 15=ints Y/\env 18=int 0)
     . intro F
       by_cases H:(k:Int)<g.ao.length
       . have R:¬(k:Int)<5:=by omega
         refine ab.run lay [] ?_;simp[p,r,aV,bh,j,bU,ck,hQ,H,R];exact F _ _ ⟨rfl,by simp[p,r,aV,bh,j,bU,ck,hQ],by simp[p,r,aV,bh,j,bU,ck,hQ],by simp[p,r,aV,bh,j,bU,ck,hQ],by simp[p,r,aV,bh,j,bU,ck,hQ],by simp[p,r,aV,bh,j,bU,ck,hQ],by simp,by simp,by simp⟩
       . refine ab.run lay [] ?_
         simp[p,r,aV,bh,j,bU,ck,hQ,H];exact F _ _ ⟨rfl,by simp[p,r,aV,bh,j,bU,ck,hQ],by simp[p,r,aV,bh,j,bU,ck,hQ],by simp[p,r,aV,bh,j,bU,ck,hQ],by simp[p,r,aV,bh,j,bU,ck,hQ],by simp[p,r,aV,bh,j,bU,ck,hQ],by simp,by simp,by simp⟩
     clear p r aV bh j bU ck hQ
     rintro env _ ⟨rfl,p,r,aV,bh,j,bU,ck,jM⟩
     refine ab.loop X.length (λk s=>∃env,s=⟨env,σ,[],.no⟩/\env 2=int x/\env 3=int y/\env 11=gO L/\env 12=int i/\env 13=.cp (az g) 0/\env 14=ints X/\env 15=ints Y/\env 18=int k)
      ⟨_,rfl,p,r,aV,bh,j,bU,ck,jM⟩ ?_
     clear p r aV bh j bU ck jM
     rintro c2 k _ hk ⟨env,rfl,p,r,aV,bh,j,bU,ck,jM⟩ P
     rcases Nat.lt_or_ge k X.length with g3|g3
     . have H:(k:Int)<X.length:=by omega
       have mE:k<Y.length:=by omega
       have R:(k:Int)<Y.length:=by omega
       have Z:-9223372036854775808<=(k:Int)+1/\(k:Int)+1<=9223372036854775807:=by omega
       refine ab.run lay [] ?_;simp[p,r,aV,bh,j,bU,ck,jM,H,R,g3,mE];refine ai Tryz.func39 rfl rfl (IX S C ?_);obtain⟨v,hv⟩:∃v,v=vY g X[k] Y[k]:=⟨_,rfl⟩;rw[<-hv];refine aI.go lay [] ?_;simp[p,r,aV,bh,j,bU,ck,jM];refine ab.run lay [] ?_;simp[p,r,aV,bh,j,bU,ck,jM,H,R,g3,mE,g1,G,<-U];refine ai Tryz.func40 rfl rfl (IT C ?_);rw[<-hv];refine aI.go lay [] ?_;simp[p,r,aV,bh,j,bU,ck,jM];refine ab.run lay [] ?_;simp[p,r,aV,bh,j,bU,ck,jM,b1,Z.1,Z.2]
       exact P _ g3 ⟨_,rfl,by simp[p,r,aV,bh,j,bU,ck,jM],by simp[p,r,aV,bh,j,bU,ck,jM],by simp[p,r,aV,bh,j,bU,ck,jM],by simp[p,r,aV,bh,j,bU,ck,jM],by simp[p,r,aV,bh,j,bU,ck,jM],by simp[p,r,aV,bh,j,bU,ck,jM],by simp[p,r,aV,bh,j,bU,ck,jM],by simp⟩
     . have H:¬(k:Int)<X.length:=by omega
       refine ab.run lay [] ?_;simp[p,r,aV,bh,j,bU,ck,jM,H];refine ai Tryz.func41 rfl rfl (IY S C ?_);have b5:=An C;obtain⟨w,hw⟩:∃w,w=kj g:=⟨_,rfl⟩;rw[<-hw]at b5 ⊢;refine ab.run lay [] ?_;simp[p,r,aV,bh,j,bU,ck,jM,g1,G,<-U];refine ai Tryz.func42 rfl rfl (Gu C ?_);rw[<-hw];refine ab.run lay [] ?_;simp[p,r,aV,bh,j,bU,ck,jM,b1];refine ai Tryz.func21 rfl rfl (fa (by omega) (by omega) ?_)
       rw[decide_eq_true rfl];refine aI.go lay [] ?_;simp[p,r,aV,bh,j,bU,ck,jM,g1,G,<-U];refine ai Tryz.func22 rfl rfl (fN C ?_);refine aI.go lay [] ?_;simp[p,r,aV,bh,j,bU,ck,jM];refine ab.run lay [] ?_;simp[p,r,aV,bh,j,bU,ck,jM,f1.1,f1.2];exact ih _ g1 ⟨_,rfl,by simp[p,r,aV,bh,j,bU,ck,jM],by simp[p,r,aV,bh,j,bU,ck,jM],by simp[p,r,aV,bh,j,bU,ck,jM],by simp⟩
 . have b6:i=L.length:=by omega
   subst b6;refine ab.run lay [] ?_;simp[p,r,aV,bh];refine ai Tryz.func11 rfl rfl (dq S ?_);refine ab.run lay [] ?_;simp[p,r,aV,bh];exact .done h
end Go.Proofs.YtldmpfccgajobaaGreatDoor

/- Part 1 of the proof. -/
import Derived.Test.YtalogdafegmilaaGreatDoorC36
set_option linter.all false
namespace Go.Proofs.YtalogdafegmilaaGreatDoor
open Go.aN
abbrev RV:List Entry:=[⟨24,.take [0,1,2,3,4,5,6,7] false (.one 8 (.take [9,10,11,12,13] true (.done)))⟩]
end Go.Proofs.YtalogdafegmilaaGreatDoor
namespace Go.Proofs.YtalogdafegmilaaGreatDoor
open Go.aN Go.Conc
set_option maxHeartbeats 2000000
set_option maxRecDepth 4000
def LL(low top:Int):List Int:=(List.range (top+1-low).toNat).map λi:Nat=>low+i
def iv(i:Nat)(l:List Int):Int:=if i=0 then 0 else l.getD (i-1) 0+1
def tX(n k:Int)(i:Nat)(l:List Int):List (List Int):=(LL (iv i l) (n-k+i)).map λy=>l++[y]
def iT(n k:Int):Nat->List (List Int)
 |0=>[[]]
 |i+1=>(iT n k i).flatMap (tX n k i)
def fh(n:Int)(k:Nat):List (List Int):=iT n k k
structure Ev(n:Int)(i:Nat)(l:List Int):Prop where
 len:l.length=i
 mem:∀x∈l,0<=x/\x<n
 LG:∀a b,a<b->b<i->l.getD a 0<l.getD b 0
theorem sZ{n k:Int}:∀(i:Nat),(i:Int)<=k->∀l∈iT n k i,Ev n i l
 |0,_,l,hl=>by simp[iT]at hl;subst hl;exact⟨rfl,by simp,λa b h1 h2=>by omega⟩
 | i + 1,hi,l,hl=>by
   unfold iT at hl;obtain⟨p,hp,hq⟩:=List.mem_flatMap.1 hl;have hA:=sZ i (by omega) p hp
   unfold tX at hq;obtain⟨y,hy,rfl⟩:=List.mem_map.1 hq;unfold LL at hy;obtain⟨t,ht,rfl⟩:=List.mem_map.1 hy;have ht:=List.mem_range.1 ht
   have hlow:0<=iv i p/\∀a,a<i->p.getD a 0<iv i p:=by
    unfold iv;split
    . exact⟨by omega,λa h=>by omega⟩
    . next h0=>
      have hlt:i-1<p.length:=by rw[hA.len];omega
      have hm:p.getD (i-1) 0∈p:=by rw[List.getD_eq_getElem?_getD,List.getElem?_eq_getElem hlt];exact List.getElem_mem hlt
      have:=hA.mem _ hm;refine⟨by omega,λa ha=>?_⟩
      by_cases e:a=i-1
      . subst e;omega
      . have:=hA.LG a (i-1) (by omega) (by omega);omega
   have hlen:=hA.len;refine⟨by simp[hlen],λx hx=>?_,λa b hab hb=>?_⟩
   . rcases List.mem_append.1 hx with hx|hx
     . exact hA.mem x hx
     . simp at hx;subst hx;omega
   . by_cases e:b=i
     . subst e
       have e1:(p++[iv b p+t]).getD b 0=iv b p+t:=by rw[List.getD_eq_getElem?_getD,List.getElem?_append_right (by omega),hlen];simp
       have e2:(p++[iv b p+t]).getD a 0=p.getD a 0:=by rw[List.getD_eq_getElem?_getD,List.getElem?_append_left (by omega),<-List.getD_eq_getElem?_getD]
       rw[e1,e2];have:=hlow.2 a hab;omega
     . have e1:(p++[iv i p+t]).getD b 0=p.getD b 0:=by
        rw[List.getD_eq_getElem?_getD,List.getElem?_append_left (by omega),<-List.getD_eq_getElem?_getD]
       have e2:(p++[iv i p+t]).getD a 0=p.getD a 0:=by rw[List.getD_eq_getElem?_getD,List.getElem?_append_left (by omega),<-List.getD_eq_getElem?_getD]
       rw[e1,e2];exact hA.LG a b hab (by omega)
theorem dU(f:Fr):∀(l:List Int) (p:Option Int),(∀x∈l,0<=x/\x<f.az.length)->l.Pairwise (·<·)->(∀q,p=some q->∀x∈l,q<x)->ez f p l=0
 |[],_,_,_,_=>rfl
 | a :: l,p,h1,h2,h3=>by
   have ha:=h1 a (by simp);have h2':=List.pairwise_cons.1 h2;have e1:dv a 0 (f.az.length-1)=true:=by simp[dv,ha.1];omega
   have e2:lw p a=false:=by
    cases p with
    |none=>rfl
    | some q=>
      have:=h3 q rfl a (by simp);simp[lw];omega
   unfold ez;rw[e1,if_neg (by simp),e2,if_neg (by simp)];exact dU f l (some a) (λx hx=>h1 x (by simp[hx])) h2'.2 (λq hq x hx=>by cases hq;exact h2'.1 x hx)
theorem Ev.pw{n:Int}{i:Nat}{l:List Int}(h:Ev n i l):l.Pairwise (·<·):=by
 rw[List.pairwise_iff_getElem];intro a b ha hb hab;have:=h.LG a b hab (by rw[<-h.len];exact hb);simpa[List.getD_eq_getElem?_getD,ha,hb]using this
theorem qM{f:Fr}{n:Nat}{l:List Int}(h:Ev f.az.length n l)(hn:1<=n/\n<=6):Dk f l:=by
 have hl:=h.len;refine⟨?_,by omega⟩;unfold nQ;rw[if_neg (by omega)];exact dU f l none h.mem h.pw (λq hq=>by cases hq)
end Go.Proofs.YtalogdafegmilaaGreatDoor
namespace Go.Proofs.YtalogdafegmilaaGreatDoor
open Go.aN Go.Conc
set_option maxHeartbeats 1000000
set_option maxRecDepth 4000
def nX(n:Nat):Nat->Nat->List Int->List (List Int)
 |0,_,out=>[out]
 |more+1,frm,out=>(List.range' frm (n-frm)).flatMap λx:Nat=>nX n more (x+1) (out++[(x:Int)])
theorem xd(f:Fr):∀(more frm:Nat) (out:List Int),fA f more frm out=(nX f.az.length more frm out).find? λl=>decide (ak (cH f l) []≠[])
 | 0,frm,out=>by
   unfold fA nX;by_cases h:ak (cH f out) []=[]<;>simp[h]
 | more+1,frm,out=>by
   unfold fA nX;rw[List.find?_flatMap];congr 1;funext x;exact xd f more (x+1) _
theorem ext_nil(n:Nat):∀(more frm:Nat) (out:List Int),0<more->n<frm+more->nX n more frm out=[]
 | more+1,frm,out,_,h=>by
   unfold nX;rw[List.flatMap_eq_nil_iff];intro x hx;obtain⟨h1,h2⟩:=List.mem_range'_1.1 hx;cases more with
   |zero=>omega
   |succ more=>exact ext_nil n (more+1) (x+1) _ (by omega) (by omega)
theorem Af(n:Nat):∀(more frm:Nat) (out:List Int),frm+more<=n->out++(List.range' frm more).map (λx:Nat=>(x:Int))∈nX n more frm out
 |0,frm,out,_=>by simp[nX]
 | more+1,frm,out,h=>by
   unfold nX;refine List.mem_flatMap.2 ⟨frm,List.mem_range'_1.2 (by omega),?_⟩;have:=Af n more (frm+1) (out++[(frm:Int)]) (by omega);rw[List.range'_succ,List.map_cons];simpa using this
theorem JR{n k i:Nat}{l:List Int}(hk:k<=n)(hi:i<k)(hA:Ev n i l):nX n (k-i) (iv i l).toNat l=(tX n k i l).flatMap λl'=>nX n (k-(i+1)) (iv (i+1) l').toNat l':=by
 obtain⟨more,hm⟩:∃more,k-i=more+1:=⟨k-i-1,by omega⟩
 have hm':k-(i+1)=more:=by omega
 have hlen:=hA.len
 have hlow:0<=iv i l/\iv i l<=n:=by
  unfold iv;split
  . omega
  . next h0=>
    have hlt:i-1<l.length:=by omega
    have hmem:l.getD (i-1) 0∈l:=by rw[List.getD_eq_getElem?_getD,List.getElem?_eq_getElem hlt];exact List.getElem_mem hlt
    have:=hA.mem _ hmem;omega
 obtain⟨lo,hlo⟩:∃lo:Nat,iv i l=(lo:Int):=⟨(iv i l).toNat,by omega⟩
 unfold tX LL;rw[hm,hm',hlo,Int.toNat_natCast];rw[hlo]at hlow;obtain⟨cnt,hcnt⟩:∃cnt:Nat,((n:Int)-k+i+1-lo).toNat=cnt:=⟨_,rfl⟩;rw[hcnt,List.map_map,List.flatMap_map,show nX n (more+1) lo l=(List.range' lo (n-lo)).flatMap λx:Nat=>nX n more (x+1) (l++[(x:Int)])from rfl]
 rw[List.range'_eq_map_range,List.flatMap_map];obtain⟨d,hd⟩:∃d,n-lo=cnt+d:=⟨n-lo-cnt,by omega⟩
 rw[hd,p9 d λj h1 h2=>?_]
 . refine oP λj hj=>?_
   have:iv (i+1) (l++[(lo:Int)+(j:Int)])=(lo:Int)+j+1:=by
    unfold iv;rw[if_neg (by omega),List.getD_eq_getElem?_getD,List.getElem?_append_right (by omega)]
    simp[hlen]
   simp only[Function.comp];rw[this,show((lo:Int)+j+1).toNat=lo+j+1 by omega,show((lo+j:Nat):Int)=(lo:Int)+j by omega]
 . cases more with
   |zero=>omega
   |succ more=>exact ext_nil n (more+1) _ _ (by omega) (by omega)
theorem uT{n k:Nat}(hk:k<=n):∀i:Nat,i<=k->nX n k 0 []=(iT n k i).flatMap λl=>nX n (k-i) (iv i l).toNat l
 |0,_=>by simp[iT,iv]
 | i+1,hi=>by
   rw[uT hk i (by omega),iT,List.flatMap_assoc];exact oP λl hl=>JR hk (by omega) (sZ i (by omega) l hl)
theorem s8{n k:Nat}(hk:k<=n):fh n k=nX n k 0 []:=by rw[uT hk k (Nat.le_refl _)];unfold fh;simp[nX]
abbrev lQ(f:Fr)(l:List Int):Bool:=decide (ak (cH f l) []≠[])
theorem uU(f:Fr):ly f=(List.range' 0 (f.az.length+1)).findSome? λmany=>(fh f.az.length many).find? (lQ f):=by
 unfold ly
 have:∀(l:List Nat),(∀x∈l,x<=f.az.length)->(l.findSome? λmany=>fA f many 0 [])=l.findSome? λmany=>(fh f.az.length many).find? (lQ f):=λl=>by
  induction l with
  |nil=>intro _;rfl
  |cons a l ih=>intro h;rw[List.findSome?_cons,List.findSome?_cons,xd,s8 (h a (by simp)),ih λx hx=>h x (by simp[hx])]
 exact this _ λx hx=>by have:=List.mem_range'_1.1 hx;omega
theorem GH(l:List lP):lz l ((List.range' 0 l.length).map λx:Nat=>(x:Int))=[]:=by
 unfold lz;rw[List.map_eq_nil_iff,List.filter_eq_nil_iff];rintro⟨e,i⟩ he;have:=List.mem_zipIdx he;have hm:(i:Int)∈(List.range' 0 l.length).map (λx:Nat=>(x:Int)):=List.mem_map.2 ⟨i,List.mem_range'_1.2 (by omega),rfl⟩;simp only[hm];simp
theorem Ce(f:Fr):∃w,ly f=some w:=by
 cases h:ly f with
 |some w=>exact⟨w,rfl⟩
 | none=>
   rw[uU,List.findSome?_eq_none_iff]at h;have h1:=h f.az.length (List.mem_range'_1.2 (by omega));rw[List.find?_eq_none]at h1;have h2:=Af f.az.length f.az.length 0 [] (by omega);rw[<-s8 (Nat.le_refl _)]at h2;refine absurd ?_ (h1 _ h2);simp only[List.nil_append];unfold lQ cH;rw[GH];simp[ak,cV]
end Go.Proofs.YtalogdafegmilaaGreatDoor
namespace Go.Proofs.YtalogdafegmilaaGreatDoor
open Go.aN Go.Conc
set_option maxHeartbeats 1000000
set_option maxRecDepth 4000
variable{m:Mo}{σ:aa}{KF:cL->aa->Prop}
theorem bw(w:List Int)(k:Int)(i:Nat)(h:i<w.length):au (w.take (i+1)) k=au (w.take i) k++if w[i]=k then[(i:Int)]else[]:=by rw[List.take_succ_eq_append_getElem h,bo,List.length_take,Nat.min_eq_left (by omega)]
theorem bg(w:List Int)(k:Int):(au w k).length<=w.length:=by unfold au;rw[List.length_map];refine Nat.le_trans (List.length_filter_le _ _) ?_;simp
end Go.Proofs.YtalogdafegmilaaGreatDoor
namespace Go.Proofs.YtalogdafegmilaaGreatDoor
open Go.aN Go.Conc
set_option maxHeartbeats 1000000
set_option maxRecDepth 4000
variable{m:Mo}{σ:aa}{KF:cL->aa->Prop}
def toldOf(n all:Int):Int:=if n=0 then 2 else if n=all then 1 else 3
theorem bx{n all:Int}(h0:0<=n)(h1:n<=all)(h2:0<all):aL n all=toldOf n all:=by
 unfold aL toldOf;by_cases a:n=0
 . subst a;rw[if_neg (by omega),if_neg (by omega),if_pos rfl]
 . rw[if_neg a]
   by_cases b:n=all
   . subst b;rw[if_neg (by omega),if_pos rfl,if_pos rfl]
   . rw[if_pos (by omega),if_neg b]
end Go.Proofs.YtalogdafegmilaaGreatDoor
namespace Go.Proofs.YtalogdafegmilaaGreatDoor
open Go.aN Go.Conc
set_option maxHeartbeats 1000000
set_option maxRecDepth 4000
theorem jj{n all:Int}(h:0<all):toldOf n all=2↔n=0:=by
 unfold toldOf;by_cases a:n=0
 . simp[a]
 . by_cases b:n=all
   . simp[a,b]
   . simp[a,b]
theorem kr{α:Type}(p:α->Bool)(l:List α):(l.filter p).length=0↔∀x∈l,p x=false:=by rw[List.length_eq_zero_iff,List.filter_eq_nil_iff];simp
section
variable{L:List (List Int)}{n:Nat}
def fy(L:List (List Int))(x y:Nat):Int:=aL ((L.filter (aC x y)).length:Int) L.length
theorem eZ(hL:0<L.length){x y:Nat}:fy L x y=2↔∀w∈L,aC x y w=false:=by
 have:=List.length_filter_le (aC (x:Int) y) L;unfold fy;rw[bx (by omega) (by omega) (by omega),jj (by omega),<-kr];omega
end
theorem Ag{f:Fr}{w:List Int}{many i:Nat}(hw:ly f=some w)(hm:many<=f.az.length)(h1:∀m',m'<many->(fh f.az.length m').find? (lQ f)=none)
 (hi:i<(fh f.az.length many).length) (h2:∀(j:Nat) (hj:j<i),lQ f ((fh f.az.length many)[j]'(by omega))=false) (hp:lQ f (fh f.az.length many)[i]=true):w=(fh f.az.length many)[i]:=by
 rw[uU]at hw;obtain⟨d,hd⟩:∃d,f.az.length+1=many+(d+1):=⟨f.az.length-many,by omega⟩
 have e0:List.range' 0 (many+(d+1))=List.range' 0 many++List.range' many (d+1):=by rw[<-List.range'_append_1];simp
 rw[hd,e0,List.findSome?_append]at hw
 have e1:(List.range' 0 many).findSome? (λmany=>(fh f.az.length many).find? (lQ f))=none:=by rw[List.findSome?_eq_none_iff];intro x hx;exact h1 x (by have:=List.mem_range'_1.1 hx;omega)
 rw[e1,List.range'_succ,List.findSome?_cons]at hw
 have e2:(fh f.az.length many).find? (lQ f)=some (fh f.az.length many)[i]:=by
  rw[List.find?_eq_some_iff_getElem];refine⟨hp,i,hi,rfl,λj hj=>?_⟩
  rw[h2 j hj];rfl
 rw[e2]at hw;exact(Option.some.inj (by simpa using hw)).symm
theorem EA{l:List (List Int)}(h:l≠[]):∃w,l.foldl dG none=some w/\w∈l:=by
 have key:∀(l:List (List Int)) (v:List Int),∃w,l.foldl dG (some v)=some w/\(w=v\/w∈l):=λl=>by
  induction l with
  |nil=>intro v;exact⟨v,rfl,.inl rfl⟩
  | cons a l ih=>
    intro v;rw[List.foldl_cons];by_cases q:am a<am v
    . rw[show dG (some v) a=some a by simp[dG,q]]
      obtain⟨w,h1,h2⟩:=ih a;exact⟨w,h1,.inr (by rcases h2 with rfl|h2<;>simp[*])⟩
    . rw[show dG (some v) a=some v by simp[dG,q]]
      obtain⟨w,h1,h2⟩:=ih v;exact⟨w,h1,by rcases h2 with rfl|h2<;>simp[*]⟩
 cases l with
 |nil=>exact absurd rfl h
 |cons a l=>obtain⟨w,h1,h2⟩:=key l a;exact⟨w,h1,by rcases h2 with rfl|h2<;>simp[*]⟩
section
variable{L:List (List Int)}{n:Nat}
theorem Cf{p w s:List Int}(h:Canon p w s){i j:Nat}(hi:i<p.length)(hj:j<p.length)(e:p.getD i 0=p.getD j 0):aC i j w=true:=by
 have hiw:i<w.length:=by rw[h.len];exact hi
 have hjw:j<w.length:=by rw[h.len];exact hj
 have hpi:p.getD i 0=p[i]:=by simp[List.getD_eq_getElem?_getD,hi]
 have hs:p.getD i 0∈s:=h.all _ (by rw[hpi];exact List.getElem_mem hi)
 obtain⟨hk,he⟩:=Ah hs;have hh:=h.Ai _ hk;rw[he]at hh;have mi:(i:Int)∈au w ((s.idxOf (p.getD i 0):Nat):Int):=by rw[hh];exact fR hi rfl
 have mj:(j:Int)∈au w ((s.idxOf (p.getD i 0):Nat):Int):=by rw[hh];exact fR hj e.symm
 have qi:=(cr mi).2.2;have qj:=(cr mj).2.2;rw[Int.toNat_natCast]at qi qj;simp only[aC,decide_eq_true_eq,Int.toNat_natCast,qi,qj]
def mw(ks:List Int)(k:Nat):Nat:=((List.range k).filter λ(j:Nat)=>decide (au ks (j:Int)≠[])).length
theorem uV(ks:List Int)(k:Nat):mw ks (k+1)=mw ks k+if au ks (k:Int)≠[]then 1 else 0:=by
 unfold mw;rw[List.range_succ,List.filter_append,List.length_append];congr 1;by_cases h:au ks (k:Int)=[]<;>simp[h]
theorem GJ(ks:List Int)(k:Nat):mw ks k<=k:=by
 have:=List.length_filter_le (λ(j:Nat)=>decide (au ks (j:Int)≠[])) (List.range k);rw[List.length_range]at this;exact this
theorem xe(ks:List Int):∀(k:Nat) (s:List Int),s.Nodup->(∀x∈s,(0<=x/\x<k)/\x∈ks)->s.length<=mw ks k
 | 0,s,_,h=>by
   cases s with
   |nil=>exact Nat.le_refl _
   |cons a s=>have:=h a (by simp);omega
 | k + 1,s,hn,h=>by
   have h1:=xe ks k (s.erase (k:Int)) (hn.erase _) λx hx=>by have hx2:=(List.Nodup.mem_erase_iff hn).1 hx;have h3:=h x hx2.2;have:=hx2.1;exact⟨by omega,h3.2⟩
   rw[List.length_erase]at h1;rw[uV];split at h1
   . next hm=>
     have hk:=(h _ hm).2;obtain⟨i,hi,e⟩:=List.mem_iff_getElem.1 hk;have:au ks (k:Int)≠[]:=List.ne_nil_of_mem (fR hi (by rw[List.getD_eq_getElem?_getD,List.getElem?_eq_getElem hi];exact e))
     rw[if_pos this];omega
   . omega
end
end Go.Proofs.YtalogdafegmilaaGreatDoor
namespace Go.Proofs.YtalogdafegmilaaGreatDoor
open Go.aN Go.Conc
set_option maxHeartbeats 2000000
set_option maxRecDepth 4000
variable{m:Mo}{σ:aa}{KF:cL->aa->Prop}
theorem mq{f:Fr}{l:List Int}{k:Int}(h6:f.az.length<=6)(hl:l.length=f.az.length)(hne:au l k≠[]):Dk f (au l k):=by
 have h1:=bg l k;have hp:(au l k).Pairwise (·<·):=(io k l 0).1
 have h0:1<=(au l k).length:=by
  cases e:au l k with
  |nil=>exact absurd e hne
  |cons a r=>simp
 refine qM (n:=(au l k).length) ⟨rfl,λx hx=>?_,λa b hab hb=>?_⟩ ⟨h0,by omega⟩
 . have:=cr hx
   omega
 . have:=List.pairwise_iff_getElem.1 hp a b (by omega) hb hab
   simpa[List.getD_eq_getElem?_getD,hb,show a<(au l k).length by omega]using this
end Go.Proofs.YtalogdafegmilaaGreatDoor
namespace Go.Proofs.YtalogdafegmilaaGreatDoor
open Go.aN Go.Conc
set_option maxHeartbeats 2000000
set_option maxRecDepth 4000
variable{m:Mo}{σ:aa}{KF:cL->aa->Prop}
theorem rW:∀(l:List (List Int)) (v w:List Int),l.foldl dG (some v)=some w->am w<=am v/\∀x∈l,am w<=am x
 |[],v,w,h=>by simp at h;subst h;exact⟨Int.le_refl _,by simp⟩
 | a :: l,v,w,h=>by
   rw[List.foldl_cons]at h;by_cases q:am a<am v
   . rw[show dG (some v) a=some a by simp[dG,q]]at h
     have ih:=rW l a w h
     exact⟨by omega,λx hx=>by
      rcases List.mem_cons.1 hx with rfl|hx
      . exact ih.1
      . exact ih.2 x hx⟩
   . rw[show dG (some v) a=some v by simp[dG,q]]at h
     have ih:=rW l v w h
     exact⟨ih.1,λx hx=>by
      rcases List.mem_cons.1 hx with rfl|hx
      . omega
      . exact ih.2 x hx⟩
theorem Cg{l:List (List Int)}{w:List Int}(h:l.foldl dG none=some w):∀x∈l,am w<=am x:=by
 cases l with
 |nil=>simp
 | cons a r=>
   rw[List.foldl_cons,show dG none a=some a from rfl]at h;have:=rW r a w h;intro x hx;rcases List.mem_cons.1 hx with rfl|hx
   . exact this.1
   . exact this.2 x hx
theorem EB{f:Fr}(h:ak f []≠[]):ly f=some []:=by
 obtain⟨w,hw⟩:=Ce f
 have e1:cH f []=f:=by unfold cH lz;rw[List.filter_eq_self.2 (by simp),List.zipIdx_map_fst]
 have e2:lQ f []=true:=by unfold lQ;rw[e1];simp[h]
 have:=Ag hw (Nat.zero_le _) (λm' hm'=>by omega) (i:=0) (by simp[fh,iT]) (λj hj=>by omega) (by simpa[fh,iT]using e2)
 rw[hw,this];simp[fh,iT]
theorem Aj(hs:m.solo=true){nums:List Int}(hn:nums.length<1152921504606846976)(h:KF (.val (bool true)) σ):gq Tryz.prog lay m 6 [ints nums] σ KF:=by
 refine gq.start lay [] RV 1 Tryz.func6 rfl rfl (by rfl) (by kernel_rfl) ?_
 simp[Tryz.f6];refine aq Tryz.func13 rfl rfl (kv λc σ1 hc hb hsame=>?_)
 refine ab.run lay [] ?_;simp;refine aq Tryz.func25 rfl rfl (lX (by omega) hn ⟨by omega,by omega⟩ hb λf ks σ2 hf hd=>?_)
 refine ab.run lay [] ?_;simp;refine cT.intro λd hd3=>?_
 simp;have hle:σ.Le ((σ2.set d (.cells (eP f))).del d):=qv hc hsame hd.2 hd3;have hg:=hf.jw;have hfit:=hg.fits;have hchk:=hg.Ng;have h6:=hg.pi;have hmo:=hg.most;have hway:=hf.ways;have hlen:=fa hg [];have hL:0<(ak f []).length:=List.length_pos_iff.2 hway;have hwl:∀w∈ak f [],w.length=f.az.length:=λw hw=>by have:=dA f [] _ _ _ _ w hw;simpa using this
 obtain⟨most,C,H,last,hseen,hmost⟩:=hf.seen;obtain⟨tw,s,hcan,htw⟩:=hseen.cd hg (by omega)
 obtain⟨w,hw,hwm⟩:=EA hway;have hmin:=Cg hw tw htw;have hksl:=hseen.len;have hwks:w.length=ks.length:=by rw[hwl w hwm,hksl]
 have hmany:am w<=mw ks most:=by
  have h1:=xe ks most s hcan.nd λx hx=>⟨hseen.Gh x (hcan.sub x hx),hcan.sub x hx⟩
  have h2:=hcan.many;omega
 refine aq Tryz.func21 rfl rfl (xf hs hfit hchk hw (by omega) ?_)
 refine ab.cZ 3 (b:=d) (aF f) (by simp) (by simp) rfl ?_
 refine ab.weaken (σ:=σ) ?_ hle;refine ab.run lay [] ?_;simp;refine aq Tryz.func19 rfl rfl (Ak hs hfit hchk (EB hway) ?_);have q0:(((w.map int).length:Int) !=((ks.map int).length:Int))=false:=by simp[hwks]
 refine ab.run lay [] ?_;simp[hwks];refine ab.loop most (λk s=>∃env,s=⟨env,σ,[],.no⟩/\env 3=.cp (aF f) 0/\env 4=ints ks/\env 6=int (am w)/\env 10=int (mw ks k)/\env 11=int k) ⟨_,rfl,by simp,by simp,by simp,by simp[mw],by simp⟩ ?_
 rintro c0 k _ hk ⟨env,rfl,e3,e4,e6,aJ,aI⟩ ihk
 rcases Nat.lt_or_ge k most with g1|g1
 . have g1':(k:Int)<f.most:=by omega
   have f1:-9223372036854775808<=(k:Int)+1/\(k:Int)+1<=9223372036854775807:=by omega
   have hml:=GJ ks k;have f0:-9223372036854775808<=(mw ks k:Int)+1/\(mw ks k:Int)+1<=9223372036854775807:=by omega
   have hms:=uV ks k;refine ab.run lay [] ?_;simp[e3,e4,e6,aJ,aI,g1'];refine ab.loop ks.length (λi s=>∃env σ',s=⟨env,σ',[],.no⟩/\env 3=.cp (aF f) 0/\env 4=ints ks/\env 6=int (am w)/\env 10=int (mw ks k)/\env 11=int k/\env 13=int i/\Tok σ σ' (env 12) 1 ((au (ks.take i) k).map int)) ⟨_,σ,rfl,by simp[e3],by simp[e4],by simp[e6],by simp[aJ],by simp[aI],by simp,by simpa[au]using Tok.nil σ 1⟩ ?_
   clear e3 e4 e6 aJ aI
   rintro c1 i _ hi ⟨env,σ',rfl,e3,e4,e6,aJ,aI,e13,htok⟩ ihi
   have htc:=htok.cells
   rcases Nat.lt_or_ge i ks.length with g2|g2
   . have ns:(i:Int)<ks.length:=by omega
     have f2:-9223372036854775808<=(i:Int)+1/\(i:Int)+1<=9223372036854775807:=by omega
     have hlk:=bg (ks.take i) k;rw[List.length_take]at hlk
     by_cases q:ks[i]=(k:Int)
     . have qb:(ks[i]==(k:Int))=true:=by simp[q]
       refine ab.run lay [] ?_;simp[e3,e4,e6,aJ,aI,e13,htc.1,htc.2,g2,qb];refine aM lay rfl rfl rfl cA rfl cA rfl pQ (by decide) (by simp;omega) (σ0:=σ) (es:=(au (ks.take i) k).map int) (xs:=[int i]) (by simpa using htok) (.inr ⟨_,by simp;rfl⟩) λa' σ3 ht'=>?_
       have htc':=ht'.cells;refine ab.run lay [] ?_;simp[e13,f2.1,f2.2,htc'.1,htc'.2];refine ihi _ g2 ⟨_,_,rfl,by simp[e3,e4,e6,aJ,aI,e13,htc.1,htc.2],by simp[e3,e4,e6,aJ,aI,e13,htc.1,htc.2],by simp[e3,e4,e6,aJ,aI,e13,htc.1,htc.2],by simp[e3,e4,e6,aJ,aI,e13,htc.1,htc.2],by simp[e3,e4,e6,aJ,aI,e13,htc.1,htc.2],by simp,?_⟩
       rw[bw _ _ _ g2,if_pos q,List.map_append];simpa using ht'
     . have qb:(ks[i]==(k:Int))=false:=by simp[q]
       refine ab.run lay [] ?_;simp[e3,e4,e6,aJ,aI,e13,htc.1,htc.2,g2,qb,f2.1,f2.2];refine ihi _ g2 ⟨_,_,rfl,by simp[e3,e4,e6,aJ,aI,e13,htc.1,htc.2],by simp[e3,e4,e6,aJ,aI,e13,htc.1,htc.2],by simp[e3,e4,e6,aJ,aI,e13,htc.1,htc.2],by simp[e3,e4,e6,aJ,aI,e13,htc.1,htc.2],by simp[e3,e4,e6,aJ,aI,e13,htc.1,htc.2],by simp,?_⟩
       rw[bw _ _ _ g2,if_neg q,List.append_nil];simpa using htok
   . have hie:i=ks.length:=by omega
     subst hie;rw[List.take_length]at htok;clear ihi;obtain⟨own,hown⟩:∃own,own=au ks k:=⟨_,rfl⟩;rw[<-hown]at htok hms;have hownl:own.length<=ks.length:=by rw[hown];exact bg ks k
     refine ab.yt 12 (a':=ints own) (by simpa using htok.W) ?_
     refine ab.weaken (σ:=σ) ?_ htok.1;have hl0:0<own.length↔own≠[]:=List.length_pos_iff
     by_cases hne:own=[]
     . rw[if_neg (by simp[hne]),Nat.add_zero]at hms
       subst hne;refine ab.run lay [] ?_;simp[e3,e4,e6,aJ,aI,e13,f1.1,f1.2];exact ihk _ g1 ⟨_,rfl,by simp[e3,e4,e6,aJ,aI,e13],by simp[e3,e4,e6,aJ,aI,e13],by simp[e3,e4,e6,aJ,aI,e13],by simp[hms,aJ],by simp⟩
     . rw [if_pos hne]at hms
       have hpos:=hl0.2 hne;have q1:((own.length:Int)==0)=false:=by rw[beq_eq_false_iff_ne];omega
       have hwhy:decide (ii f own=0)=true:=by rw[decide_eq_true_eq,hown];exact hseen.one hg (by rw[<-hown];exact hne)
       have hlst:Dk f own:=by rw[hown];exact mq h6 hksl (by rw[<-hown];exact hne)
       have hmem:∀z∈own,∃a:Nat,z=(a:Int)/\a<f.az.length/\ks.getD a 0=k:=λz hz=>by rw[hown]at hz;obtain⟨z0,z1,z2⟩:=cr hz;exact⟨z.toNat,by omega,by omega,z2⟩
       refine ab.run lay [] ?_;simp[e3,e4,e6,aJ,aI,e13,q1,hne,f0.1,f0.2];refine aq Tryz.func28 rfl rfl (yw hfit hchk hlst (by omega) ?_)
       rw[hwhy];refine ab.run lay [] ?_;simp[e3,e4,e6,aJ,aI,e13];refine ab.loop (own.length-1) (λi s=>∃env,s=⟨env,σ,[],.no⟩/\env 3=.cp (aF f) 0/\env 4=ints ks/\env 6=int (am w)/\env 10=int (mw ks (k+1))/\env 11=int k/\env 12=ints own/\env 16=int ((i:Int)+1)) ⟨_,rfl,by simp[e3],by simp[e4],by simp[e6],by simp[hms],by simp[aI],by simp,by simp⟩ ?_
       clear e3 e4 e6 aJ aI e13
       rintro c2 i _ hi2 ⟨env,rfl,e3,e4,e6,aJ,aI,bh,Al⟩ ihi
       rcases Nat.lt_or_ge (i+1) own.length with g3|g3
       . have tE:(i:Int)+1<own.length:=by omega
         have f3:-9223372036854775808<=(i:Int)+1+1/\(i:Int)+1+1<=9223372036854775807:=by omega
         have t1:((i:Int)+1).toNat=i+1:=by omega
         have t2:0<=(i:Int)+1:=by omega
         obtain⟨a,ha,ha1,ha2⟩:=hmem _ (List.getElem_mem hpos);obtain⟨b,hb,hb1,hb2⟩:=hmem _ (List.getElem_mem g3)
         have hnv:aL (((ak f []).filter (aC (own[0]) (own[i+1]))).length:Int) (ak f []).length≠2:=λq=>by
          rw[ha,hb]at q;have:=(eZ hL).1 q tw htw;rw[Cf hcan (by omega) (by omega) (by rw[ha2,hb2])]at this
          cases this
         refine ab.run lay [] ?_;simp[e3,e4,e6,aJ,aI,bh,Al,tE,t1,t2,hpos,g3];refine aq Tryz.func27 rfl rfl (jr hs hfit hchk ⟨by omega,by omega⟩ ⟨by omega,by omega⟩ hway (by omega) ?_)
         generalize aL (((ak f []).filter (aC (own[0]) (own[i+1]))).length:Int) (ak f []).length=v at hnv ⊢;have q2:(v==2)=false:=by simp[hnv]
         refine bm.go lay [] ?_;simp[e3,e4,e6,aJ,aI,bh,Al,tE,t1,t2,hpos,g3];refine ab.run lay [] ?_;simp[e3,e4,e6,aJ,aI,bh,Al,q2,f3.1,f3.2];exact ihi _ (by omega) ⟨_,rfl,by simp[e3,e4,e6,aJ,aI,bh,Al],by simp[e3,e4,e6,aJ,aI,bh,Al],by simp[e3,e4,e6,aJ,aI,bh,Al],by simp[e3,e4,e6,aJ,aI,bh,Al],by simp[e3,e4,e6,aJ,aI,bh,Al],by simp[e3,e4,e6,aJ,aI,bh,Al],by simp⟩
       . have hie:(i:Int)+1=own.length:=by omega
         have n3:¬(i:Int)+1<own.length:=by omega
         refine ab.run lay [] ?_;simp[e3,e4,e6,aJ,aI,bh,Al,n3,f1.1,f1.2];exact ihk _ g1 ⟨_,rfl,by simp[e3,e4,e6,aJ,aI,bh,Al],by simp[e3,e4,e6,aJ,aI,bh,Al],by simp[e3,e4,e6,aJ,aI,bh,Al],by simp[e3,e4,e6,aJ,aI,bh,Al],by simp⟩
 . have hke:k=most:=by omega
   subst hke;have n1:¬(k:Int)<f.most:=by omega
   have q1:am w<=(mw ks k:Int):=hmany;refine ab.run lay [] ?_;simp[e3,e4,e6,aJ,aI,n1,q1];refine aq Tryz.func20 rfl rfl (ip hs ?_);refine ab.run lay [] ?_;simp[e3,e4,e6,aJ,aI];exact .done h
end Go.Proofs.YtalogdafegmilaaGreatDoor

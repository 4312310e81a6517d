/- Part 2 of the proof. -/
import Derived.Test.YtalogdafegmilaaGreatDoorN1
set_option linter.all false
namespace Go.Proofs.YtalogdafegmilaaGreatDoor
open Go.aN
abbrev LE:List Entry:=[⟨11,.take [0,1,2,3,4,5] false (.one 6 (.one 7 (.take [8,9,10,11,12] true (.done))))⟩]
abbrev Pj:List Entry:=[⟨19,.take [0,1,2,3,4,5,6,7,8,9,10,11] true (.done)⟩]
abbrev LF:List Entry:=[⟨5,.take [0,1,2,3,4,5,6,7,8,9,10,11,12,13,14] true (.done)⟩]
abbrev Pk:List Entry:=[⟨1,.take [0,1,2,3,4,5,6,7,8,9] true (.done)⟩]
end Go.Proofs.YtalogdafegmilaaGreatDoor
namespace Go.Proofs.YtalogdafegmilaaGreatDoor
open Go.aN Go.Conc
set_option maxHeartbeats 1000000
variable{m:Mo}{σ:aa}{KF:cL->aa->Prop}
theorem nP{l:List Int}(hl:l.length<=1000000000)(h:∀a σ',bG σ σ' a 1 (l.map int)->KF (.val a) σ'):aA Tryz.prog m 75 [ints l] σ KF:=by
 refine aA.start lay [] [] 1 Tryz.func75 rfl rfl (by rfl) (by kernel_rfl) ?_;simp[Tryz.f75];refine gf lay rfl rfl rfl cA rfl cA rfl pQ (by decide) (by simp;omega) (σ0:=σ) (es:=[]) (xs:=l.map int) (.empty σ 1) (.inl (.inr ⟨_,rfl⟩)) (by simp) λa' σ' ht=>?_
 refine ab.run lay [] ?_;simp;exact .done (h _ _ (by simpa using ht))
end Go.Proofs.YtalogdafegmilaaGreatDoor
namespace Go.Proofs.YtalogdafegmilaaGreatDoor
open Go.aN Go.Conc
set_option maxHeartbeats 2000000
set_option maxRecDepth 4000
structure Ev(n:Int)(i:Nat)(l:List Int):Prop where
 len:l.length=i
 mem:∀x∈l,0<=x/\x<n
 LG:∀a b,a<b->b<i->l.getD a 0<l.getD b 0
theorem uJ{f:Fr}(hf:f.Good)(e:lP):bO f e≠[]:=by
 unfold bO gN;have:=hf.le;by_cases h0:e.iS=0
 . simp[h0]
 . have hp:(f.jn-f.bM+1).toNat=(f.jn-f.bM).toNat+1:=by omega
   rw[if_pos h0,hp,List.range_succ_eq_map];split<;>simp
theorem dU(f:Fr):∀(l:List Int) (p:Option Int),(∀x∈l,0<=x/\x<f.az.length)->l.Pairwise (·<·)->(∀q,p=some q->∀x∈l,q<x)->ez f p l=0
 |[],_,_,_,_=>rfl
 | a :: l,p,h1,h2,h3=>by
   have ha:=h1 a (by simp);have h2':=List.pairwise_cons.1 h2;have e1:dv a 0 (f.az.length-1)=true:=by simp[dv,ha.1];omega
   have e2:lw p a=false:=by
    cases p with
    |none=>rfl
    | some q=>
      have:=h3 q rfl a (by simp);simp[lw];omega
   unfold ez;rw[e1,if_neg (by simp),e2,if_neg (by simp)];exact dU f l (some a) (λx hx=>h1 x (by simp[hx])) h2'.2 (λq hq x hx=>by cases hq;exact h2'.1 x hx)
theorem Ev.pw{n:Int}{i:Nat}{l:List Int}(h:Ev n i l):l.Pairwise (·<·):=by
 rw[List.pairwise_iff_getElem];intro a b ha hb hab;have:=h.LG a b hab (by rw[<-h.len];exact hb);simpa[List.getD_eq_getElem?_getD,ha,hb]using this
theorem qM{f:Fr}{n:Nat}{l:List Int}(h:Ev f.az.length n l)(hn:1<=n/\n<=6):Dk f l:=by
 have hl:=h.len;refine⟨?_,by omega⟩;unfold nQ;rw[if_neg (by omega)];exact dU f l none h.mem h.pw (λq hq=>by cases hq)
end Go.Proofs.YtalogdafegmilaaGreatDoor
namespace Go.Proofs.YtalogdafegmilaaGreatDoor
open Go.aN Go.Conc
set_option maxHeartbeats 1000000
set_option maxRecDepth 4000
section
variable{k:Int->Int}
end
theorem B8{f:Fr}(hg:f.Good)(n:Int):ii f [n]=0:=by
 have e:aT f [n]=[n]:=by simp[aT,eH,eI]
 refine nR.2 ?_;rw[e];refine⟨by simp[dF],?_,rfl⟩;unfold cG;simp only[decide_eq_false_iff_not];obtain⟨x,hx⟩:=List.exists_mem_of_ne_nil _ (uJ hg (bT f n));exact List.ne_nil_of_mem ((qN (by simp)).2 (λj hj=>by simp at hj;subst hj;exact hx))
theorem dV(f:Fr)(begun:List Int):∀(fuel:Nat) (cd:List Int) (many:Int) (hs:List Int),begun.length<=cd.length->cV f begun fuel cd many hs=cV f [] fuel cd many hs
 |0,_,_,_,_=>rfl
 | fuel+1,cd,many,hs,h=>by
   unfold cV;congr 1;funext k;have e1:¬(cd.length<begun.length/\begun.getD cd.length 0≠(k:Int)):=by omega
   have e2:¬(cd.length<([]:List Int).length/\([]:List Int).getD cd.length 0≠(k:Int)):=by simp
   rw[if_neg e1,if_neg e2];split
   . exact dV f begun fuel _ _ _ (by simp;omega)
   . rfl
theorem pT{f:Fr}(hg:f.Good)(h2:2<=f.az.length):ak f []=ak f [0,0]++ak f [0,1]:=by
 obtain⟨n,hn⟩:∃n,f.az.length=n+2:=⟨f.az.length-2,by omega⟩;have hm:=hg.most;have e1:(min ((0:Int)+1) f.most).toNat=1:=by omega
 unfold ak;rw[hn];unfold cV;rw[e1];simp only[List.range_succ,List.range_zero,List.nil_append,List.flatMap_cons,List.flatMap_nil,List.append_nil];simp;by_cases c0:gO f (bq 0 0)=true
 . simp only[c0,if_true]
   unfold cV;have e2:(min (max (0:Int) 1+1) f.most).toNat=1\/(min (max (0:Int) 1+1) f.most).toNat=2:=by omega
   rcases e2 with e2|e2
   . rw[e2]
     simp only[List.range_succ,List.range_zero,List.nil_append,List.flatMap_cons,List.flatMap_nil,List.append_nil];simp;rw[dV f [0,0] n [0,0] _ _ (by simp)]
   . rw[e2]
     simp only[List.range_succ,List.range_zero,List.nil_append,List.flatMap_cons,List.flatMap_nil,List.append_nil];simp;rw[dV f [0,0] n [0,0] _ _ (by simp),dV f [0,1] n [0,1] _ _ (by simp)]
 . simp[c0]
theorem pU{f:Fr}(hg:f.Good)(h2:2<=f.az.length):fK f=((ak f []).length:Int):=by
 unfold fK;rw[if_neg (by omega),pT hg h2,List.length_append];omega
theorem nT:∀(i:Nat),∀l∈aU i,∀k:Nat,(k:Int)<am l->au l k≠[]
 |0,l,h,k,hk=>by simp[aU]at h;subst h;rw[show am []=0 from rfl]at hk;omega
 | i + 1,l,h,k,hk=>by
   unfold aU at h;obtain⟨p,hp,hq⟩:=List.mem_flatMap.1 h;unfold aV at hq;obtain⟨k',hk1,rfl⟩:=List.mem_map.1 hq;have hk1:=List.mem_range.1 hk1;have:=bP p;rw[bn]at hk;rw[bo];by_cases e:k'=k
   . subst e;simp
   . have:=nT i p hp k (by omega)
     rw[if_neg (by omega),List.append_nil];exact this
theorem gg:∀(i:Nat),i<=6->(aU i).length<=7 ^ i
 |0,_=>by simp[aU]
 | i+1,hi=>by
   have ih:=gg i (by omega);unfold aU;rw[Nat.pow_succ];refine Nat.le_trans (tT (B:=7) _ λl hl=>?_) (Nat.mul_le_mul_right _ ih);have:=(ir i l hl).2.2;have:=bP l;unfold aV;rw[List.length_map,List.length_range];omega
end Go.Proofs.YtalogdafegmilaaGreatDoor
namespace Go.Proofs.YtalogdafegmilaaGreatDoor
open Go.aN Go.Conc
set_option maxHeartbeats 1000000
set_option maxRecDepth 4000
variable{m:Mo}{σ:aa}{KF:cL->aa->Prop}
theorem gQ(w:List Int)(i:Nat)(h:i<w.length):am (w.take (i+1))=max (am (w.take i)) (w[i]+1):=by rw[List.take_succ_eq_append_getElem h,bn]
theorem qO{l:List Int}(hl:l.length<1152921504606846976)(hb:∀x∈l,-1<=x/\x<=1000)(h:KF (.val (int (am l))) σ):aA Tryz.prog m 23 [ints l] σ KF:=by
 refine aA.start lay [] [] 1 Tryz.func23 rfl rfl (by rfl) (by kernel_rfl) ?_;simp[Tryz.f23];refine ab.loop l.length (λk s=>∃env,s=⟨env,σ,[],.no⟩/\env 0=ints l/\env 3=int (am (l.take k))/\env 4=int k) ⟨_,rfl,by simp,by simp[am],by simp⟩ ?_;rintro c0 k _ hk ⟨env,rfl,e0,e3,e4⟩ ih;rcases Nat.lt_or_ge k l.length with g1|g1
 . have g1':(k:Int)<l.length:=by omega
   have hx:=hb _ (List.getElem_mem g1);have f1:-9223372036854775808<=(k:Int)+1/\(k:Int)+1<=9223372036854775807:=by omega
   have f2:-9223372036854775808<=l[k]+1/\l[k]+1<=9223372036854775807:=by omega
   refine ab.run lay [] ?_;simp[e0,e3,e4,g1,f1.1,f1.2,f2.1,f2.2];refine ih _ g1 ⟨_,rfl,by simp[e0,e3,e4],?_,by simp⟩;rw[gQ _ _ g1];simp[e0,e3,e4];split<;>omega
 . have hke:k=l.length:=by omega
   subst hke;rw[List.take_length]at e3;refine ab.run lay [] ?_;simp[e0,e3,e4];exact .done h
theorem bw(w:List Int)(k:Int)(i:Nat)(h:i<w.length):au (w.take (i+1)) k=au (w.take i) k++if w[i]=k then[(i:Int)]else[]:=by rw[List.take_succ_eq_append_getElem h,bo,List.length_take,Nat.min_eq_left (by omega)]
theorem bg(w:List Int)(k:Int):(au w k).length<=w.length:=by unfold au;rw[List.length_map];refine Nat.le_trans (List.length_filter_le _ _) ?_;simp
theorem qP{w:List Int}{k:Int}(hl:w.length<1000000)(h:KF (.val (ints (au w k))) σ):aA Tryz.prog m 36 [ints w,int k] σ KF:=by
 refine aA.start lay [] [] 2 Tryz.func36 rfl rfl (by rfl) (by kernel_rfl) ?_;simp[Tryz.f36];refine ab.loop w.length (λi s=>∃env σ',s=⟨env,σ',[],.no⟩/\env 0=ints w/\env 1=int k/\env 6=int i/\Tok σ σ' (env 5) 1 ((au (w.take i) k).map int)) ⟨_,σ,rfl,by simp,by simp,by simp,by simpa[au]using Tok.nil σ 1⟩ ?_;rintro c0 i _ hi ⟨env,σ',rfl,e0,e1,e6,htok⟩ ih;have htc:=htok.cells;rcases Nat.lt_or_ge i w.length with g1|g1
 . have g1':(i:Int)<w.length:=by omega
   have f1:-9223372036854775808<=(i:Int)+1/\(i:Int)+1<=9223372036854775807:=by omega
   refine ab.run lay [] ?_;simp[e0,e1,e6,htc.1,htc.2,g1];refine aK.intro (λg2=>?_) (λg2=>?_)<;>(try simp[-Int.not_lt,-Int.not_le,-Nat.not_lt,-Nat.not_le]at g2)<;>(try simp[e0,e1,e6,htc.1,htc.2,g2])
   . have hlk:=bg (w.take i) k
     rw[List.length_take]at hlk;refine aM lay rfl rfl rfl cA rfl cA rfl pQ (by decide) (by simp;omega) (σ0:=σ) (es:=(au (w.take i) k).map int) (xs:=[int i]) (by simpa using htok) (.inr ⟨_,rfl⟩) λa' σ2 ht'=>?_
     refine ab.run lay [] ?_;simp[e0,e1,e6,htc.1,htc.2,f1.1,f1.2];refine ih _ g1 ⟨_,_,rfl,by simp[e0,e1,e6,htc.1,htc.2],by simp[e0,e1,e6,htc.1,htc.2],by simp,?_⟩;rw[bw _ _ _ g1,if_pos g2,List.map_append];simpa using ht'
   . simp[e0,e1,e6,htc.1,htc.2,f1.1,f1.2]
     refine ih _ g1 ⟨_,_,rfl,by simp[e0,e1,e6,htc.1,htc.2],by simp[e0,e1,e6,htc.1,htc.2],by simp,?_⟩;rw[bw _ _ _ g1,if_neg g2,List.append_nil];simpa using htok
 . have hie:i=w.length:=by omega
   subst hie;rw[List.take_length]at htok;refine ab.run lay [] ?_;simp[e0,e1,e6];exact .less htok.1 (.nC htok.W (.done h))
end Go.Proofs.YtalogdafegmilaaGreatDoor
namespace Go.Proofs.YtalogdafegmilaaGreatDoor
open Go.aN Go.Conc
set_option maxHeartbeats 1000000
set_option maxRecDepth 4000
variable{m:Mo}{σ:aa}{KF:cL->aa->Prop}
theorem nW{l:List (List Int)}{x y:Int}(hl:l.length<1000000000)(hx:0<=x/\∀w∈l,x.toNat<w.length)(hy:0<=y/\∀w∈l,y.toNat<w.length)(h:KF (.val (int ((l.filter (aC x y)).length:Int))) σ):aA Tryz.prog m 31 [rows l,int x,int y] σ KF:=by
 refine aA.start lay [] LF 3 Tryz.func31 rfl rfl (by rfl) (by kernel_rfl) ?_;simp[Tryz.f31];refine ab.loop l.length (λi s=>∃env,s=⟨env,σ,[],.no⟩/\env 0=rows l/\env 1=int x/\env 2=int y/\env 7=int (((l.take i).filter (aC x y)).length:Int)/\env 8=int i) ⟨_,rfl,by simp,by simp,by simp,by simp,by simp⟩ ?_;rintro c0 i _ hi ⟨env,rfl,e0,e1,e2,e7,e8⟩ ih;rcases Nat.lt_or_ge i l.length with g1|g1
 . have g1':(i:Int)<l.length:=by omega
   obtain⟨w,hw⟩:∃w,w=l[i]:=⟨_,rfl⟩;have hxw:=hx.2 w (by rw[hw];exact List.getElem_mem g1);have hyw:=hy.2 w (by rw[hw];exact List.getElem_mem g1);have hlk:((l.take i).filter (aC x y)).length<=i:=Nat.le_trans (List.length_filter_le _ _) (by rw[List.length_take];omega);have f1:-9223372036854775808<=(i:Int)+1/\(i:Int)+1<=9223372036854775807:=by omega
   have f2:-9223372036854775808<=(((l.take i).filter (aC x y)).length:Int)+1/\(((l.take i).filter (aC x y)).length:Int)+1<=9223372036854775807:=by omega
   have hp:aC x y w=decide (w[x.toNat]=w[y.toNat]):=by simp[aC,List.getD_eq_getElem?_getD,hxw,hyw]
   have hsucc:(l.take (i+1)).filter (aC x y)=(l.take i).filter (aC x y)++if aC x y w=true then[w]else[]:=by
    rw[List.take_succ_eq_append_getElem g1,List.filter_append,<-hw];by_cases e:aC x y w=true<;>simp[e]
   by_cases q:w[x.toNat]=w[y.toNat]
   . rw[hp,if_pos (decide_eq_true q)]at hsucc
     refine ab.run lay [] ?_;simp[e0,e1,e2,e7,e8,g1,<-hw,hx.1,hy.1,hxw,hyw,beq_iff_eq.2 q];refine ab.run lay [] ?_;simp[e0,e1,e2,e7,e8,f1.1,f1.2,f2.1,f2.2];refine ih _ g1 ⟨_,rfl,by simp[e0,e1,e2,e7,e8],by simp[e0,e1,e2,e7,e8],by simp[e0,e1,e2,e7,e8],by simp[hsucc],by simp⟩
   . rw[hp,if_neg (by simpa using q),List.append_nil]at hsucc
     refine ab.run lay [] ?_;simp[e0,e1,e2,e7,e8,g1,<-hw,hx.1,hy.1,hxw,hyw,beq_eq_false_iff_ne.2 q];refine ab.run lay [] ?_;simp[e0,e1,e2,e7,e8,f1.1,f1.2];refine ih _ g1 ⟨_,rfl,by simp[e0,e1,e2,e7,e8],by simp[e0,e1,e2,e7,e8],by simp[e0,e1,e2,e7,e8],by simp[hsucc,e7],by simp⟩
 . have hie:i=l.length:=by omega
   subst hie;rw[List.take_length]at e7;refine ab.run lay [] ?_;simp[e0,e1,e2,e7,e8];exact .done h
end Go.Proofs.YtalogdafegmilaaGreatDoor
namespace Go.Proofs.YtalogdafegmilaaGreatDoor
open Go.aN Go.Conc
set_option maxHeartbeats 1000000
set_option maxRecDepth 4000
def cx(g:Nat × Nat->Int)(o:Option (Nat × Nat))(p:Nat × Nat):Option (Nat × Nat):=
 match o with
 |none=>some p
 |some q=>if g p<g q then some p else some q
def dw(g:Nat × Nat->Int)(s:Nat × Nat × Int)(p:Nat × Nat):Nat × Nat × Int:=if g p<s.2.2 then(p.1,p.2,g p)else s
def nv(g:Nat × Nat->Int)(all:Int)(o:Option (Nat × Nat)):Nat × Nat × Int:=
 match o with
 |none=>(0,0,all)
 |some q=>if g q<all then(q.1,q.2,g q)else(0,0,all)
theorem Ca(g:Nat × Nat->Int)(all:Int)(o:Option (Nat × Nat))(p:Nat × Nat):dw g (nv g all o) p=nv g all (cx g o p):=by
 cases o with
 |none=>rfl
 | some q=>
   simp only[nv,cx];by_cases h1:g q<all
   . rw[if_pos h1]
     unfold dw;by_cases h2:g p<g q
     . simp only[h2,if_true];rw[if_pos (by omega)]
     . simp only[h2,if_false];rw[if_pos h1]
   . rw[if_neg h1]
     unfold dw;by_cases h2:g p<g q
     . simp only[h2,if_true]
     . simp only[h2,if_false];rw[if_neg (by omega),if_neg h1]
theorem uQ(g:Nat × Nat->Int)(all:Int):∀(l:List (Nat × Nat)) (o:Option (Nat × Nat)),l.foldl (dw g) (nv g all o)=nv g all (l.foldl (cx g) o)
 |[],o=>rfl
 |p::l,o=>by rw[List.foldl_cons,List.foldl_cons,Ca,uQ g all l]
def pY(i d:Nat):List (Nat × Nat):=(List.range d).map λk=>(i,i+1+k)
def dz(n i:Nat):List (Nat × Nat):=(List.range i).flatMap λa=>pY a (n-(a+1))
theorem xa(i d:Nat):pY i (d+1)=pY i d++[(i,i+1+d)]:=by unfold pY;rw[List.range_succ,List.map_append];rfl
theorem sX(n i:Nat):dz n (i+1)=dz n i++pY i (n-(i+1)):=by unfold dz;rw[List.range_succ,List.flatMap_append];simp
theorem uR{n i:Nat}{p:Nat × Nat}(h:p∈dz n i):p.1<p.2/\p.2<n:=by obtain⟨a,ha,hp⟩:=List.mem_flatMap.1 h;obtain⟨k,hk,rfl⟩:=List.mem_map.1 hp;have:=List.mem_range.1 hk;simp only;omega
theorem uS(g:Nat × Nat->Int):∀(l:List (Nat × Nat)) (o:Option (Nat × Nat)) (q:Nat × Nat),l.foldl (cx g) o=some q->q∈l\/o=some q
 |[],o,q,h=>.inr h
 | p :: l,o,q,h=>by
   rw[List.foldl_cons]at h;rcases uS g l _ q h with h1|h1
   . exact .inl (by simp[h1])
   . cases o with
     |none=>simp only[cx]at h1;obtain rfl:=Option.some.inj h1;simp
     | some r=>
       simp only[cx]at h1;split at h1
       . obtain rfl:=Option.some.inj h1;simp
       . exact .inr h1
def yy(L:List (List Int))(p:Nat × Nat):Int:=max ((L.filter (aC p.1 p.2)).length:Int) ((L.length:Int)-((L.filter (aC p.1 p.2)).length:Int))
section
variable{L:List (List Int)}{n:Nat}
end
theorem jD{b mb:Nat}{f:Fr}{σ σ':aa}(h:v4 b 6 mb .u8 (dm f) σ)(h1:σ' b=σ b)(h2:σ' mb=σ mb):v4 b 6 mb .u8 (dm f) σ':=by unfold v4 at h ⊢;rw[h1,h2];exact h
end Go.Proofs.YtalogdafegmilaaGreatDoor
namespace Go.Proofs.YtalogdafegmilaaGreatDoor
open Go.aN Go.Conc
set_option maxHeartbeats 2000000
set_option maxRecDepth 4000
variable{m:Mo}{σ:aa}{KF:cL->aa->Prop}
theorem jo(l:List Int):((aV l).length:Int)=am l+1:=by have:=bP l;unfold aV;rw[List.length_map,List.length_range];omega
theorem pW{l:List Int}{j:Nat}(h:(j:Int)<=am l):(aV l).take (j+1)=(aV l).take j++[l++[(j:Int)]]:=by
 have hl:j<(aV l).length:=by have:=jo l;omega
 rw[List.take_succ_eq_append_getElem hl];congr 2;simp only[aV,List.getElem_map,List.getElem_range]
theorem rT{l:List Int}{j:Nat}(h:¬(j:Int)<=am l):(aV l).take j=aV l:=by apply List.take_of_length_le;have:=jo l;omega
theorem uM{n:Nat}(hn:n<=6)(h:KF (.val (rows (aU n))) σ):aA Tryz.prog m 60 [int n] σ KF:=by
 refine aA.start lay [] [] 1 Tryz.func60 rfl rfl (by rfl) (by kernel_rfl) ?_
 simp[Tryz.f60]
 have hW:(AV.sl 1 [.lit (.slice none 0 0)] .exact).W (rows (aU 0)):=B6 rfl (by simp) (by simp[aU]) (λi a a' h1 h2=>by
  match i with
  |0=>simp[aU]at h1 h2;subst h1;subst h2;exact fT 1
  |i+1=>simp at h1)
 refine ab.yt 3 (a':=rows (aU 0)) (by simpa using hW) ?_
 refine ab.loop n (λi s=>∃env σ',s=⟨env,σ',[],.no⟩/\σ.Le σ'/\env 0=int n/\env 3=rows (aU i)/\env 4=int i) ⟨_,σ,rfl,aa.le_refl _,by simp,by simp,by simp⟩ ?_
 rintro c0 i _ hi ⟨env,σ1,rfl,hle1,e0,e3,e4⟩ ih
 rcases Nat.lt_or_ge i n with g1|g1
 . have g1':(i:Int)<n:=by omega
   have hLa:=ir i;have hLl:=gg i (by omega)
   have hLl':(aU i).length<=117649:=Nat.le_trans hLl (Nat.le_trans (Nat.pow_le_pow_right (by omega) (show i<=6 by omega)) (by decide))
   have hnl:=gg (i+1) (by omega)
   have hnl':(aU (i+1)).length<=117649:=Nat.le_trans hnl (Nat.le_trans (Nat.pow_le_pow_right (by omega) (show i+1<=6 by omega)) (by decide))
   obtain⟨L,hL⟩:∃L,L=aU i:=⟨_,rfl⟩;have hnext:aU (i+1)=L.flatMap aV:=by rw[hL];rfl
   rw[<-hL]at hLa hLl' e3;rw[hnext]at hnl';refine ab.run lay [] ?_;simp[e0,e3,e4,g1'];refine ab.loop L.length (λx s=>∃env σ',s=⟨env,σ',[],.no⟩/\env 0=int n/\env 3=rows L/\env 4=int i/\env 6=int x/\Tok σ1 σ' (env 5) 1 (((L.take x).flatMap aV).map ints)) ⟨_,σ1,rfl,by simp[e0],by simp[e3],by simp[e4],by simp,by simpa using Tok.nil σ1 1⟩ ?_
   clear e0 e3 e4
   rintro c1 x _ hx ⟨env,σ2,rfl,e0,e3,e4,e6,htok⟩ ih2
   rcases Nat.lt_or_ge x L.length with g2|g2
   . have ns:(x:Int)<L.length:=by omega
     obtain⟨l,hl⟩:∃l,l=L[x]:=⟨_,rfl⟩;obtain⟨hll,hlm,hlh⟩:=hLa l (by rw[hl];exact List.getElem_mem g2)
     have htail:(L.take (x+1)).flatMap aV=(L.take x).flatMap aV++aV l:=by rw[List.take_succ_eq_append_getElem g2,List.flatMap_append,<-hl];simp
     have hcnt:((L.take x).flatMap aV++aV l).length<=117649:=by
      rw[<-htail];refine Nat.le_trans (List.Sublist.length_le ?_) hnl'
      have e:L.flatMap aV=(L.take (x+1)).flatMap aV++(L.drop (x+1)).flatMap aV:=by rw[<-List.flatMap_append,List.take_append_drop]
      rw[e];exact List.sublist_append_left _ _
     have hcnt':((L.take x).flatMap aV).length+(aV l).length<=117649:=by rw[<-List.length_append];exact hcnt
     have f0:-9223372036854775808<=(x:Int)+1/\(x:Int)+1<=9223372036854775807:=by omega
     refine ab.run lay [] ?_;simp[e0,e3,e4,e6,g2,<-hl];refine ab.loop i (λy s=>∃env,s=⟨env,σ2,[],.no⟩/\env 0=int n/\env 3=rows L/\env 4=int i/\env 6=int x/\env 7=int (am (l.take y)-1)/\env 8=int y/\Tok σ1 σ2 (env 5) 1 (((L.take x).flatMap aV).map ints)) ⟨_,rfl,by simp[e0],by simp[e3],by simp[e4],by simp[e6],by simp[am],by simp,by simpa using htok⟩ ?_
     clear e0 e3 e4 e6 htok
     rintro c2 y _ hy ⟨env,rfl,e0,e3,e4,e6,e7,e8,htok⟩ ih3
     rcases Nat.lt_or_ge y i with g3|g3
     . have tE:(y:Int)<i:=by omega
       have hyl:y<l.length:=by omega
       have hym:=hlm _ (List.getElem_mem hyl);have f1:-9223372036854775808<=(y:Int)+1/\(y:Int)+1<=9223372036854775807:=by omega
       refine ab.run lay [] ?_;simp[e0,e3,e4,e6,e7,e8,g2,<-hl,hyl,tE,f1.1,f1.2];refine ih3 _ g3 ⟨_,rfl,by simp[e0,e3,e4,e6,e7,e8],by simp[e0,e3,e4,e6,e7,e8],by simp[e0,e3,e4,e6,e7,e8],by simp[e0,e3,e4,e6,e7,e8],?_,by simp,by simpa using htok⟩
       rw[gQ _ _ hyl];simp[e0,e3,e4,e6,e7,e8];split<;>omega
     . have hyi:y=l.length:=by omega
       rw[hyi,List.take_length]at e7;have hnn:=bP l;refine ab.run lay [] ?_;simp[e0,e3,e4,e6,e7,e8,Nat.not_lt.2 g3];refine ab.loop (aV l).length (λj s=>∃env σ',s=⟨env,σ',[],.no⟩/\env 0=int n/\env 3=rows L/\env 4=int i/\env 6=int x/\env 7=int (am l-1)/\env 9=int j/\Tok σ1 σ' (env 5) 1 (((L.take x).flatMap aV++(aV l).take j).map ints)) ⟨_,σ2,rfl,by simp[e0],by simp[e3],by simp[e4],by simp[e6],by simp[e7],by simp,by simpa using htok⟩ ?_
       clear e0 e3 e4 e6 e7 e8 htok
       rintro c2 j _ hj ⟨env,σ3,rfl,e0,e3,e4,e6,e7,e9,htok⟩ ih4
       have htc:=htok.cells;have hG:=jo l;have f5:-9223372036854775808<=(j:Int)+1/\(j:Int)+1<=9223372036854775807:=by omega
       have f6:-9223372036854775808<=am l/\am l<=9223372036854775807:=by omega
       refine ab.run lay [] ?_;simp[e0,e3,e4,e6,e7,e9,f6.1,f6.2];refine aK.intro (λq=>?_) (λq=>?_)<;>simp[-Int.not_lt,-Int.not_le,-Nat.not_lt,-Nat.not_le]at q
       . have q':(j:Int)<=am l:=by omega
         have hj':j<(aV l).length:=by omega
         have hlm:l.length+1<=1000:=by omega
         simp[e0,e3,e4,e6,e7,e9,g2,<-hl];refine aq Tryz.func75 rfl rfl (nP (by omega) λa4 σ4 ht4=>?_)
         refine ab.run lay [] ?_;simp[e9];refine gf lay rfl rfl rfl cA rfl cA rfl pQ (by decide) (by simp;omega) (σ0:=σ3) (es:=l.map int) (xs:=[int j]) (by simpa using ht4) (.inl (.inr ⟨_,rfl⟩)) (by simp) λa5 σ5 ht5=>?_
         refine ab.B7 (σ0:=σ3) (es:=l.map int++[int j]) 50 (by simpa using ht5) ?_
         refine ab.run lay [] ?_;simp;have LH:=pW q';have hjl:((aV l).take j).length<=(aV l).length:=by rw[List.length_take];exact Nat.min_le_right _ _
         refine aM lay rfl rfl rfl jC rfl jC rfl cA (by decide) (by simp only[List.length_map,List.length_append,List.length_singleton];omega) (σ0:=σ1) (es:=((L.take x).flatMap aV++(aV l).take j).map ints) (xs:=[ints (l++[(j:Int)])]) (by simpa using htok) (.inr ⟨_,by simp;rfl⟩) λa6 σ6 ht6=>?_
         refine ab.run lay [] ?_;simp[e9,f5.1,f5.2];refine ih4 _ hj' ⟨_,_,rfl,by simp[e0],by simp[e3],by simp[e4],by simp[e6],by simp[e7],by simp,?_⟩
         rw[LH];simpa[List.map_append]using ht6
       . rw[rT (by omega)]at htok
         simp[e0,e3,e4,e6,e7,e9,f0.1,f0.2];refine ih2 _ g2 ⟨_,_,rfl,by simp[e0],by simp[e3],by simp[e4],by simp,?_⟩
         rw[htail];simpa using htok
   . have hxe:x=L.length:=by omega
     subst hxe;rw[List.take_length]at htok;refine ab.yt 5 (a':=rows (aU (i+1))) (by rw[hnext];simpa using htok.W) ?_
     have f0:-9223372036854775808<=(i:Int)+1/\(i:Int)+1<=9223372036854775807:=by omega
     refine ab.run lay [] ?_;simp[e0,e3,e4,e6,f0.1,f0.2];exact ih _ g1 ⟨_,_,rfl,aa.le_trans hle1 htok.1,by simp[e0,e3,e4,e6],by simp,by simp⟩
 . have hie:i=n:=by omega
   subst hie;refine ab.run lay [] ?_;simp[e0,e3,e4];exact .less hle1 (.done h)
end Go.Proofs.YtalogdafegmilaaGreatDoor
namespace Go.Proofs.YtalogdafegmilaaGreatDoor
open Go.aN Go.Conc
set_option maxHeartbeats 2000000
set_option maxRecDepth 4000
variable{m:Mo}{σ:aa}{KF:cL->aa->Prop}
def yv(f:Fr)(l:List Int)(k:Nat):Bool:=decide (am l<=f.most) && (List.range k).all λj:Nat=>decide (ii f (au l j)=0)
theorem uN{f:Fr}{l:List Int}{k:Nat}(h:yv f l k=true):yv f l (k+1)=decide (ii f (au l k)=0):=by unfold yv at h ⊢;rw[List.range_succ,List.all_append,<-Bool.and_assoc,h];simp
theorem rU{f:Fr}{l:List Int}{k:Nat}(hk:(k:Int)<=am l)(h:yv f l k=false):de f l=false:=by
 cases e:de f l with
 |false=>rfl
 | true=>
   unfold de at e;rw[Bool.and_eq_true,List.all_eq_true]at e
   have:yv f l k=true:=by unfold yv;rw[Bool.and_eq_true,List.all_eq_true];exact⟨e.1,λj hj=>e.2 j (by have:=List.mem_range.1 hj;exact List.mem_range.2 (by omega))⟩
   rw[this]at h;cases h
theorem mq{f:Fr}{l:List Int}{k:Int}(h6:f.az.length<=6)(hl:l.length=f.az.length)(hne:au l k≠[]):Dk f (au l k):=by
 have h1:=bg l k;have hp:(au l k).Pairwise (·<·):=(io k l 0).1
 have h0:1<=(au l k).length:=by
  cases e:au l k with
  |nil=>exact absurd e hne
  |cons a r=>simp
 refine qM (n:=(au l k).length) ⟨rfl,λx hx=>?_,λa b hab hb=>?_⟩ ⟨h0,by omega⟩
 . have:=cr hx
   omega
 . have:=List.pairwise_iff_getElem.1 hp a b (by omega) hb hab
   simpa[List.getD_eq_getElem?_getD,hb,show a<(au l k).length by omega]using this
theorem uO{f:Fr}(hf:f.Fits)(hc:check f=0)(h:KF (.val (.c9 [rows (ak f []),bool true])) σ):aA Tryz.prog m 22 [aF f] σ KF:=by
 have hg:=Fr.jw hf hc;have h6:=hg.pi;have hlen:=fa hg [];rw[<-pX hg]at h hlen;refine aA.start lay [] LE 1 Tryz.func22 rfl rfl (by rfl) (by kernel_rfl) ?_
 simp[Tryz.f22];refine aq Tryz.func60 rfl rfl (uM h6 ?_);have hLa:=ir f.az.length;have hLn:=nT f.az.length;have hLl:=gg f.az.length h6;have hLl':(aU f.az.length).length<=117649:=Nat.le_trans hLl (Nat.le_trans (Nat.pow_le_pow_right (by omega) (show f.az.length<=6 by omega)) (by decide))
 obtain⟨L,hL⟩:∃L,L=aU f.az.length:=⟨_,rfl⟩;rw[<-hL]at hLa hLn hLl' h hlen ⊢;refine ab.run lay [] ?_;simp;refine ab.loop L.length (λi s=>∃env σ',s=⟨env,σ',[],.no⟩/\env 1=.cp (aF f) 0/\env 5=rows L/\env 6=int i/\Tok σ σ' (env 4) 1 (((L.take i).filter (de f)).map ints)) ⟨_,σ,rfl,by simp,by simp,by simp,by simpa using Tok.nil σ 1⟩ ?_
 rintro c0 i _ hi ⟨env,σ1,rfl,e1,e5,e6,htok⟩ ih
 rcases Nat.lt_or_ge i L.length with g2|g2
 . have ns : (i : Int)<L.length:=by omega
   obtain⟨l,hl⟩:∃l,l=L[i]:=⟨_,rfl⟩;obtain⟨hll,hlm,hlh⟩:=hLa l (by rw[hl];exact List.getElem_mem g2)
   have hne:=hLn l (by rw[hl];exact List.getElem_mem g2)
   have hnn:=bP l
   have htail:(L.take (i+1)).filter (de f)=(L.take i).filter (de f)++if de f l=true then[l]else[]:=by
    rw[List.take_succ_eq_append_getElem g2,List.filter_append,<-hl]
    by_cases e:de f l=true<;>simp[e]
   have hcnt:((L.take i).filter (de f)).length<=117649:=by refine Nat.le_trans (List.length_filter_le _ _) ?_;rw[List.length_take];omega
   have f0:-9223372036854775808<=(i:Int)+1/\(i:Int)+1<=9223372036854775807:=by omega
   refine ab.run lay [] ?_;simp[e1,e5,e6,g2,<-hl];refine aq Tryz.func23 rfl rfl (qO (by omega) (λx hx=>by have:=hlm x hx;omega) ?_)
   refine ab.run lay [] ?_;simp[e1,e5,e6];refine ab.loop (am l).toNat (λk s=>∃env,s=⟨env,σ1,[],.no⟩/\env 1=.cp (aF f) 0/\env 5=rows L/\env 6=int i/\env 7=int (am l)/\env 8=bool (yv f l k)/\env 9=int k/\Tok σ σ1 (env 4) 1 (((L.take i).filter (de f)).map ints)) ⟨_,rfl,by simp[e1],by simp[e5],by simp[e6],by simp,by simp[yv],by simp,by simpa using htok⟩ ?_
   clear e1 e5 e6 htok
   rintro c1 k _ hk ⟨env,rfl,e1,e5,e6,e7,e8,e9,htok⟩ ih2
   have htc:=htok.cells;have hkn:(k:Int)<=am l:=by omega
   cases hok:yv f l k with
   | false=>
     have hfit:=rU hkn hok;rw[hok]at e8;rw[hfit]at htail
     by_cases g3:(k:Int)<am l
     . refine ab.run lay [] ?_
       simp[e1,e5,e6,e7,e8,e9,g3];refine⟨f0,ih _ g2 ⟨_,_,rfl,by simp[e1],by simp[e5],by simp,?_⟩⟩
       rw[htail];simpa using htok
     . refine ab.run lay [] ?_
       simp[e1,e5,e6,e7,e8,e9,g3];refine⟨f0,ih _ g2 ⟨_,_,rfl,by simp[e1],by simp[e5],by simp,?_⟩⟩
       rw[htail];simpa using htok
   | true=>
     rw[hok]at e8
     by_cases g3:(k:Int)<am l
     . have hlst := mq h6 hll (hne k g3)
       have hl20:=bg l k;have hks:=uN hok;have f1:-9223372036854775808<=(k:Int)+1/\(k:Int)+1<=9223372036854775807:=by omega
       refine ab.run lay [] ?_;simp[e1,e5,e6,e7,e8,e9,g3,g2,<-hl]
       repeat' (first
                 |apply And.intro
                 | (refine aq Tryz.func36 rfl rfl (qP (by omega) ?_)
                    refine bm.go lay [] ?_;simp[e1,e5,e6,e7,e8,e9,g2,<-hl])
                 | (refine aq Tryz.func28 rfl rfl (yw hf hc hlst (by omega) ?_)
                    refine bm.go lay [] ?_;simp[e1,e5,e6,e7,e8,e9,g2,<-hl]))
       all_goals (
        refine ab.run lay [] ?_;simp[e9,f1.1,f1.2];refine ih2 _ (by omega) ⟨_,rfl,by simp[e1],by simp[e5],by simp[e6],by simp[e7],by simp[hks],by simp,by simpa using htok⟩)
     . have hke:k=(am l).toNat:=by omega
       have hfit:de f l=true:=by rw[hke]at hok;exact hok
       rw[hfit]at htail;refine ab.run lay [] ?_;simp[e1,e5,e6,e7,e8,e9,g3,g2,<-hl];refine aM lay rfl rfl rfl jC rfl jC rfl cA (by decide) (by simp only[List.length_map,List.length_append,List.length_singleton];omega) (σ0:=σ) (es:=((L.take i).filter (de f)).map ints) (xs:=[ints l]) (by simpa using htok) (.inr ⟨_,by simp;rfl⟩) λa6 σ6 ht6=>?_
       refine ab.run lay [] ?_;simp[e1,e5,e6,e7,e8,e9,f0.1,f0.2];refine ih _ g2 ⟨_,_,rfl,by simp[e1],by simp[e5],by simp,?_⟩
       rw[htail];simpa[List.map_append]using ht6
 . have hie:i=L.length:=by omega
   subst hie;rw[List.take_length]at htok;refine ab.run lay [] ?_;simp[e1,e5,e6];refine .less htok.1 (.nC (a':=.c9 [rows (L.filter (de f)),bool true]) (yx rfl λi a a' h1 h2=>?_) (.done h))
   match i with
   |0=>simp at h1 h2;subst h1;subst h2;exact htok.W
   |1=>simp at h1 h2;subst h1;subst h2;exact .refl _
   |i+2=>simp at h1
end Go.Proofs.YtalogdafegmilaaGreatDoor
namespace Go.Proofs.YtalogdafegmilaaGreatDoor
open Go.aN Go.Conc
set_option maxHeartbeats 2000000
set_option maxRecDepth 4000
variable{m:Mo}{σ:aa}{KF:cL->aa->Prop}
theorem rV{f:Fr}(hg:f.Good):fK f=((ak f []).length:Int):=by
 by_cases h2:2<=f.az.length
 . exact pU hg h2
 have e:fK f=1:=by unfold fK;rw[if_pos (by omega)]
 rw[e];have hm:=hg.most;have e1:(min ((0:Int)+1) f.most).toNat=1:=by omega
 have hc:gO f (bq 0 0)=true:=by
  have:bU (bq 0 0)=[0]:=by decide +kernel
  unfold gO;rw[this,decide_eq_true_eq];exact B8 hg 0
 rcases(show f.az.length=0\/f.az.length=1 by omega)with hn|hn
 . unfold ak;rw[hn];simp[cV]
 . unfold ak;rw[hn]
   unfold cV;rw[e1];simp only[List.range_succ,List.range_zero,List.nil_append,List.flatMap_cons,List.flatMap_nil,List.append_nil];simp[hc,cV]
namespace MA
end MA
end Go.Proofs.YtalogdafegmilaaGreatDoor
namespace Go.Proofs.YtalogdafegmilaaGreatDoor
open Go.aN Go.Conc
set_option maxHeartbeats 2000000
set_option maxRecDepth 4000
variable{m:Mo}{σ:aa}{KF:cL->aa->Prop}
def kf(g:Nat × Nat->Int):Option (Nat × Nat)->List AV
 |none=>[int 0,int 0,int 0,bool false]
 |some p=>[int p.1,int p.2,int (g p),bool true]
theorem GD{g:Nat × Nat->Int}{c:Nat}{o:Option (Nat × Nat)}{p:Nat × Nat}{n x y:Int}(hx:x=p.1)(hy:y=p.2)(hn:n=g p)(hc:σ c=some (.cells (kf g o)))(h:∀σ',σ' c=some (.cells (kf g (cx g o p)))->(∀x,x≠c->σ' x=σ x)->KF (.val (.c9 [])) σ'):aA Tryz.prog m 69 [.ref c 0,.agg [int x,int y],int n] σ KF:=by
 subst hn;subst hx;subst hy;cases o with
 | none=>
   simp only[kf]at hc;refine aA.start lay [] [] 3 Tryz.func69 rfl rfl (by rfl) (by kernel_rfl) ?_;simp[Tryz.f69,hc,aS];refine .done (h _ (aa.ao _ _ _) λx hx=>?_);simp[aa.ai,hx]
 | some v=>
   simp only[kf]at hc;refine aA.start lay [] [] 3 Tryz.func69 rfl rfl (by rfl) (by kernel_rfl) ?_;simp[Tryz.f69,hc,aS];by_cases q:g p<g v
   . simp[aK,q,hc,aS]
     simp only[cx,if_pos q]at h;refine .done (h _ (aa.ao _ _ _) λx hx=>?_);simp[aa.ai,hx]
   . simp[aK,q,hc,aS]
     simp only[cx,if_neg q]at h;exact .done (h _ hc λx _=>rfl)
theorem GE{w:List Int}{x y:Int}(hx:0<=x/\x.toNat<w.length)(hy:0<=y/\y.toNat<w.length)(h:KF (.val (bool (aC x y w))) σ):aA Tryz.prog m 68 [ints w,.cp (int x) 0,.cp (int y) 0] σ KF:=by
 have e1:w.getD x.toNat 0=w[x.toNat]:=by simp[List.getD_eq_getElem?_getD,hx.2]
 have e2:w.getD y.toNat 0=w[y.toNat]:=by simp[List.getD_eq_getElem?_getD,hy.2]
 unfold aC at h;rw[e1,e2]at h;refine aA.start lay [] Pk 3 Tryz.func68 rfl rfl (by rfl) (by kernel_rfl) ?_;simp[Tryz.f68,hx.1,hx.2,hy.1,hy.2];refine ab.run lay [] ?_;simp;refine .done ?_;by_cases q:w[x.toNat]=w[y.toNat]
 . simpa[q]using h
 . have:(w[x.toNat]==w[y.toNat])=false:=by simp[q]
   simpa[q,this]using h
def qQ(g:Nat × Nat->Int)(all:Int):Option (Nat × Nat)->List AV
 |none=>[int 0,int 0,int 0,int 11]
 |some q=>if g q<all then[int q.1,int q.2,int (g q),int 0]else[int 0,int 0,int 0,int 11]
theorem JO(hs:m.solo=true){f:Fr}(hf:f.Fits)(hc:check f=0)(hway:ak f []≠[])(h:KF (.val (.c9 (qQ (yy (ak f [])) (ak f []).length ((dz f.az.length f.az.length).foldl (cx (yy (ak f []))) none)))) σ):aA Tryz.prog m 30 [aF f] σ KF:=by
 have hg:=Fr.jw hf hc;have h6:=hg.pi;have hlen:=fa hg [];have hb1:=fa hg [0,0];have hb2:=fa hg [0,1];have hwl:∀w∈ak f [],w.length=f.az.length:=λw hw=>by have:=dA f [] _ _ _ _ w hw;simpa using this
 refine aA.start lay [] Pj 1 Tryz.func30 rfl rfl (by rfl) (by kernel_rfl) ?_
 simp[Tryz.f30];have hW:Wl [aF f,AV.lit (.slice none 0 0)] [aF f,.sl 1 (([]:List Int).map int) .any]:=.cons (.refl _) (.cons (fT 1) .nil);refine bs Tryz.func56 rfl rfl hW (im (l:=[]) (sp:=.any) hs hf hc (by simp) (by simp) hway λb mb σ0 hne hu hfr hle0=>?_)
 refine ab.run lay [] ?_;simp;refine cT.intro λc8 h8=>?_
 simp;have nb8:c8≠b:=λe=>by subst e;obtain⟨q,_⟩:=hu;rw[q]at h8;cases h8
 have nm8:c8≠mb:=λe=>by subst e;obtain⟨_,_,q,_⟩:=hu;rw[q]at h8;cases h8
 have h80:σ c8=none:=by
  cases e:σ c8 with
  |none=>rfl
  |some x=>rw[hle0 _ _ e]at h8;cases h8
 refine aq Tryz.func48 rfl rfl (Aa hs hg ⟨by omega,by omega⟩ hne (jD hu (aa.ai _ _ (Ne.symm nb8)) (aa.ai _ _ (Ne.symm nm8))) λσ1 hu1 q1=>?_)
 rw[rV hg];refine ab.run lay [] ?_;simp
 have hle1:σ.Le σ1:=λy x hy=>by
  have y8:y≠c8:=λe=>by subst e;rw[h80]at hy;cases hy
  have yb:y≠b:=λe=>by subst e;rw[hfr.1]at hy;cases hy
  have ym:y≠mb:=λe=>by subst e;rw[hfr.2]at hy;cases hy
  exact q1 y x ((aa.ai _ _ y8).trans (hle0 y x hy)) yb (.inl ym)
 have t8:σ1 c8=some (.cells [int 0,int 0,int 0,bool false]):=q1 c8 _ (aa.ao _ _ _) nb8 (.inl nm8);obtain⟨g,hgd⟩:∃g,g=yy (ak f []):=⟨_,rfl⟩;obtain⟨n,hn⟩:∃n,n=f.az.length:=⟨_,rfl⟩;obtain⟨L,hL⟩:∃L,L=ak f []:=⟨_,rfl⟩;rw[<-hgd,<-hn,<-hL]at h;rw[<-hL]at hlen hgd ⊢
 refine ab.loop n (λa s=>∃env σ',s=⟨env,σ',[],.no⟩/\env 1=.cp (aF f) 0/\env 6=iF b mb f 0/\env 8=.ref c8 0/\env 9=int L.length/\env 26=int n/\env 27=int a/\v4 b 6 mb .u8 (dm f) σ'/\σ.Le σ'/\σ' c8=some (.cells (kf g ((dz n a).foldl (cx g) none)))) ⟨_,σ1,rfl,by simp,by simp,by simp,by simp,by simp[hn],by simp,hu1,hle1,t8⟩ ?_
 clear hu hle0 h8 hu1 q1 hle1 t8
 rintro k0 a _ ha ⟨env,σ',rfl,e1,e6,e8,e9,e26,e27,hu,hle,t8⟩ iha
 rcases Nat.lt_or_ge a n with g1|g1
 . have g1':(a:Int)<n:=by omega
   have f1:-9223372036854775808<=(a:Int)+1/\(a:Int)+1<=9223372036854775807:=by omega
   refine ab.run lay [] ?_;simp[e1,e6,e8,e9,e26,e27,g1'];refine cT.intro λc10 h10=>?_
   simp[e1,e6,e8,e9,e26,e27,f1.1,f1.2];refine cT.intro λc11 h11=>?_
   obtain⟨z1,z2,h11⟩:=aa.aO h11;simp[e1,e6,e8,e9,e26,e27,z1,z2,aa.ai];have nb10:c10≠b:=λe=>by subst e;obtain⟨q,_⟩:=hu;rw[q]at h10;cases h10
   have nm10:c10≠mb:=λe=>by subst e;obtain⟨_,_,q,_⟩:=hu;rw[q]at h10;cases h10
   have n810:c10≠c8:=λe=>by subst e;rw[t8]at h10;cases h10
   have nb11:c11≠b:=λe=>by subst e;obtain⟨q,_⟩:=hu;rw[q]at h11;cases h11
   have nm11:c11≠mb:=λe=>by subst e;obtain⟨_,_,q,_⟩:=hu;rw[q]at h11;cases h11
   have n811:c11≠c8:=λe=>by subst e;rw[t8]at h11;cases h11
   have none_of:∀y,σ' y=none->σ y=none:=λy hy=>by
    cases e:σ y with
    |none=>rfl
    |some x=>rw[hle _ _ e]at hy;cases hy
   refine ab.cZ 10 (b:=c10) (int a) (by simp[aa.ai,z1,z2]) (by simp) rfl ?_
   obtain⟨σa,hσa⟩:∃σa,σa=(((σ'.set c10 (.cells [int a])).set c11 (.cells [int ((a:Int)+1)])).del c10):=⟨_,rfl⟩;have ka:∀y,y≠c10->y≠c11->σa y=σ' y:=λy y1 y2=>by rw[hσa];simp only[aa.del,y1,if_false,aa.ai _ _ y2,aa.ai _ _ y1]
   have ka11:σa c11=some (.cells [int ((a:Int)+1)]):=by rw[hσa];simp only[aa.del,z1,if_false,aa.ao]
   have hua:=jD (σ':=σa) hu (ka b (Ne.symm nb10) (Ne.symm nb11)) (ka mb (Ne.symm nm10) (Ne.symm nm11))
   have hlea:σ.Le σa:=λy x hy=>by
    rw[ka y (λe=>by subst e;rw[none_of _ h10]at hy;cases hy) (λe=>by subst e;rw[none_of _ h11]at hy;cases hy)]
    exact hle y x hy
   have ta8:σa c8=some (.cells (kf g ((dz n a).foldl (cx g) none))):=by rw[ka c8 (Ne.symm n810) (Ne.symm n811)];exact t8
   have hn11:=none_of _ h11;rw[<-hσa]
   refine ab.loop (n-(a+1)) (λd s=>∃env σ'' c11,s=⟨env,σ'',[],.no⟩/\env 1=.cp (aF f) 0/\env 6=iF b mb f 0/\env 8=.ref c8 0/\env 9=int L.length/\env 26=int n/\env 27=int a/\env 10=.cp (int a) 0/\env 11=.ref c11 0/\v4 b 6 mb .u8 (dm f) σ''/\σ.Le σ''/\σ'' c8=some (.cells (kf g ((dz n a++pY a d).foldl (cx g) none)))/\σ'' c11=some (.cells [int ((a:Int)+1+d)])/\c11≠c8/\σ c11=none) ⟨_,σa,c11,rfl,by simp[e1],by simp[e6],by simp[e8],by simp[e9],by simp[e26],by simp[e27],by simp,by simp,hua,hlea,by simpa[pY]using ta8,by simpa using ka11,n811,hn11⟩ ?_
   clear e1 e6 e8 e9 e26 e27 hua hlea ta8 ka11 hn11 ka hσa n811 nb11 nm11 nb10 nm10 n810 none_of hu hle t8 h10 h11 z1 z2
   rintro k1 d _ hd ⟨env,σ'',c11,rfl,e1,e6,e8,e9,e26,e27,aJ,aI,hu,hle,t8,t11,n811,hn11⟩ ihd
   have nb11:c11≠b:=λe=>by subst e;obtain⟨q,_⟩:=hu;rw[q]at t11;cases t11
   have nm11:c11≠mb:=λe=>by subst e;obtain⟨_,_,q,_⟩:=hu;rw[q]at t11;cases t11
   have nb8':c8≠b:=nb8;refine ab.cZ 11 (b:=c11) (int ((a:Int)+1+d)) t11 aI rfl ?_;have kd:∀y,y≠c11->(σ''.del c11) y=σ'' y:=λy y1=>by simp only[aa.del,y1,if_false]
   have hud:=jD (σ':=σ''.del c11) hu (kd b (Ne.symm nb11)) (kd mb (Ne.symm nm11))
   have hled:σ.Le (σ''.del c11):=λy x hy=>by
    rw[kd y (λe=>by subst e;rw[hn11]at hy;cases hy)]
    exact hle y x hy
   have td8:=(kd c8 (Ne.symm n811)).trans t8;clear hu hle t8 t11 kd;generalize σ''.del c11=σb at *
   rcases Nat.lt_or_ge d (n-(a+1))with g2|g2
   . have ns:(a:Int)+1+d<f.az.length:=by omega
     have f2:-9223372036854775808<=(a:Int)+1+d+1/\(a:Int)+1+d+1<=9223372036854775807:=by omega
     refine ab.run lay [] ?_;simp[e1,e6,e8,e9,e26,e27,aJ,ns];refine aq Tryz.func66 rfl rfl (mM (fQ nk np tB hs hne) hg (p:=aC a ((a+1+d:Nat):Int)) ⟨rfl,rfl⟩ (λw hwm σ KF hK=>dJ Tryz.func68 rfl rfl rfl (GE (x:=a) (y:=(a:Int)+1+d) ⟨by omega,by rw[hwl w hwm];omega⟩ ⟨by omega,by rw[hwl w hwm];omega⟩ (by simpa using hK))) (by rw[<-hL];omega) hud λσ2 hu2 q2=>?_)
     rw[<-hL];obtain⟨z,hz⟩:∃z,z=(L.filter (aC a ((a+1+d:Nat):Int))).length:=⟨_,rfl⟩;have hzl:z<=L.length:=by rw[hz];exact List.length_filter_le _ _
     have hgp:g (a,a+1+d)=max (z:Int) ((L.length:Int)-z):=by rw[hgd,hz];rfl
     rw[<-hz];have t28:=q2 c8 _ td8 nb8 (.inl nm8)
     have hle2:σ.Le σ2:=λy x hy=>by
      have yb:y≠b:=λe=>by subst e;rw[hfr.1]at hy;cases hy
      have ym:y≠mb:=λe=>by subst e;rw[hfr.2]at hy;cases hy
      exact q2 y x (hled y x hy) yb (.inl ym)
     have f3:-9223372036854775808<=(L.length:Int)-z/\(L.length:Int)-z<=9223372036854775807:=by omega
     refine ab.run lay [] ?_;simp[e1,e6,e8,e9,e26,e27,aJ,f3.1,f3.2];refine aq Tryz.func69 rfl rfl (GD (g:=g) (p:=(a,a+1+d)) (o:=(dz n a++pY a d).foldl (cx g) none) rfl (by simp) (by rw[hgp];split<;>omega) t28 λσ3 t38 k3=>?_)
     have hsucc:(dz n a++pY a (d+1)).foldl (cx g) none=cx g ((dz n a++pY a d).foldl (cx g) none) (a,a+1+d):=by rw[xa,<-List.append_assoc,List.foldl_append];rfl
     rw[<-hsucc]at t38;have hu3:=jD (σ':=σ3) hu2 (k3 b (Ne.symm nb8)) (k3 mb (Ne.symm nm8))
     have hle3:σ.Le σ3:=λy x hy=>by rw[k3 y (λe=>by subst e;rw[h80]at hy;cases hy)];exact hle2 y x hy
     refine ab.run lay [] ?_;simp[e1,e6,e8,e9,e26,e27,aJ];refine cT.intro λc11' h11'=>?_
     have nb11':c11'≠b:=λe=>by subst e;obtain⟨q,_⟩:=hu3;rw[q]at h11';cases h11'
     have nm11':c11'≠mb:=λe=>by subst e;obtain⟨_,_,q,_⟩:=hu3;rw[q]at h11';cases h11'
     have n811':c11'≠c8:=λe=>by subst e;rw[t38]at h11';cases h11'
     have hn11':σ c11'=none:=by
      cases e:σ c11' with
      |none=>rfl
      |some x=>rw[hle3 _ _ e]at h11';cases h11'
     simp[e1,e6,e8,e9,e26,e27,aJ,f2.1,f2.2];refine ihd _ g2 ⟨_,_,c11',rfl,by simp[e1,e6,e8,e9,e26,e27,aJ],by simp[e1,e6,e8,e9,e26,e27,aJ],by simp[e1,e6,e8,e9,e26,e27,aJ],by simp[e1,e6,e8,e9,e26,e27,aJ],by simp[e1,e6,e8,e9,e26,e27,aJ],by simp[e1,e6,e8,e9,e26,e27,aJ],by simp[e1,e6,e8,e9,e26,e27,aJ],by simp,jD hu3 (aa.ai _ _ (Ne.symm nb11')) (aa.ai _ _ (Ne.symm nm11')),λy x hy=>?_,(aa.ai _ _ (Ne.symm n811')).trans t38,by rw[aa.ao];simp;omega,n811',hn11'⟩
     rw[aa.ai _ _ (λe=>by subst e;rw[hn11']at hy;cases hy)]
     exact hle3 y x hy
   . have hde:d=n-(a+1):=by omega
     have ns:¬(a:Int)+1+d<f.az.length:=by omega
     rw[hde,<-sX]at td8;refine ab.run lay [] ?_;simp[e1,e6,e8,e9,e26,e27,aJ,ns,f1.1,f1.2];exact iha _ g1 ⟨_,_,rfl,by simp[e1,e6,e8,e9,e26,e27,aJ],by simp[e1,e6,e8,e9,e26,e27,aJ],by simp[e1,e6,e8,e9,e26,e27,aJ],by simp[e1,e6,e8,e9,e26,e27,aJ],by simp[e1,e6,e8,e9,e26,e27,aJ],by simp,hud,hled,td8⟩
 . have hae:a=n:=by omega
   subst hae;have g1':¬(a:Int)<a:=by omega
   have hq:∀q,(dz a a).foldl (cx g) none=some q->q.1<q.2/\q.2<a:=λq h=>by
    rcases uS g _ _ _ h with h|h
    . exact uR h
    . cases h
   cases ho:(dz a a).foldl (cx g) none with
   |none=>rw[ho]at h t8;simp only[kf]at t8;refine ab.run lay [] ?_;simp[e1,e6,e8,e9,e26,e27,g1',t8];exact .less hle (.done h)
   | some q=>
     rw[ho]at h t8;simp only[kf]at t8
     by_cases q2:g q<L.length
     . have q3:¬(g q>=L.length):=by omega
       simp only[qQ,if_pos q2]at h;refine ab.run lay [] ?_;simp[e1,e6,e8,e9,e26,e27,g1',t8,q3];refine ab.run lay [] ?_;simp[e1,e6,e8,e9,e26,e27];exact .less hle (.done h)
     . have q3:g q>=L.length:=by omega
       simp only[qQ,if_neg q2]at h;refine ab.run lay [] ?_;simp[e1,e6,e8,e9,e26,e27,g1',t8,q3];exact .less hle (.done h)
end Go.Proofs.YtalogdafegmilaaGreatDoor
namespace Go.Proofs.YtalogdafegmilaaGreatDoor
open Go.aN Go.Conc
set_option maxHeartbeats 2000000
set_option maxRecDepth 4000
variable{m:Mo}{σ:aa}{KF:cL->aa->Prop}
theorem Ey{g:Nat × Nat->Int}{all:Int}{o:Option (Nat × Nat)}(hq:∀q,o=some q->q.1<q.2):∃rx ry rl re:Int,qQ g all o=[int rx,int ry,int rl,int re]/\(((nv g all o).2.1=0/\rx=0/\ry=0/\rl=0/\re=11)\/((nv g all o).2.1≠0/\rx=((nv g all o).1:Int)/\ry=((nv g all o).2.1:Int)/\rl=(nv g all o).2.2/\re=0)):=by
 cases o with
 |none=>exact⟨0,0,0,11,rfl,.inl ⟨rfl,rfl,rfl,rfl,rfl⟩⟩
 | some q=>
   have:=hq q rfl;simp only[qQ,nv];by_cases q1:g q<all
   . rw[if_pos q1,if_pos q1]
     exact⟨_,_,_,_,rfl,.inr ⟨by show q.2≠0;omega,rfl,rfl,rfl,rfl⟩⟩
   . rw[if_neg q1,if_neg q1]
     exact⟨0,0,0,11,rfl,.inl ⟨rfl,rfl,rfl,rfl,rfl⟩⟩
theorem Ab(hs:m.solo=true){nums:List Int}(hn:nums.length<1152921504606846976)(h:KF (.val (bool true)) σ):gq Tryz.prog lay m 8 [ints nums] σ KF:=by
 refine gq.start lay [] [] 1 Tryz.func8 rfl rfl (by rfl) (by kernel_rfl) ?_
 simp[Tryz.f8];refine aq Tryz.func13 rfl rfl (kv λc σ1 hc hb hsame=>?_)
 refine ab.run lay [] ?_;simp;refine aq Tryz.func25 rfl rfl (lX (by omega) hn ⟨by omega,by omega⟩ hb λf ks σ2 hf hd=>?_)
 refine ab.run lay [] ?_;simp;refine cT.intro λd hd3=>?_
 simp;have hle:σ.Le ((σ2.set d (.cells (eP f))).del d):=qv hc hsame hd.2 hd3;have hg:=hf.jw;have hfit:=hg.fits;have hchk:=hg.Ng;have h6:=hg.pi;have hway:=hf.ways;have hlen:=fa hg [];have hL0:0<(ak f []).length:=List.length_pos_iff.2 hway;have hwl:∀w∈ak f [],w.length=f.az.length:=λw hw=>by have:=dA f [] _ _ _ _ w hw;simpa using this
 refine aq Tryz.func30 rfl rfl (JO hs hfit hchk hway ?_);obtain⟨L,hL⟩:∃L,L=ak f []:=⟨_,rfl⟩;obtain⟨n,hnn⟩:∃n,n=f.az.length:=⟨_,rfl⟩;obtain⟨g,hgd⟩:∃g,g=yy L:=⟨_,rfl⟩;rw[<-hL,<-hnn,<-hgd]
 have hpm:∀q,(dz n n).foldl (cx g) none=some q->q.1<q.2:=λq h=>by
  rcases uS g _ _ _ h with h|h
  . exact(uR h).1
  . cases h
 have hfold:=uQ g L.length (dz n n) none;obtain⟨rx,ry,rl,re,hans,hrel⟩:=Ey (g:=g) (all:=L.length) hpm;rw[hans];rw[<-hfold]at hrel;rw[show nv g L.length none=((0,0,(L.length:Int)):Nat × Nat × Int)from rfl]at hrel
 refine ab.cZ 3 (b:=d) (aF f) (by simp) (by simp) rfl ?_
 refine ab.weaken (σ:=σ) ?_ hle;refine ab.run lay [] ?_;simp;refine aq Tryz.func22 rfl rfl (uO hfit hchk ?_);rw[<-hL];rw[<-hL]at hlen hL0 hwl;refine ab.run lay [] ?_;simp
 refine ab.loop n (λa s=>∃env,s=⟨env,σ,[],.no⟩/\env 3=.cp (aF f) 0/\env 5=int rx/\env 6=int ry/\env 7=int rl/\env 8=int re/\env 9=rows L/\env 11=int (((dz n a).foldl (dw g) (0,0,(L.length:Int))).1:Int)/\env 12=int (((dz n a).foldl (dw g) (0,0,(L.length:Int))).2.1:Int)/\env 13=int ((dz n a).foldl (dw g) (0,0,(L.length:Int))).2.2/\env 14=int a) ⟨_,rfl,by simp,by simp,by simp,by simp,by simp,by simp,by simp[dz],by simp[dz],by simp[dz],by simp⟩ ?_
 rintro c0 a _ ha ⟨env,rfl,e3,e5,e6,e7,e8,e9,aI,bh,e13,eM⟩ iha
 rcases Nat.lt_or_ge a n with g1|g1
 . have g1':(a:Int)<f.az.length:=by omega
   have f1:-9223372036854775808<=(a:Int)+1/\(a:Int)+1<=9223372036854775807:=by omega
   refine ab.run lay [] ?_;simp[e3,e5,e6,e7,e8,e9,aI,bh,e13,eM,g1',f1.1,f1.2];refine ab.loop (n-(a+1)) (λd s=>∃env S,s=⟨env,σ,[],.no⟩/\S=(dz n a++pY a d).foldl (dw g) (0,0,(L.length:Int))/\env 3=.cp (aF f) 0/\env 5=int rx/\env 6=int ry/\env 7=int rl/\env 8=int re/\env 9=rows L/\env 11=int (S.1:Int)/\env 12=int (S.2.1:Int)/\env 13=int S.2.2/\env 14=int a/\env 15=int ((a:Int)+1+d)) ⟨_,_,rfl,rfl,by simp[e3],by simp[e5],by simp[e6],by simp[e7],by simp[e8],by simp[e9],by simp[aI,pY],by simp[bh,pY],by simp[e13,pY],by simp[eM],by simp⟩ ?_
   clear e3 e5 e6 e7 e8 e9 aI bh e13 eM
   rintro c1 d _ hd' ⟨env,S,rfl,hS,e3,e5,e6,e7,e8,e9,aI,bh,e13,eM,je⟩ ihd
   rcases Nat.lt_or_ge d (n-(a+1))with g2|g2
   . have ns:(a:Int)+1+d<f.az.length:=by omega
     have f2:-9223372036854775808<=(a:Int)+1+d+1/\(a:Int)+1+d+1<=9223372036854775807:=by omega
     obtain⟨z,hz⟩:∃z,z=(L.filter (aC a ((a+1+d:Nat):Int))).length:=⟨_,rfl⟩;have hzl:z<=L.length:=by rw[hz];exact List.length_filter_le _ _
     have hgp:g (a,a+1+d)=max (z:Int) ((L.length:Int)-z):=by rw[hgd,hz];rfl
     have hz':z=(L.filter (aC a ((a:Int)+1+d))).length:=by rw[hz];simp
     have hsucc:(dz n a++pY a (d+1)).foldl (dw g) (0,0,(L.length:Int))=dw g S (a,a+1+d):=by rw[xa,<-List.append_assoc,List.foldl_append,<-hS];rfl
     have f3:-9223372036854775808<=(L.length:Int)-z/\(L.length:Int)-z<=9223372036854775807:=by omega
     refine ab.run lay [] ?_;simp[e3,e5,e6,e7,e8,e9,aI,bh,e13,eM,je,ns];refine aq Tryz.func31 rfl rfl (nW (by omega) ⟨by omega,λw hw=>by rw[hwl w hw];omega⟩ ⟨by omega,λw hw=>by rw[hwl w hw];omega⟩ ?_)
     rw[<-hz']
     by_cases q:g (a,a+1+d)<S.2.2
     . by_cases qq:(L.length:Int)-z>z
       . have hgq:g (a,a+1+d)=(L.length:Int)-z:=by rw[hgp];omega
         have q:(L.length:Int)-z<S.2.2:=by rw[<-hgq];exact q
         have hst:dw g S (a,a+1+d)=(a,a+1+d,g (a,a+1+d)):=by simp[dw,hgq,q]
         rw[hst,hgq]at hsucc;refine ab.run lay [] ?_;simp[e3,e5,e6,e7,e8,e9,aI,bh,e13,eM,je,f3.1,f3.2,qq,q,f2.1,f2.2]
         exact ihd _ g2 ⟨_,_,rfl,hsucc.symm,by simp[e3,e5,e6,e7,e8,e9,aI,bh,e13,eM,je],by simp[e3,e5,e6,e7,e8,e9,aI,bh,e13,eM,je],by simp[e3,e5,e6,e7,e8,e9,aI,bh,e13,eM,je],by simp[e3,e5,e6,e7,e8,e9,aI,bh,e13,eM,je],by simp[e3,e5,e6,e7,e8,e9,aI,bh,e13,eM,je],by simp[e3,e5,e6,e7,e8,e9,aI,bh,e13,eM,je],by simp[e3,e5,e6,e7,e8,e9,aI,bh,e13,eM,je],by simp,by simp[e3,e5,e6,e7,e8,e9,aI,bh,e13,eM,je],by simp[e3,e5,e6,e7,e8,e9,aI,bh,e13,eM,je],by simp;omega⟩
       . have hgq:g (a,a+1+d)=(z:Int):=by rw[hgp];omega
         have q:(z:Int)<S.2.2:=by rw[<-hgq];exact q
         have hst:dw g S (a,a+1+d)=(a,a+1+d,g (a,a+1+d)):=by simp[dw,hgq,q]
         rw[hst,hgq]at hsucc;refine ab.run lay [] ?_;simp[e3,e5,e6,e7,e8,e9,aI,bh,e13,eM,je,f3.1,f3.2,qq,q,f2.1,f2.2]
         exact ihd _ g2 ⟨_,_,rfl,hsucc.symm,by simp[e3,e5,e6,e7,e8,e9,aI,bh,e13,eM,je],by simp[e3,e5,e6,e7,e8,e9,aI,bh,e13,eM,je],by simp[e3,e5,e6,e7,e8,e9,aI,bh,e13,eM,je],by simp[e3,e5,e6,e7,e8,e9,aI,bh,e13,eM,je],by simp[e3,e5,e6,e7,e8,e9,aI,bh,e13,eM,je],by simp[e3,e5,e6,e7,e8,e9,aI,bh,e13,eM,je],by simp[e3,e5,e6,e7,e8,e9,aI,bh,e13,eM,je],by simp,by simp[e3,e5,e6,e7,e8,e9,aI,bh,e13,eM,je],by simp[e3,e5,e6,e7,e8,e9,aI,bh,e13,eM,je],by simp;omega⟩
     . by_cases qq:(L.length:Int)-z>z
       . have hgq:g (a,a+1+d)=(L.length:Int)-z:=by rw[hgp];omega
         have q:¬(L.length:Int)-z<S.2.2:=by rw[<-hgq];exact q
         have hst:dw g S (a,a+1+d)=S:=by simp[dw,hgq,q]
         rw[hst]at hsucc;refine ab.run lay [] ?_;simp[e3,e5,e6,e7,e8,e9,aI,bh,e13,eM,je,f3.1,f3.2,qq,q,f2.1,f2.2]
         exact ihd _ g2 ⟨_,_,rfl,hsucc.symm,by simp[e3,e5,e6,e7,e8,e9,aI,bh,e13,eM,je],by simp[e3,e5,e6,e7,e8,e9,aI,bh,e13,eM,je],by simp[e3,e5,e6,e7,e8,e9,aI,bh,e13,eM,je],by simp[e3,e5,e6,e7,e8,e9,aI,bh,e13,eM,je],by simp[e3,e5,e6,e7,e8,e9,aI,bh,e13,eM,je],by simp[e3,e5,e6,e7,e8,e9,aI,bh,e13,eM,je],by simp[e3,e5,e6,e7,e8,e9,aI,bh,e13,eM,je],by simp[e3,e5,e6,e7,e8,e9,aI,bh,e13,eM,je],by simp[e3,e5,e6,e7,e8,e9,aI,bh,e13,eM,je],by simp[e3,e5,e6,e7,e8,e9,aI,bh,e13,eM,je],by simp;omega⟩
       . have hgq:g (a,a+1+d)=(z:Int):=by rw[hgp];omega
         have q:¬(z:Int)<S.2.2:=by rw[<-hgq];exact q
         have hst:dw g S (a,a+1+d)=S:=by simp[dw,hgq,q]
         rw[hst]at hsucc;refine ab.run lay [] ?_;simp[e3,e5,e6,e7,e8,e9,aI,bh,e13,eM,je,f3.1,f3.2,qq,q,f2.1,f2.2]
         exact ihd _ g2 ⟨_,_,rfl,hsucc.symm,by simp[e3,e5,e6,e7,e8,e9,aI,bh,e13,eM,je],by simp[e3,e5,e6,e7,e8,e9,aI,bh,e13,eM,je],by simp[e3,e5,e6,e7,e8,e9,aI,bh,e13,eM,je],by simp[e3,e5,e6,e7,e8,e9,aI,bh,e13,eM,je],by simp[e3,e5,e6,e7,e8,e9,aI,bh,e13,eM,je],by simp[e3,e5,e6,e7,e8,e9,aI,bh,e13,eM,je],by simp[e3,e5,e6,e7,e8,e9,aI,bh,e13,eM,je],by simp[e3,e5,e6,e7,e8,e9,aI,bh,e13,eM,je],by simp[e3,e5,e6,e7,e8,e9,aI,bh,e13,eM,je],by simp[e3,e5,e6,e7,e8,e9,aI,bh,e13,eM,je],by simp;omega⟩
   . have hde:d=n-(a+1):=by omega
     have ns:¬(a:Int)+1+d<f.az.length:=by omega
     rw[hde,<-sX]at hS;subst hS;refine ab.run lay [] ?_;simp[e3,e5,e6,e7,e8,e9,aI,bh,e13,eM,je,ns,f1.1,f1.2];exact iha _ g1 ⟨_,rfl,by simp[e3,e5,e6,e7,e8,e9,aI,bh,e13,eM,je],by simp[e3,e5,e6,e7,e8,e9,aI,bh,e13,eM,je],by simp[e3,e5,e6,e7,e8,e9,aI,bh,e13,eM,je],by simp[e3,e5,e6,e7,e8,e9,aI,bh,e13,eM,je],by simp[e3,e5,e6,e7,e8,e9,aI,bh,e13,eM,je],by simp[e3,e5,e6,e7,e8,e9,aI,bh,e13,eM,je],by simp[e3,e5,e6,e7,e8,e9,aI,bh,e13,eM,je],by simp[e3,e5,e6,e7,e8,e9,aI,bh,e13,eM,je],by simp[e3,e5,e6,e7,e8,e9,aI,bh,e13,eM,je],by simp⟩
 . have hae:a=n:=by omega
   subst hae;have g1':¬(a:Int)<f.az.length:=by omega
   generalize (dz a a).foldl (dw g) (0,0,(L.length:Int))=S at *
   rcases hrel with⟨q1,rfl,rfl,rfl,rfl⟩|⟨q1,rfl,rfl,rfl,rfl⟩
   . rw[q1]at bh
     refine ab.run lay [] ?_;simp[e3,e5,e6,e7,e8,e9,aI,bh,e13,eM,g1'];refine aq Tryz.func20 rfl rfl (ip hs ?_);refine ab.run lay [] ?_;simp[e3,e5,e6,e7,e8,e9,aI,bh,e13,eM];exact .done h
   . have q2:((S.2.1:Int)==0)=false:=by rw[beq_eq_false_iff_ne];omega
     refine ab.run lay [] ?_;simp[e3,e5,e6,e7,e8,e9,aI,bh,e13,eM,g1',q2,q1];refine aq Tryz.func20 rfl rfl (ip hs ?_);refine ab.run lay [] ?_;simp[e3,e5,e6,e7,e8,e9,aI,bh,e13,eM];exact .done h
end Go.Proofs.YtalogdafegmilaaGreatDoor

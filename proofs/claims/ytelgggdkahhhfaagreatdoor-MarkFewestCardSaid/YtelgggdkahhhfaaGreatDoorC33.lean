/- Part 33 of the proof. -/
import Derived.Test.YtelgggdkahhhfaaGreatDoorC32
set_option linter.all false
namespace Go.Proofs.YtelgggdkahhhfaaGreatDoor
open Go.aZ Go.Conc
set_option maxHeartbeats 1000000
set_option maxRecDepth 4000
def aQ (w:List Int) (k:Int):List Int:=(w.zipIdx.filter fun p=>decide (p.1=k)).map fun p=>(p.2:Int)
def bU (l:List Int):List (List Int):=(List.range (au l+1).toNat).map fun k:Nat=>l ++ [(k:Int)]
def bJ:Nat->List (List Int)
 | 0=>[[]]
 | i+1=>(bJ i).flatMap bU
def sb:Nat->List Int->List (List Int)
 | 0,l=>[l]
 | n+1,l=>(List.range (au l+1).toNat).flatMap fun k:Nat=>sb n (l ++ [(k:Int)])
def fF (f:Fr) (l:List Int):Bool:=decide (au l≤f.most) && (List.range (au l).toNat).all fun k:Nat=>decide (iA f (aQ l k)=0)
theorem eo (w:List Int) (x k:Int):aQ (w ++ [x]) k=aQ w k ++ if x=k then [(w.length:Int)] else []:=by
 unfold aQ;rw[List.zipIdx_append,List.filter_append,List.map_append]
 by_cases e:x=k <;> simp[e]
theorem xD (w t:List Int) (k:Int):(aQ w k).Sublist (aQ (w ++ t) k):=by
 unfold aQ;rw[List.zipIdx_append,List.filter_append,List.map_append];exact List.sublist_append_left _ _
theorem pX {w:List Int} {k n:Int} (h:n∈aQ w k):0≤n∧n<w.length∧w.getD n.toNat 0=k:=by
 unfold aQ at h;obtain⟨p,hp,rfl⟩:=List.mem_map.1 h;obtain⟨h1,h2⟩:=List.mem_filter.1 hp;obtain⟨x,i⟩:=p;have h3:=List.mem_zipIdx h1;simp at h2 h3;refine⟨by omega,by omega,?_⟩
 rw[Int.toNat_natCast,List.getD_eq_getElem?_getD,List.getElem?_eq_getElem (by omega)]
 simp[← h2,h3.2]
theorem cj (w:List Int) (x:Int):au (w ++ [x])=max (au w) (x+1):=by
 unfold au;rw[List.foldl_append];rfl
theorem mF (t:List Int):∀ n:Int,n≤t.foldl (fun n k=>max n (k+1)) n:=by
 induction t with
 | nil=>intro n;exact Int.le_refl _
 | cons a t ih=>intro n;rw[List.foldl_cons];exact Int.le_trans (by omega) (ih _)
theorem oo (w t:List Int):au w≤au (w ++ t):=by
 unfold au;rw[List.foldl_append];exact mF t _
theorem dU (w:List Int):0≤au w:=mF w 0
theorem sc:∀ (n:Nat) (w l:List Int),l∈sb n w->∃ t,l=w ++ t∧t.length=n
 | 0,w,l,h=>by simp[sb] at h;exact⟨[],by simp[h],rfl⟩
 | n+1,w,l,h=>by
   unfold sb at h;obtain⟨k,_,hk⟩:=List.mem_flatMap.1 h;obtain⟨t,ht,hl⟩:=sc n _ l hk;exact⟨(k:Int) :: t,by rw[ht];simp,by simp[hl]⟩
theorem uk:∀ n m:Nat,(bJ m).flatMap (sb n)=bJ (m+n)
 | 0,m=>by
   have:sb 0=fun l=>[l]:=by funext l;rfl
   rw[this];simp
 | n + 1,m=>by
   have e:∀ l,sb (n+1) l=(bU l).flatMap (sb n):=fun l=>by
    unfold bU;rw[List.flatMap_map];rfl
   rw[show m+(n+1)=m+1+n by omega,← uk n (m+1),bJ,List.flatMap_assoc]
   exact uj fun l _=>e l
theorem Fq:∀ x:Fin 64,∀ n:Fin 6,(∀ e∈bx (x.val:Int),e<(n.val:Int))->bx (bo (x.val:Int) (n.val:Int))=bx (x.val:Int) ++ [(n.val:Int)]:=by decide +kernel
theorem B7 {x:Int} {n:Nat} (hx:0≤x∧x<64) (hn:n<6) (h:∀ e∈bx x,e<n):bx (bo x n)=bx x ++ [(n:Int)]:=by
 have e1:(x.toNat:Int)=x:=by omega
 have:=Fq ⟨x.toNat,by omega⟩ ⟨n,hn⟩
 simp only[e1] at this;exact this h
theorem Fs {f:Fr} (hg:f.Good) {w t:List Int} {k:Nat} (hlen:(w ++ t).length=f.aB.length) (hk:(k:Int)<au w) (hne:aQ w k≠[]) (h:fF f (w ++ t)=true):iA f (aQ w k)=0:=by
 unfold fF at h;rw[Bool.and_eq_true,List.all_eq_true] at h;have h1:=oo w t;have h2:=h.2 k (List.mem_range.2 (by omega))
 refine GY hg (xD w t k) hne (fun n hn=>?_) (of_decide_eq_true h2)
 have:=pX hn;rw[hlen] at this;exact⟨this.1,this.2.1⟩
theorem sd {f:Fr} (hg:f.Good):∀ (fuel:Nat) (bT hs:List Int),bT.length+fuel=f.aB.length->Hs f bT.length hs->(∀ k:Nat,k<6->bx (hs.getD k 0)=aQ bT k)->au bT≤f.most->(∀ k:Nat,(k:Int)<au bT->iA f (aQ bT k)=0) ->
 fY f [] fuel bT (au bT) hs=(sb fuel bT).filter (fF f)
 | 0,bT,hs,_,_,_,h1,h2=>by
   have:fF f bT=true:=by
    unfold fF;rw[Bool.and_eq_true,List.all_eq_true];exact⟨decide_eq_true h1,fun k hk=>decide_eq_true (h2 k (by have:=List.mem_range.1 hk;omega))⟩
   simp[fY,sb,this]
 | fuel+1,bT,hs,hl,hH,hb,h1,h2=>by
   have hmost:=hg.most;have h6:=hg.vt;have hnn:=dU bT;rw[kN];unfold sb;rw[List.filter_flatMap];obtain⟨d,hd⟩:∃ d,(au bT+1).toNat=(min (au bT+1) f.most).toNat+d:=⟨(au bT+1).toNat-(min (au bT+1) f.most).toNat,by omega⟩
   rw[hd,sa d fun j g1 g2=>?_]
   . refine uj fun k hk=>?_
     have hk:=List.mem_range.1 hk;have hk6:k<6:=by omega
     have hkl:k<hs.length:=by rw[hH.vt];exact hk6
     have hkd:hs.getD k 0=hs[k]:=by rw[List.getD_eq_getElem?_getD,List.getElem?_eq_getElem hkl];rfl
     have hw6:bT.length<6:=by omega
     have hbn:bx (bo hs[k] bT.length)=aQ (bT ++ [(k:Int)]) k:=by
      rw[B7 (hH.small _ (List.getElem_mem hkl)) hw6 (hH.bits _ (List.getElem_mem hkl)),← hkd,hb k hk6,eo,if_pos rfl]
     unfold ko;rw[if_neg (by simp),hkd]
     by_cases hc:jm f (bo hs[k] bT.length)=true
     . rw [if_pos hc,← cj]
       unfold jm at hc;rw[decide_eq_true_eq,hbn] at hc;have hH':=hH.set hw6 hkl;refine sd hg fuel _ _ (by simp;omega) (by simpa using hH') (fun j hj=>?_) (by rw[cj];omega) fun j hj=>?_
       . by_cases e:j=k
         . subst e
           rw[List.getD_eq_getElem?_getD,List.getElem?_set_self hkl];exact hbn
         . rw[List.getD_eq_getElem?_getD,List.getElem?_set_ne (Ne.symm e),← List.getD_eq_getElem?_getD,hb j hj,eo,if_neg (by omega),List.append_nil]
       . by_cases e:j=k
         . subst e;exact hc
         . rw[cj] at hj
           rw[eo,if_neg (by omega),List.append_nil]
           exact h2 j (by omega)
     . rw[if_neg hc]
       symm;rw[List.filter_eq_nil_iff];intro l hl' hfit;obtain⟨t,rfl,ht⟩:=sc _ _ _ hl';refine hc ?_;unfold jm;rw[decide_eq_true_eq,hbn];refine Fs hg (by simp;omega) (by rw[cj];omega) ?_ hfit
       rw[eo,if_pos rfl];simp
   . rw[List.filter_eq_nil_iff]
     intro l hl' hfit;obtain⟨t,rfl,ht⟩:=sc _ _ _ hl';unfold fF at hfit;rw[Bool.and_eq_true,decide_eq_true_eq] at hfit;have q1:=oo (bT ++ [(j:Int)]) t;rw[cj] at q1;omega
theorem yZ {f:Fr} (hg:f.Good):(bJ f.aB.length).filter (fF f)=az f []:=by
 have hm:=hg.most;have e0:au []=0:=rfl;have hz:bx 0=[]:=by decide +kernel
 have hz0:∀ x∈([0,0,0,0,0,0]:List Int),x=0:=fun x hx=>by simpa using hx
 have hH:Hs f ([]:List Int).length [0,0,0,0,0,0]:=⟨rfl,fun x hx e he=>by rw[hz0 x hx,hz] at he;exact absurd he List.not_mem_nil,fun x hx=>by rw[hz0 x hx];omega⟩
 have hk0:∀ k:Nat,k<6->bx (([0,0,0,0,0,0]:List Int).getD k 0)=aQ [] k:=fun k hk=>by
  have:([0,0,0,0,0,0]:List Int).getD k 0=0:=by
   match k,hk with
   | 0,_=>rfl
   | 1,_=>rfl
   | 2,_=>rfl
   | 3,_=>rfl
   | 4,_=>rfl
   | 5,_=>rfl
  rw[this,hz];rfl
 have hgp:=sd hg f.aB.length [] [0,0,0,0,0,0] (by simp) hH hk0 (by rw[e0];omega) (fun k hk=>by rw[e0] at hk;omega)
 rw[e0] at hgp;have hpe:=uk f.aB.length 0;rw[Nat.zero_add] at hpe;unfold az;rw[hgp,← hpe];simp[bJ]
theorem ma:∀ (i:Nat),∀ l∈bJ i,l.length=i∧(∀ x∈l,0≤x∧x<i)∧au l≤i
 | 0,l,h=>by simp[bJ] at h;subst h;exact⟨rfl,by simp,by decide⟩
 | i+1,l,h=>by
   unfold bJ at h;obtain⟨p,hp,hq⟩:=List.mem_flatMap.1 h;obtain⟨h1,h2,h3⟩:=ma i p hp;unfold bU at hq;obtain⟨k,hk,rfl⟩:=List.mem_map.1 hq;have hk:=List.mem_range.1 hk;have:=dU p;refine⟨by simp[h1],fun x hx=>?_,by rw[cj];omega⟩
   rcases List.mem_append.1 hx with hx|hx
   . have:=h2 x hx;omega
   . simp at hx;subst hx;omega
theorem xE:∀ (i:Nat),∀ l∈bJ i,∀ k:Nat,(k:Int)<au l->aQ l k≠[]
 | 0,l,h,k,hk=>by simp[bJ] at h;subst h;rw[show au []=0 from rfl] at hk;omega
 | i + 1,l,h,k,hk=>by
   unfold bJ at h;obtain⟨p,hp,hq⟩:=List.mem_flatMap.1 h;unfold bU at hq;obtain⟨k',hk1,rfl⟩:=List.mem_map.1 hq;have hk1:=List.mem_range.1 hk1;have:=dU p;rw[cj] at hk;rw[eo]
   by_cases e:k'=k
   . subst e;simp
   . have:=xE i p hp k (by omega)
     rw[if_neg (by omega),List.append_nil];exact this
theorem mc:∀ (i:Nat),i≤6->(bJ i).length≤7 ^ i
 | 0,_=>by simp[bJ]
 | i+1,hi=>by
   have ih:=mc i (by omega)
   unfold bJ;rw[Nat.pow_succ];refine Nat.le_trans (vI (B:=7) _ fun l hl=>?_) (Nat.mul_le_mul_right _ ih)
   have:=(ma i l hl).2.2;have:=dU l;unfold bU;rw[List.length_map,List.length_range];omega
end Go.Proofs.YtelgggdkahhhfaaGreatDoor
namespace Go.Proofs.YtelgggdkahhhfaaGreatDoor
open Go.aZ Go.Conc
set_option maxHeartbeats 1000000
set_option maxRecDepth 4000
variable {m:Mo} {σ:aa} {KF:cV->aa->Prop}
theorem mG (w:List Int) (i:Nat) (h:i<w.length):au (w.take (i+1))=max (au (w.take i)) (w[i]+1):=by
 rw[List.take_succ_eq_append_getElem h,cj]
theorem vJ {l:List Int} (hl:l.length<1152921504606846976) (hb:∀ x∈l,-1≤x∧x≤1000) (h:KF (.val (int (au l))) σ):ar Tryz.prog m 19 [ints l] σ KF:=by
 refine ar.start lay [] [] 1 Tryz.func19 rfl rfl (by rfl) (by kernel_rfl) ?_
 simp[Tryz.f19];refine ab.loop l.length (fun k s => ∃ env,s=⟨env,σ,[],.no⟩∧env 0=ints l∧env 3=int (au (l.take k))∧env 4=int k) ⟨_,rfl,by simp,by simp[au],by simp⟩ ?_
 rintro c0 k _ hk ⟨env,rfl,e0,e3,e4⟩ ih
 rcases Nat.lt_or_ge k l.length with g1|g1
 . have g1':(k:Int)<l.length:=by omega
   have hx:=hb _ (List.getElem_mem g1);have f1 : -9223372036854775808≤(k:Int)+1∧(k:Int)+1≤9223372036854775807:=by omega
   have f2 : -9223372036854775808≤l[k]+1∧l[k]+1≤9223372036854775807:=by omega
   refine ab.run lay [] ?_;simp[e0,e3,e4,g1,f1.1,f1.2,f2.1,f2.2];refine ih _ g1 ⟨_,rfl,by simp[e0,e3,e4],?_,by simp⟩
   rw[mG _ _ g1];simp[e0,e3,e4];split <;> omega
 . have hke:k=l.length:=by omega
   subst hke;rw[List.take_length] at e3;refine ab.run lay [] ?_;simp[e0,e3,e4];exact .done h
theorem oq (w:List Int) (k:Int) (i:Nat) (h:i<w.length):aQ (w.take (i+1)) k=aQ (w.take i) k ++ if w[i]=k then [(i:Int)] else []:=by
 rw[List.take_succ_eq_append_getElem h,eo,List.length_take,Nat.min_eq_left (by omega)]
theorem lL (w:List Int) (k:Int):(aQ w k).length≤w.length:=by
 unfold aQ;rw[List.length_map];refine Nat.le_trans (List.length_filter_le _ _) ?_;simp
theorem Ft {w:List Int} {k:Int} (hl:w.length<1000000) (h:KF (.val (ints (aQ w k))) σ):ar Tryz.prog m 28 [ints w,int k] σ KF:=by
 refine ar.start lay [] [] 2 Tryz.func28 rfl rfl (by rfl) (by kernel_rfl) ?_
 simp[Tryz.f28];refine ab.loop w.length (fun i s => ∃ env σ',s=⟨env,σ',[],.no⟩∧env 0=ints w∧env 1=int k∧env 6=int i∧Tok σ σ' (env 5) 1 ((aQ (w.take i) k).map int)) ⟨_,σ,rfl,by simp,by simp,by simp,by simpa[aQ] using Tok.nil σ 1⟩ ?_
 rintro c0 i _ hi ⟨env,σ',rfl,e0,e1,e6,htok⟩ ih
 have htc:=htok.cells
 rcases Nat.lt_or_ge i w.length with g1|g1
 . have g1':(i:Int)<w.length:=by omega
   have f1 : -9223372036854775808≤(i:Int)+1∧(i:Int)+1≤9223372036854775807:=by omega
   refine ab.run lay [] ?_;simp[e0,e1,e6,htc.1,htc.2,g1];refine aF.intro (fun g2=>?_) (fun g2=>?_) <;> (try simp[-Int.not_lt,-Int.not_le,-Nat.not_lt,-Nat.not_le] at g2) <;> (try simp[e0,e1,e6,htc.1,htc.2,g2])
   . have hlk:=lL (w.take i) k
     rw[List.length_take] at hlk;refine aU lay rfl rfl rfl dz rfl dz rfl tO (by decide) (by simp;omega) (σ0:=σ) (es:=(aQ (w.take i) k).map int) (xs:=[int i]) (by simpa using htok) (.inr ⟨_,rfl⟩) fun a' σ2 ht'=>?_
     refine ab.run lay [] ?_;simp[e0,e1,e6,htc.1,htc.2,f1.1,f1.2];refine ih _ g1 ⟨_,_,rfl,by simp[e0,e1,e6,htc.1,htc.2],by simp[e0,e1,e6,htc.1,htc.2],by simp,?_⟩
     rw[oq _ _ _ g1,if_pos g2,List.map_append];simpa using ht'
   . simp[e0,e1,e6,htc.1,htc.2,f1.1,f1.2]
     refine ih _ g1 ⟨_,_,rfl,by simp[e0,e1,e6,htc.1,htc.2],by simp[e0,e1,e6,htc.1,htc.2],by simp,?_⟩
     rw[oq _ _ _ g1,if_neg g2,List.append_nil];simpa using htok
 . have hie:i=w.length:=by omega
   subst hie;rw[List.take_length] at htok;refine ab.run lay [] ?_;simp[e0,e1,e6];exact .less htok.1 (.nu htok.W (.done h))
end Go.Proofs.YtelgggdkahhhfaaGreatDoor
namespace Go.Proofs.YtelgggdkahhhfaaGreatDoor
open Go.aZ Go.Conc
set_option maxHeartbeats 2000000
set_option maxRecDepth 4000
variable {m:Mo} {σ:aa} {KF:cV->aa->Prop}
theorem po (l:List Int):((bU l).length:Int)=au l+1:=by
 have:=dU l;unfold bU;rw[List.length_map,List.length_range];omega
theorem y6 {l:List Int} {j:Nat} (h:(j:Int)≤au l):(bU l).take (j+1)=(bU l).take j ++ [l ++ [(j:Int)]]:=by
 have hl:j<(bU l).length:=by have:=po l;omega
 rw[List.take_succ_eq_append_getElem hl];congr 2;simp only[bU,List.getElem_map,List.getElem_range]
theorem B8 {l:List Int} {j:Nat} (h : ¬ (j:Int)≤au l):(bU l).take j=bU l:=by
 apply List.take_of_length_le;have:=po l;omega
theorem Fu {n:Nat} (hn:n≤6) (h:KF (.val (rows (bJ n))) σ):ar Tryz.prog m 48 [int n] σ KF:=by
 refine ar.start lay [] [] 1 Tryz.func48 rfl rfl (by rfl) (by kernel_rfl) ?_
 simp[Tryz.f48]
 have hW:(AV.sl 1 [.lit (.slice none 0 0)] .exact).W (rows (bJ 0)):=Ic rfl (by simp) (by simp[bJ]) (fun i a a' h1 h2=>by
  match i with
  | 0=>simp[bJ] at h1 h2;subst h1;subst h2;exact iC 1
  | i+1=>simp at h1)
 refine ab.Cg 3 (a':=rows (bJ 0)) (by simpa using hW) ?_
 refine ab.loop n (fun i s => ∃ env σ',s=⟨env,σ',[],.no⟩∧σ.Le σ'∧env 0=int n∧env 3=rows (bJ i)∧env 4=int i) ⟨_,σ,rfl,aa.le_refl _,by simp,by simp,by simp⟩ ?_
 rintro c0 i _ hi ⟨env,σ1,rfl,hle1,e0,e3,e4⟩ ih
 rcases Nat.lt_or_ge i n with g1|g1
 . have g1':(i:Int)<n:=by omega
   have hLa:=ma i;have hLl:=mc i (by omega)
   have hLl':(bJ i).length≤117649:=Nat.le_trans hLl (Nat.le_trans (Nat.pow_le_pow_right (by omega) (show i≤6 by omega)) (by decide))
   have hnl:=mc (i+1) (by omega)
   have hnl':(bJ (i+1)).length≤117649:=Nat.le_trans hnl (Nat.le_trans (Nat.pow_le_pow_right (by omega) (show i+1≤6 by omega)) (by decide))
   obtain⟨L,hL⟩:∃ L,L=bJ i:=⟨_,rfl⟩;have hnext:bJ (i+1)=L.flatMap bU:=by rw[hL];rfl
   rw[← hL] at hLa hLl' e3;rw[hnext] at hnl';refine ab.run lay [] ?_;simp[e0,e3,e4,g1'];refine ab.loop L.length (fun x s => ∃ env σ',s=⟨env,σ',[],.no⟩∧env 0=int n∧env 3=rows L∧env 4=int i∧env 6=int x∧Tok σ1 σ' (env 5) 1 (((L.take x).flatMap bU).map ints)) ⟨_,σ1,rfl,by simp[e0],by simp[e3],by simp[e4],by simp,by simpa using Tok.nil σ1 1⟩ ?_
   clear e0 e3 e4
   rintro c1 x _ hx ⟨env,σ2,rfl,e0,e3,e4,e6,htok⟩ ih2
   rcases Nat.lt_or_ge x L.length with g2|g2
   . have xK:(x:Int)<L.length:=by omega
     obtain⟨l,hl⟩:∃ l,l=L[x]:=⟨_,rfl⟩;obtain⟨hll,hlm,hlh⟩:=hLa l (by rw[hl];exact List.getElem_mem g2)
     have htail:(L.take (x+1)).flatMap bU=(L.take x).flatMap bU ++ bU l:=by
      rw[List.take_succ_eq_append_getElem g2,List.flatMap_append,← hl];simp
     have hcnt:((L.take x).flatMap bU ++ bU l).length≤117649:=by
      rw[← htail];refine Nat.le_trans (List.Sublist.length_le ?_) hnl'
      have e:L.flatMap bU=(L.take (x+1)).flatMap bU ++ (L.drop (x+1)).flatMap bU:=by
       rw[← List.flatMap_append,List.take_append_drop]
      rw[e];exact List.sublist_append_left _ _
     have hcnt':((L.take x).flatMap bU).length+(bU l).length≤117649:=by rw[← List.length_append];exact hcnt
     have f0 : -9223372036854775808≤(x:Int)+1∧(x:Int)+1≤9223372036854775807:=by omega
     refine ab.run lay [] ?_;simp[e0,e3,e4,e6,g2,← hl];refine ab.loop i (fun y s => ∃ env,s=⟨env,σ2,[],.no⟩∧env 0=int n∧env 3=rows L∧env 4=int i∧env 6=int x∧env 7=int (au (l.take y)-1)∧env 8=int y∧Tok σ1 σ2 (env 5) 1 (((L.take x).flatMap bU).map ints)) ⟨_,rfl,by simp[e0],by simp[e3],by simp[e4],by simp[e6],by simp[au],by simp,by simpa using htok⟩ ?_
     clear e0 e3 e4 e6 htok
     rintro c2 y _ hy ⟨env,rfl,e0,e3,e4,e6,e7,e8,htok⟩ ih3
     rcases Nat.lt_or_ge y i with g3|g3
     . have xL:(y:Int)<i:=by omega
       have hyl:y<l.length:=by omega
       have hym:=hlm _ (List.getElem_mem hyl);have f1 : -9223372036854775808≤(y:Int)+1∧(y:Int)+1≤9223372036854775807:=by omega
       refine ab.run lay [] ?_;simp[e0,e3,e4,e6,e7,e8,g2,← hl,hyl,xL,f1.1,f1.2];refine ih3 _ g3 ⟨_,rfl,by simp[e0,e3,e4,e6,e7,e8],by simp[e0,e3,e4,e6,e7,e8],by simp[e0,e3,e4,e6,e7,e8],by simp[e0,e3,e4,e6,e7,e8],?_,by simp,by simpa using htok⟩
       rw[mG _ _ hyl];simp[e0,e3,e4,e6,e7,e8];split <;> omega
     . have hyi:y=l.length:=by omega
       rw[hyi,List.take_length] at e7;have hnn:=dU l;refine ab.run lay [] ?_;simp[e0,e3,e4,e6,e7,e8,Nat.not_lt.2 g3];refine ab.loop (bU l).length (fun j s => ∃ env σ',s=⟨env,σ',[],.no⟩∧env 0=int n∧env 3=rows L∧env 4=int i∧env 6=int x∧env 7=int (au l-1)∧env 9=int j∧Tok σ1 σ' (env 5) 1 (((L.take x).flatMap bU ++ (bU l).take j).map ints)) ⟨_,σ2,rfl,by simp[e0],by simp[e3],by simp[e4],by simp[e6],by simp[e7],by simp,by simpa using htok⟩ ?_
       clear e0 e3 e4 e6 e7 e8 htok
       rintro c2 j _ hj ⟨env,σ3,rfl,e0,e3,e4,e6,e7,e9,htok⟩ ih4
       have htc:=htok.cells;have hG:=po l;have f5 : -9223372036854775808≤(j:Int)+1∧(j:Int)+1≤9223372036854775807:=by omega
       have f6 : -9223372036854775808≤au l∧au l≤9223372036854775807:=by omega
       refine ab.run lay [] ?_;simp[e0,e3,e4,e6,e7,e9,f6.1,f6.2];refine aF.intro (fun q=>?_) (fun q=>?_) <;> simp[-Int.not_lt,-Int.not_le,-Nat.not_lt,-Nat.not_le] at q
       . have q':(j:Int)≤au l:=by omega
         have hj':j<(bU l).length:=by omega
         have hlm:l.length+1≤1000:=by omega
         simp[e0,e3,e4,e6,e7,e9,g2,← hl];refine ap Tryz.func60 rfl rfl (xl (by omega) fun a4 σ4 ht4=>?_)
         refine ab.run lay [] ?_;simp[e9];refine ku lay rfl rfl rfl dz rfl dz rfl tO (by decide) (by simp;omega) (σ0:=σ3) (es:=l.map int) (xs:=[int j]) (by simpa using ht4) (.inl (.inr ⟨_,rfl⟩)) (by simp) fun a5 σ5 ht5=>?_
         refine ab.Id (σ0:=σ3) (es:=l.map int ++ [int j]) 50 (by simpa using ht5) ?_
         refine ab.run lay [] ?_;simp;have OI:=y6 q';have hjl:((bU l).take j).length≤(bU l).length:=by rw[List.length_take];exact Nat.min_le_right _ _
         refine aU lay rfl rfl rfl kL rfl kL rfl dz (by decide) (by simp only[List.length_map,List.length_append,List.length_singleton];omega) (σ0:=σ1) (es:=((L.take x).flatMap bU ++ (bU l).take j).map ints) (xs:=[ints (l ++ [(j:Int)])]) (by simpa using htok) (.inr ⟨_,by simp;rfl⟩) fun a6 σ6 ht6=>?_
         refine ab.run lay [] ?_;simp[e9,f5.1,f5.2];refine ih4 _ hj' ⟨_,_,rfl,by simp[e0],by simp[e3],by simp[e4],by simp[e6],by simp[e7],by simp,?_⟩
         rw[OI];simpa[List.map_append] using ht6
       . rw[B8 (by omega)] at htok
         simp[e0,e3,e4,e6,e7,e9,f0.1,f0.2];refine ih2 _ g2 ⟨_,_,rfl,by simp[e0],by simp[e3],by simp[e4],by simp,?_⟩
         rw[htail];simpa using htok
   . have hxe:x=L.length:=by omega
     subst hxe;rw[List.take_length] at htok;refine ab.Cg 5 (a':=rows (bJ (i+1))) (by rw[hnext];simpa using htok.W) ?_
     have f0 : -9223372036854775808≤(i:Int)+1∧(i:Int)+1≤9223372036854775807:=by omega
     refine ab.run lay [] ?_;simp[e0,e3,e4,e6,f0.1,f0.2];exact ih _ g1 ⟨_,_,rfl,aa.le_trans hle1 htok.1,by simp[e0,e3,e4,e6],by simp,by simp⟩
 . have hie:i=n:=by omega
   subst hie;refine ab.run lay [] ?_;simp[e0,e3,e4];exact .less hle1 (.done h)
end Go.Proofs.YtelgggdkahhhfaaGreatDoor
namespace Go.Proofs.YtelgggdkahhhfaaGreatDoor
open Go.aZ Go.Conc
set_option maxHeartbeats 1000000
set_option maxRecDepth 4000
variable {m:Mo} {σ:aa} {KF:cV->aa->Prop}
theorem xH (hs:m.solo=true) {f:Fr} {l:List Int} {sp:bK} (hf:f.Fits) (hc:check f=0) (hl:∀ n∈l,0≤n∧n<f.aB.length) (hll:l.length<1152921504606846976) (hway:az f []=[]) (h:∀ σ',σ.Le σ'->KF (.val (.cB [.lit (.pointer none),int 11])) σ'):ar Tryz.prog m 44 [bg f,.sl 1 (l.map int) sp] σ KF:=by
 have hg:=Fr.sM hf hc;have ho:=rV hc hl;refine ar.start lay [] [] 2 Tryz.func44 rfl rfl (by rfl) (by kernel_rfl) ?_
 simp[Tryz.f44];have hW:Wl [AV.agg (eS f),.sl 1 (l.map int) sp] [bg f,ints l]:=.cons (.refl _) (.cons (fq 1 _ sp) .nil);refine bD Tryz.func35 rfl rfl hW (qp hf hll (fun q=>absurd ho q) fun _ b mb σ' hn=>?_)
 have hu:Gy b 6 mb .u8 (fE f) σ':=by
  rw[hn.eq];exact⟨aa.ao _ _ _,[],(aa.ak _ _ (Ne.symm hn.ne)).trans (aa.ao _ _ _),fun n a h=>by simp[fu] at h⟩
 refine ab.run lay [] ?_;simp;refine ap Tryz.func41 rfl rfl (vy (lF tW tX BZ hs hn.ne) hg hu fun σ2 q1 q2=>?_)
 refine ab.run lay [] ?_;simp[hway];refine .done (h σ2 fun c x hx=>?_)
 have c1:c≠b:=fun e=>by subst e;rw[hn.hb] at hx;cases hx
 have c2:c≠mb:=fun e=>by subst e;rw[hn.vL] at hx;cases hx
 exact q2 c x (hn.le c x hx) c1 (.inl c2)
theorem Fv {l l':List AV} (hl:l.length=l'.length) (hw:∀ (i:Nat) a a',l[i]? = some a->l'[i]? = some a'->a.W a'):(AV.cB l).W (.cB l'):=fun k x hx=>by
 cases hx with
 | cB c _ g1 g2=>
   refine .cB c l' (by omega) fun i v a' hv ha'=>?_
   have hi:i<l.length:=by rw[hl];exact (List.getElem?_eq_some_iff.1 ha').1
   exact hw i l[i] a' (by simp[hi]) ha' k v (g2 i v _ hv (by simp[hi]))
theorem xI (hs:m.solo=true) {f:Fr} (hf:f.Fits) (hc:check f=0) (hway:az f []=[]) (h:KF (.val (.cB [ints [],int 0,int 11])) σ):ar Tryz.prog m 17 [bg f] σ KF:=by
 refine ar.start lay [] If 1 Tryz.func17 rfl rfl (by rfl) (by kernel_rfl) ?_
 simp[Tryz.f17];have hW:Wl [bg f,AV.lit (.slice none 0 0)] [bg f,.sl 1 (([]:List Int).map int) .any]:=.cons (.refl _) (.cons (iC 1) .nil);refine bD Tryz.func44 rfl rfl hW (xH (l:=[]) (sp:=.any) hs hf hc (by simp) (by simp) hway fun σ0 hle0=>?_)
 refine ab.run lay [] ?_;simp;refine .nu (a':=.cB [ints [],int 0,int 11]) (Fv rfl fun i a a' h1 h2=>?_) (.less hle0 (.done h))
 match i with
 | 0=>simp at h1 h2;subst h1;subst h2;exact iC 1
 | 1=>simp at h1 h2;subst h1;subst h2;exact .refl _
 | 2=>simp at h1 h2;subst h1;subst h2;exact .refl _
 | i+3=>simp at h1
end Go.Proofs.YtelgggdkahhhfaaGreatDoor
namespace Go.Proofs.YtelgggdkahhhfaaGreatDoor
open Go.aZ Go.Conc
set_option maxHeartbeats 1000000
set_option maxRecDepth 4000
theorem pY (k:Int):∀ (w:List Int) (n:Nat),(((w.zipIdx n).filter fun p=>decide (p.1=k)).map fun p=>(p.2:Int)).Pairwise (· < ·)∧∀ x∈(((w.zipIdx n).filter fun p=>decide (p.1=k)).map fun p=>(p.2:Int)),(n:Int)≤x
 | [],n=>by simp
 | a :: w,n=>by
   have ih:=pY k w (n+1);rw[List.zipIdx_cons,List.filter_cons];split
   . rw[List.map_cons]
     refine⟨List.pairwise_cons.2 ⟨fun x hx=>?_,ih.1⟩,fun x hx=>?_⟩
     . have:=ih.2 x hx
       simp only;omega
     . rcases List.mem_cons.1 hx with rfl|hx
       . exact Int.le_refl _
       . have:=ih.2 x hx;omega
   . exact⟨ih.1,fun x hx=>by have:=ih.2 x hx;omega⟩
section
variable {f:Fr} {most:Nat} {C H ks:List Int} {last:List m7}
end
end Go.Proofs.YtelgggdkahhhfaaGreatDoor
namespace Go.Proofs.YtelgggdkahhhfaaGreatDoor
open Go.aZ Go.Conc
set_option maxHeartbeats 2000000
set_option maxRecDepth 4000
variable {m:Mo} {σ:aa} {KF:cV->aa->Prop}
def GZ (f:Fr) (l:List Int) (k:Nat):Bool:=decide (au l≤f.most) && (List.range k).all fun j:Nat=>decide (iA f (aQ l j)=0)
theorem Fw {f:Fr} {l:List Int} {k:Nat} (h:GZ f l k=true):GZ f l (k+1)=decide (iA f (aQ l k)=0):=by
 unfold GZ at h ⊢;rw[List.range_succ,List.all_append,← Bool.and_assoc,h];simp
theorem B9 {f:Fr} {l:List Int} {k:Nat} (hk:(k:Int)≤au l) (h:GZ f l k=false):fF f l=false:=by
 cases e:fF f l with
 | false=>rfl
 | true=>
   unfold fF at e;rw[Bool.and_eq_true,List.all_eq_true] at e
   have:GZ f l k=true:=by
    unfold GZ;rw[Bool.and_eq_true,List.all_eq_true];exact⟨e.1,fun j hj=>e.2 j (by have:=List.mem_range.1 hj;exact List.mem_range.2 (by omega))⟩
   rw[this] at h;cases h
theorem Ca {f:Fr} {l:List Int} {k:Int} (h6:f.aB.length≤6) (hl:l.length=f.aB.length) (hne:aQ l k≠[]):GF f (aQ l k):=by
 have h1:=lL l k;have hp:(aQ l k).Pairwise (· < ·):=(pY k l 0).1
 have h0:1≤(aQ l k).length:=by
  cases e:aQ l k with
  | nil=>exact absurd e hne
  | cons a r=>simp
 refine GX (n:=(aQ l k).length) ⟨rfl,fun x hx=>?_,fun a b hab hb=>?_⟩ ⟨h0,by omega⟩
 . have:=pX hx
   omega
 . have:=List.pairwise_iff_getElem.1 hp a b (by omega) hb hab
   simpa[List.getD_eq_getElem?_getD,hb,show a<(aQ l k).length by omega] using this
theorem xJ {f:Fr} (hf:f.Fits) (hc:check f=0) (h:KF (.val (.cB [rows (az f []),bool true])) σ):ar Tryz.prog m 18 [bg f] σ KF:=by
 have hg:=Fr.sM hf hc;have h6:=hg.vt;have hlen:=Ac hg [];rw[← yZ hg] at h hlen;refine ar.start lay [] LS 1 Tryz.func18 rfl rfl (by rfl) (by kernel_rfl) ?_
 simp[Tryz.f18];refine ap Tryz.func48 rfl rfl (Fu h6 ?_);have hLa:=ma f.aB.length;have hLn:=xE f.aB.length;have hLl:=mc f.aB.length h6;have hLl':(bJ f.aB.length).length≤117649:=Nat.le_trans hLl (Nat.le_trans (Nat.pow_le_pow_right (by omega) (show f.aB.length≤6 by omega)) (by decide))
 obtain⟨L,hL⟩:∃ L,L=bJ f.aB.length:=⟨_,rfl⟩;rw[← hL] at hLa hLn hLl' h hlen ⊢;refine ab.run lay [] ?_;simp;refine ab.loop L.length (fun i s => ∃ env σ',s=⟨env,σ',[],.no⟩∧env 1 = .cp (bg f) 0∧env 5=rows L∧env 6=int i∧Tok σ σ' (env 4) 1 (((L.take i).filter (fF f)).map ints)) ⟨_,σ,rfl,by simp,by simp,by simp,by simpa using Tok.nil σ 1⟩ ?_
 rintro c0 i _ hi ⟨env,σ1,rfl,e1,e5,e6,htok⟩ ih
 rcases Nat.lt_or_ge i L.length with g2|g2
 . have xK : (i : Int)<L.length:=by omega
   obtain⟨l,hl⟩:∃ l,l=L[i]:=⟨_,rfl⟩;obtain⟨hll,hlm,hlh⟩:=hLa l (by rw[hl];exact List.getElem_mem g2)
   have hne:=hLn l (by rw[hl];exact List.getElem_mem g2)
   have hnn:=dU l
   have htail:(L.take (i+1)).filter (fF f)=(L.take i).filter (fF f) ++ if fF f l=true then [l] else []:=by
    rw[List.take_succ_eq_append_getElem g2,List.filter_append,← hl]
    by_cases e:fF f l=true <;> simp[e]
   have hcnt:((L.take i).filter (fF f)).length≤117649:=by
    refine Nat.le_trans (List.length_filter_le _ _) ?_;rw[List.length_take];omega
   have f0 : -9223372036854775808≤(i:Int)+1∧(i:Int)+1≤9223372036854775807:=by omega
   refine ab.run lay [] ?_;simp[e1,e5,e6,g2,← hl];refine ap Tryz.func19 rfl rfl (vJ (by omega) (fun x hx=>by have:=hlm x hx;omega) ?_)
   refine ab.run lay [] ?_;simp[e1,e5,e6];refine ab.loop (au l).toNat (fun k s => ∃ env,s=⟨env,σ1,[],.no⟩∧env 1 = .cp (bg f) 0∧env 5=rows L∧env 6=int i∧env 7=int (au l)∧env 8=bool (GZ f l k)∧env 9=int k∧Tok σ σ1 (env 4) 1 (((L.take i).filter (fF f)).map ints)) ⟨_,rfl,by simp[e1],by simp[e5],by simp[e6],by simp,by simp[GZ],by simp,by simpa using htok⟩ ?_
   clear e1 e5 e6 htok
   rintro c1 k _ hk ⟨env,rfl,e1,e5,e6,e7,e8,e9,htok⟩ ih2
   have htc:=htok.cells;have hkn:(k:Int)≤au l:=by omega
   cases hok:GZ f l k with
   | false=>
     have hfit:=B9 hkn hok;rw[hok] at e8;rw[hfit] at htail
     by_cases g3:(k:Int)<au l
     . refine ab.run lay [] ?_
       simp[e1,e5,e6,e7,e8,e9,g3];refine⟨f0,ih _ g2 ⟨_,_,rfl,by simp[e1],by simp[e5],by simp,?_⟩⟩
       rw[htail];simpa using htok
     . refine ab.run lay [] ?_
       simp[e1,e5,e6,e7,e8,e9,g3];refine⟨f0,ih _ g2 ⟨_,_,rfl,by simp[e1],by simp[e5],by simp,?_⟩⟩
       rw[htail];simpa using htok
   | true=>
     rw[hok] at e8
     by_cases g3:(k:Int)<au l
     . have hlst := Ca h6 hll (hne k g3)
       have hl20:=lL l k;have hks:=Fw hok;have f1 : -9223372036854775808≤(k:Int)+1∧(k:Int)+1≤9223372036854775807:=by omega
       refine ab.run lay [] ?_;simp[e1,e5,e6,e7,e8,e9,g3,g2,← hl]
       repeat' (first
                 | apply And.intro
                 | (refine ap Tryz.func28 rfl rfl (Ft (by omega) ?_)
                    refine bk.go lay [] ?_;simp[e1,e5,e6,e7,e8,e9,g2,← hl])
                 | (refine ap Tryz.func22 rfl rfl (Ff hf hc hlst (by omega) ?_)
                    refine bk.go lay [] ?_;simp[e1,e5,e6,e7,e8,e9,g2,← hl]))
       all_goals (
        refine ab.run lay [] ?_;simp[e9,f1.1,f1.2];refine ih2 _ (by omega) ⟨_,rfl,by simp[e1],by simp[e5],by simp[e6],by simp[e7],by simp[hks],by simp,by simpa using htok⟩)
     . have hke:k=(au l).toNat:=by omega
       have hfit:fF f l=true:=by rw[hke] at hok;exact hok
       rw[hfit] at htail;refine ab.run lay [] ?_;simp[e1,e5,e6,e7,e8,e9,g3,g2,← hl];refine aU lay rfl rfl rfl kL rfl kL rfl dz (by decide) (by simp only[List.length_map,List.length_append,List.length_singleton];omega) (σ0:=σ) (es:=((L.take i).filter (fF f)).map ints) (xs:=[ints l]) (by simpa using htok) (.inr ⟨_,by simp;rfl⟩) fun a6 σ6 ht6=>?_
       refine ab.run lay [] ?_;simp[e1,e5,e6,e7,e8,e9,f0.1,f0.2];refine ih _ g2 ⟨_,_,rfl,by simp[e1],by simp[e5],by simp,?_⟩
       rw[htail];simpa[List.map_append] using ht6
 . have hie:i=L.length:=by omega
   subst hie;rw[List.take_length] at htok;refine ab.run lay [] ?_;simp[e1,e5,e6];refine .less htok.1 (.nu (a':=.cB [rows (L.filter (fF f)),bool true]) (Fv rfl fun i a a' h1 h2=>?_) (.done h))
   match i with
   | 0=>simp at h1 h2;subst h1;subst h2;exact htok.W
   | 1=>simp at h1 h2;subst h1;subst h2;exact .refl _
   | i+2=>simp at h1
end Go.Proofs.YtelgggdkahhhfaaGreatDoor
namespace Go.Proofs.YtelgggdkahhhfaaGreatDoor
open Go.aZ Go.Conc
set_option maxHeartbeats 1000000
set_option maxRecDepth 4000
theorem Cb {l:List (List Int)} (h:l≠[]):∃ w,l.foldl cy none=some w∧w∈l:=by
 have key:∀ (l:List (List Int)) (v:List Int),∃ w,l.foldl cy (some v)=some w∧(w=v∨w∈l):=fun l=>by
  induction l with
  | nil=>intro v;exact⟨v,rfl,.inl rfl⟩
  | cons a l ih=>
    intro v;rw[List.foldl_cons]
    by_cases q:au a<au v
    . rw[show cy (some v) a=some a by simp[cy,q]]
      obtain⟨w,h1,h2⟩:=ih a;exact⟨w,h1,.inr (by rcases h2 with rfl|h2 <;> simp[*])⟩
    . rw[show cy (some v) a=some v by simp[cy,q]]
      obtain⟨w,h1,h2⟩:=ih v;exact⟨w,h1,by rcases h2 with rfl|h2 <;> simp[*]⟩
 cases l with
 | nil=>exact absurd rfl h
 | cons a l=>
   obtain⟨w,h1,h2⟩:=key l a;exact⟨w,h1,by rcases h2 with rfl|h2 <;> simp[*]⟩
end Go.Proofs.YtelgggdkahhhfaaGreatDoor
namespace Go.Proofs.YtelgggdkahhhfaaGreatDoor
open Go.aZ Go.Conc
set_option maxHeartbeats 2000000
set_option maxRecDepth 4000
variable {m:Mo} {σ:aa} {KF:cV->aa->Prop}
theorem y7 {L:List (List Int)} {w v:List Int} (hL:0<L.length) (h1:L.foldl cy none=some w) (h2:L.foldl cy (some L[0])=some v):w=v:=by
 cases L with
 | nil=>simp at hL
 | cons a r=>
   rw[List.foldl_cons] at h1 h2;have:cy (some a) a=some a:=by simp[cy]
   rw[show (a :: r)[0]=a from rfl,this] at h2
   rw[show cy none a=some a from rfl,h2] at h1
   exact (Option.some.inj h1).symm
theorem sP (hs:m.solo=true) {nums:List Int} (hn:nums.length<1152921504606846976) (h:KF (.val (bool true)) σ):rP Tryz.prog lay m 4 [ints nums] σ KF:=by
 refine rP.start lay [] OE 1 Tryz.func4 rfl rfl (by rfl) (by kernel_rfl) ?_
 simp[Tryz.f4];refine ap Tryz.func9 rfl rfl (B3 fun c σ1 hc hb hsame=>?_)
 refine ab.run lay [] ?_;simp;refine ap Tryz.func10 rfl rfl (B4 (by omega) hn ⟨by omega,by omega⟩ hb fun f σ2 hf hd=>?_)
 refine ab.run lay [] ?_;simp;refine dL.intro fun d hd3=>?_
 have hfit:=hf.fits (by omega)
 have hchk:=hf.check (by omega)
 have hg:=Fr.sM hfit hchk;have h5:=hf.len;simp
 have hle:σ.Le (((σ2.set d (.cells (eS f))).del d)):=fun y x hy=>by
  have y1:y≠c:=fun e=>by subst e;rw[hc] at hy;cases hy
  have y0:σ2 y=some x:=by rw[hd.2 y y1,hsame y y1];exact hy
  have y2:y≠d:=fun e=>by subst e;rw[hd3] at y0;cases y0
  simp only[aa.del,y2,if_false,aa.ak _ _ y2];exact y0
 have h6:=hg.vt;have hm6:=hg.most;have hlen:=Ac hg []
 by_cases hway:az f []=[]
 . refine ap Tryz.func17 rfl rfl (xI hs hfit hchk hway ?_)
   refine ab.eP 3 (b:=d) (bg f) (by simp) (by simp) rfl ?_
   refine ab.weaken (σ:=σ) ?_ hle;refine ab.run lay [] ?_;simp;refine ap Tryz.func18 rfl rfl (xJ hfit hchk ?_);rw[hway];refine ab.run lay [] ?_;simp;refine ap Tryz.func16 rfl rfl (ua hs ?_);refine ab.run lay [] ?_;simp;exact .done h
 . obtain ⟨w, hw, hwmem⟩:=Cb hway
   refine ap Tryz.func17 rfl rfl (t6 hs hfit hchk hw (by omega) ?_)
   refine ab.eP 3 (b:=d) (bg f) (by simp) (by simp) rfl ?_
   refine ab.weaken (σ:=σ) ?_ hle;refine ab.run lay [] ?_;simp;refine ap Tryz.func18 rfl rfl (xJ hfit hchk ?_);have hwl:∀ w∈az f [],w.length=f.aB.length:=fun w hw=>by have:=l8 f [] _ _ _ _ w hw;simpa using this
   have hwm:∀ w∈az f [],∀ x∈w,0≤x∧x<f.most:=fun w hw=>pg f [] _ _ _ _ (by simp) w hw
   obtain⟨L,hL⟩:∃ L,L=az f []:=⟨_,rfl⟩;rw[← hL] at hwl hwm hlen hw hwmem hway ⊢
   have hpos:0<L.length:=by
    cases L with
    | nil=>exact absurd rfl hway
    | cons a r=>simp
   have hp0:((L.length:Int) == 0)=false:=by rw[beq_eq_false_iff_ne];omega
   refine ab.run lay [] ?_;simp[hp0];refine ab.loop L.length (fun i s => ∃ env b,s=⟨env,σ,[],.no⟩∧env 4=ints w∧env 5=int (au w)∧env 6=int 0∧env 7=rows L∧env 9=int ((b:Nat):Int)∧env 10=int i∧∃ hb:b<L.length,(L.take i).foldl cy (some L[0])=some L[b]) ⟨_,0,rfl,by simp,by simp,by simp,by simp,by simp,by simp,hpos,by simp⟩ ?_
   rintro c0 i _ hi ⟨env,b,rfl,e4,e5,e6,e7,e9,ew,hbl,hfold⟩ ih
   have hbl':(b:Int)<L.length:=by omega
   rcases Nat.lt_or_ge i L.length with g1|g1
   . have g1':(i:Int)<L.length:=by omega
     have f1 : -9223372036854775808≤(i:Int)+1∧(i:Int)+1≤9223372036854775807:=by omega
     have hnext:(L.take (i+1)).foldl cy (some L[0])=if au L[i]<au L[b] then some L[i] else some L[b]:=by
      rw[List.take_succ_eq_append_getElem g1,List.foldl_append,hfold];rfl
     refine ab.run lay [] ?_;simp[e4,e5,e6,e7,e9,ew,g1,hbl]
     repeat' (first
               | apply And.intro
               | (refine ap Tryz.func19 rfl rfl (vJ (by rw[hwl _ (List.getElem_mem _)];omega) (fun x hx=>by have:=hwm _ (List.getElem_mem _) x hx;omega) ?_)
                  refine bk.go lay [] ?_;simp[e4,e5,e6,e7,e9,ew,g1,hbl]))
     all_goals (
      by_cases q:au L[i]<au L[b]
      . rw[if_pos q] at hnext
        simp[aF,q];refine ab.run lay [] ?_;simp[ew,f1.1,f1.2];exact ih _ g1 ⟨_,i,rfl,by simp[e4],by simp[e5],by simp[e6],by simp[e7],by simp,by simp,g1,hnext⟩
      . rw[if_neg q] at hnext
        simp[aF,q];refine ab.run lay [] ?_;simp[ew,f1.1,f1.2];exact ih _ g1 ⟨_,b,rfl,by simp[e4],by simp[e5],by simp[e6],by simp[e7],by simp[e9],by simp,hbl,hnext⟩)
   . have hie:i=L.length:=by omega
     subst hie;rw[List.take_length] at hfold;have hwb:=y7 hpos hw hfold;refine ab.run lay [] ?_;simp[e4,e5,e6,e7,e9,ew,hbl];refine ap Tryz.func19 rfl rfl (vJ (by rw[hwl _ (List.getElem_mem _)];omega) (fun x hx=>by have:=hwm _ (List.getElem_mem _) x hx;omega) ?_)
     rw[← hwb];refine ab.run lay [] ?_;simp[e4,e5,e6,e7,e9,ew,hbl];rw[← hwb];refine ap Tryz.func20 rfl rfl (jG (by rw[hwl _ hwmem];omega) (by rw[hwl _ hwmem];omega) ?_)
     refine ab.run lay [] ?_;simp[e4,e5,e6,e7,e9,ew];refine ap Tryz.func16 rfl rfl (ua hs ?_);refine ab.run lay [] ?_;simp[e4,e5,e6,e7,e9,ew];exact .done h
end Go.Proofs.YtelgggdkahhhfaaGreatDoor

/- Part 33 of the proof. -/
import Derived.Test.YtibjfmfdjncniaaGreatDoorC32
set_option linter.all false
namespace Go.Proofs.YtibjfmfdjncniaaGreatDoor
open Go.Pal Go.Conc
set_option maxHeartbeats 1000000
set_option maxRecDepth 4000
theorem flat_le {α β:Type} {B:Nat} {g:α->List β}:∀ (l:List α),(∀ x∈l,(g x).length≤B)->(l.flatMap g).length≤l.length*B
  | [],_=>by simp
  | a :: l,h=>by
    rw[List.flatMap_cons,List.length_append,List.length_cons,Nat.add_mul,Nat.one_mul];have h1:=h a (by simp)
    have h2:=flat_le l fun x hx=>h x (by simp[hx])
    omega
theorem growL_le {f:Fr} (hg:f.Good) (begun:List Int):∀ (fuel:Nat) (way:List Int) (many:Int) (hs:List Int),(growL f begun fuel way many hs).length≤6 ^ fuel
  | 0,_,_,_=>by simp[growL]
  | fuel+1,way,many,hs=>by
    unfold growL;refine Nat.le_trans (flat_le (B:=6 ^ fuel) _ fun k _=>?_) ?_
    . split
      . simp
      split
      . exact growL_le hg begun fuel _ _ _
      . simp
    . rw[List.length_range,Nat.pow_succ,Nat.mul_comm]
      have:=hg.most;exact Nat.mul_le_mul_left _ (by omega)
theorem ways_le {f:Fr} (hg:f.Good) (begun:List Int):(waysOf f begun).length≤46656:=by
  refine Nat.le_trans (growL_le hg begun _ _ _ _) ?_;exact Nat.pow_le_pow_right (by omega) hg.six
def extL (n:Nat):Nat->Nat->List Int->List (List Int)
  | 0,_,out=>[out]
  | more+1,frm,out=>(List.range' frm (n-frm)).flatMap fun x:Nat=>extL n more (x+1) (out ++ [(x:Int)])
theorem growW_ext (f:Fr):∀ (more frm:Nat) (out:List Int),growW f more frm out=(extL f.ents.length more frm out).find? fun l=>decide (waysOf (withoutF f l) []≠[])
  | 0,frm,out=>by
    unfold growW extL
    by_cases h:waysOf (withoutF f out) []=[] <;> simp[h]
  | more+1,frm,out=>by
    unfold growW extL;rw[List.find?_flatMap];congr 1
    funext x
    exact growW_ext f more (x+1) _
theorem ext_nil (n:Nat):∀ (more frm:Nat) (out:List Int),0<more->n<frm+more->extL n more frm out=[]
  | more+1,frm,out,_,h=>by
    unfold extL;rw[List.flatMap_eq_nil_iff];intro x hx;obtain⟨h1,h2⟩:=List.mem_range'_1.1 hx;cases more with
    | zero=>omega
    | succ more=>exact ext_nil n (more+1) (x+1) _ (by omega) (by omega)
theorem ext_full (n:Nat):∀ (more frm:Nat) (out:List Int),frm+more≤n->out ++ (List.range' frm more).map (fun x:Nat=>(x:Int))∈extL n more frm out
  | 0,frm,out,_=>by simp[extL]
  | more+1,frm,out,h=>by
    unfold extL;refine List.mem_flatMap.2 ⟨frm,List.mem_range'_1.2 (by omega),?_⟩
    have:=ext_full n more (frm+1) (out ++ [(frm:Int)]) (by omega)
    rw[List.range'_succ,List.map_cons];simpa using this
theorem flat_range {β:Type} {G:Nat->List β} {c:Nat}:∀ d:Nat,(∀ j,c≤j->j<c+d->G j=[])->(List.range (c+d)).flatMap G=(List.range c).flatMap G
  | 0,_=>rfl
  | d+1,h=>by
    rw[← Nat.add_assoc,List.range_succ,List.flatMap_append,flat_range d fun j h1 h2=>h j h1 (by omega)]
    simp[h (c+d) (by omega) (by omega)]
theorem flat_same {α β:Type} {f g:α->List β} {l:List α} (h:∀ x∈l,f x=g x):l.flatMap f=l.flatMap g:=by
  rw[List.flatMap_def,List.flatMap_def,List.map_congr_left h]
theorem row_ext {n k i:Nat} {l:List Int} (hk:k≤n) (hi:i<k) (hA:Asc n i l):extL n (k-i) (lowOf i l).toNat l=(growRow n k i l).flatMap fun l'=>extL n (k-(i+1)) (lowOf (i+1) l').toNat l':=by
  obtain⟨more,hm⟩:∃ more,k-i=more+1:=⟨k-i-1,by omega⟩
  have hm':k-(i+1)=more:=by omega
  have hlen:=hA.len
  have hlow:0≤lowOf i l∧lowOf i l≤n:=by
    unfold lowOf;split
    . omega
    . next h0=>
      have hlt:i-1<l.length:=by omega
      have hmem:l.getD (i-1) 0∈l:=by rw[List.getD_eq_getElem?_getD,List.getElem?_eq_getElem hlt];exact List.getElem_mem hlt
      have:=hA.mem _ hmem;omega
  obtain⟨lo,hlo⟩:∃ lo:Nat,lowOf i l=(lo:Int):=⟨(lowOf i l).toNat,by omega⟩
  unfold growRow upTo;rw[hm,hm',hlo,Int.toNat_natCast];rw[hlo] at hlow;obtain⟨cnt,hcnt⟩:∃ cnt:Nat,((n:Int)-k+i+1-lo).toNat=cnt:=⟨_,rfl⟩;rw[hcnt,List.map_map,List.flatMap_map,show extL n (more+1) lo l=(List.range' lo (n-lo)).flatMap fun x:Nat=>extL n more (x+1) (l ++ [(x:Int)]) from rfl]
  rw[List.range'_eq_map_range,List.flatMap_map];obtain⟨d,hd⟩:∃ d,n-lo=cnt+d:=⟨n-lo-cnt,by omega⟩
  rw[hd,flat_range d fun j h1 h2=>?_]
  . refine flat_same fun j hj=>?_
    have:lowOf (i+1) (l ++ [(lo:Int)+(j:Int)])=(lo:Int)+j+1:=by
      unfold lowOf;rw[if_neg (by omega),List.getD_eq_getElem?_getD,List.getElem?_append_right (by omega)]
      simp[hlen]
    simp only[Function.comp];rw[this,show ((lo:Int)+j+1).toNat=lo+j+1 by omega,show ((lo+j:Nat):Int)=(lo:Int)+j by omega]
  . cases more with
    | zero=>omega
    | succ more=>exact ext_nil n (more+1) _ _ (by omega) (by omega)
theorem chosen_ext {n k:Nat} (hk:k≤n):∀ i:Nat,i≤k->extL n k 0 []=(chosenN n k i).flatMap fun l=>extL n (k-i) (lowOf i l).toNat l
  | 0,_=>by simp[chosenN,lowOf]
  | i+1,hi=>by
    rw[chosen_ext hk i (by omega),chosenN,List.flatMap_assoc]
    exact flat_same fun l hl=>row_ext hk (by omega) (chosenN_asc i (by omega) l hl)
theorem chosenL_ext {n k:Nat} (hk:k≤n):chosenL n k=extL n k 0 []:=by
  rw[chosen_ext hk k (Nat.le_refl _)];unfold chosenL;simp[extL]
abbrev wrongP (f:Fr) (l:List Int):Bool:=decide (waysOf (withoutF f l) []≠[])
theorem wrong_find (f:Fr):wrongOf f=(List.range' 0 (f.ents.length+1)).findSome? fun many=>(chosenL f.ents.length many).find? (wrongP f):=by
  unfold wrongOf
  have:∀ (l:List Nat),(∀ x∈l,x≤f.ents.length)->(l.findSome? fun many=>growW f many 0 [])=l.findSome? fun many=>(chosenL f.ents.length many).find? (wrongP f):=fun l=>by
    induction l with
    | nil=>intro _;rfl
    | cons a l ih=>
      intro h;rw[List.findSome?_cons,List.findSome?_cons,growW_ext,chosenL_ext (h a (by simp)),ih fun x hx=>h x (by simp[hx])]
  exact this _ fun x hx=>by have:=List.mem_range'_1.1 hx;omega
theorem left_all (l:List Ent):leftE l ((List.range' 0 l.length).map fun x:Nat=>(x:Int))=[]:=by
  unfold leftE;rw[List.map_eq_nil_iff,List.filter_eq_nil_iff]
  rintro⟨e,i⟩ he
  have:=List.mem_zipIdx he;have hm:(i:Int)∈(List.range' 0 l.length).map (fun x:Nat=>(x:Int)):=List.mem_map.2 ⟨i,List.mem_range'_1.2 (by omega),rfl⟩
  simp only[hm];simp
theorem wrong_some (f:Fr):∃ w,wrongOf f=some w:=by
  cases h:wrongOf f with
  | some w=>exact⟨w,rfl⟩
  | none=>
    rw[wrong_find,List.findSome?_eq_none_iff] at h;have h1:=h f.ents.length (List.mem_range'_1.2 (by omega))
    rw[List.find?_eq_none] at h1;have h2:=ext_full f.ents.length f.ents.length 0 [] (by omega)
    rw[← chosenL_ext (Nat.le_refl _)] at h2;refine absurd ?_ (h1 _ h2);simp only[List.nil_append];unfold wrongP withoutF;rw[left_all];simp[waysOf,growL]
def shiftE (d:Int) (e:Ent):Ent:={ e with hour:=e.hour+d }
def shiftF (f:Fr) (d:Int):Fr:={ f with ents:=f.ents.map (shiftE d) }
theorem shift_len (f:Fr) (d:Int):(shiftF f d).ents.length=f.ents.length:=by simp[shiftF]
theorem shift_ent {f:Fr} {d n:Int} (h:0≤n∧n<f.ents.length):entN (shiftF f d) n=shiftE d (entN f n):=by
  have h1:n.toNat<f.ents.length:=by omega
  simp[entN,shiftF,List.getD_eq_getElem?_getD,h1]
theorem shift_tells (f:Fr) (d:Int) (e:Ent):tells (shiftF f d) (shiftE d e)=tells f e:=rfl
theorem insR_same {lt lt':Int->Int->Bool} {x:Int}:∀ {r:List Int},(∀ y∈r,lt x y=lt' x y)->insR lt x r=insR lt' x r
  | [],_=>rfl
  | y :: r,h=>by
    unfold insR;rw[h y (by simp),insR_same fun z hz=>h z (by simp[hz])]
theorem insR_in (lt:Int->Int->Bool) (x:Int):∀ {r:List Int} {z:Int},z∈insR lt x r->z=x∨z∈r
  | [],z,h=>by simp[insR] at h;exact .inl h
  | y :: r,z,h=>by
    unfold insR at h;split at h
    . rcases List.mem_cons.1 h with rfl|h
      . exact .inr (by simp)
      . rcases insR_in lt x h with h|h
        . exact .inl h
        . exact .inr (by simp[h])
    . rcases List.mem_cons.1 h with rfl|h
      . exact .inl rfl
      . exact .inr h
theorem sortR_same {lt lt':Int->Int->Bool} {In:Int->Prop} (hlt:∀ x y,In x->In y->lt x y=lt' x y) {l:List Int} (hl:∀ x∈l,In x):sortR lt l=sortR lt' l:=by
  have key:∀ (l r:List Int),(∀ x∈l,In x)->(∀ x∈r,In x)->l.foldl (fun r x=>insR lt x r) r=l.foldl (fun r x=>insR lt' x r) r:=fun l=>by
    induction l with
    | nil=>intro r _ _;rfl
    | cons a l ih=>
      intro r h1 h2;rw[List.foldl_cons,List.foldl_cons,insR_same fun y hy=>hlt a y (h1 a (by simp)) (h2 y hy)]
      refine ih _ (fun x hx=>h1 x (by simp[hx])) fun x hx=>?_
      rcases insR_in lt' a hx with rfl|hx
      . exact h1 x (by simp)
      . exact h2 x hx
  exact key l [] hl (by simp)
theorem shift_sort {f:Fr} {d:Int} {l:List Int} (hl:∀ n∈l,0≤n∧n<f.ents.length):hourSort (shiftF f d) l=hourSort f l:=by
  rw[hourSort_eq,hourSort_eq];congr 1;refine sortR_same (In:=fun n=>0≤n∧n<f.ents.length) (fun x y hx hy=>?_) hl
  show decide ((entN (shiftF f d) x).hour<(entN (shiftF f d) y).hour)=decide ((entN f x).hour<(entN f y).hour);rw[shift_ent hx,shift_ent hy];simp only[shiftE];exact decide_eq_decide.2 (by omega)
theorem shift_far {f:Fr} {d x y:Int} (hx:0≤x∧x<f.ents.length) (hy:0≤y∧y<f.ents.length):tooFar (shiftF f d) x y=tooFar f x y:=by
  unfold tooFar;rw[shift_ent hx,shift_ent hy];simp only[shiftE,shiftF];exact decide_eq_decide.2 (by omega)
theorem shift_hours {f:Fr} {d:Int}:∀ {l:List Int},(∀ n∈l,0≤n∧n<f.ents.length)->hoursBreaks (shiftF f d) l=hoursBreaks f l
  | [],_=>rfl
  | [a],_=>rfl
  | a :: b :: r,h=>by
    rw[hours_cons,hours_cons,shift_far (h a (by simp)) (h b (by simp)),shift_hours fun n hn=>h n (by simp[hn])]
theorem shift_due {f:Fr} {d:Int} {l:List Int} (hl:∀ n∈l,0≤n∧n<f.ents.length):heightsOf (shiftF f d) l=heightsOf f l:=by
  unfold heightsOf;have:l.map (fun i=>tells (shiftF f d) (entN (shiftF f d) i))=l.map fun i=>tells f (entN f i):=List.map_congr_left fun i hi=>by rw[shift_ent (hl i hi),shift_tells]
  rw[this]
theorem shift_why {f:Fr} {d:Int} {l:List Int} (hl:∀ n∈l,0≤n∧n<f.ents.length):whyN (shiftF f d) l=whyN f l:=by
  have hs:∀ n∈hourSort f l,0≤n∧n<f.ents.length:=fun n hn=>hl n (hourSort_mem.1 hn)
  unfold whyN;rw[shift_sort hl];generalize hourSort f l=S at hs
  have h1:coatBreaks (shiftF f d) S=coatBreaks f S:=by
    unfold coatBreaks;cases S with
    | nil=>rfl
    | cons a r=>
      rw[Bool.eq_iff_iff,List.any_eq_true,List.any_eq_true]
      have ha:(entN (shiftF f d) ((a :: r).getD 0 0)).coat=(entN f ((a :: r).getD 0 0)).coat:=by
        rw[show (a :: r).getD 0 0=a from rfl,shift_ent (hs a (by simp))];rfl
      rw[ha];constructor
      . rintro⟨x,hx,hq⟩
        refine⟨x,hx,?_⟩;rw[shift_ent (hs x hx)] at hq;exact hq
      . rintro⟨x,hx,hq⟩
        refine⟨x,hx,?_⟩;rw[shift_ent (hs x hx)];exact hq
  have h2:heightBreaks (shiftF f d) S=heightBreaks f S:=by unfold heightBreaks;rw[shift_due hs]
  rw[h1,h2,shift_hours hs]
theorem shift_grow {f:Fr} {d:Int} (hg:f.Good) (begun:List Int):∀ (fuel:Nat) (way:List Int) (many:Int) (hs:List Int),way.length+fuel=f.ents.length->Hs f way.length hs->growL (shiftF f d) begun fuel way many hs=growL f begun fuel way many hs
  | 0,_,_,_,_,_=>rfl
  | fuel+1,way,many,hs,hn,h=>by
    unfold growL;refine flat_same fun k hk=>?_
    have hk6:k<hs.length:=by
      have hk:=List.mem_range.1 hk;have h6:=h.six;have hm:(shiftF f d).most≤6:=hg.most.2;omega
    have hget:hs.getD k 0=hs[k]:=by simp[List.getD_eq_getElem?_getD,hk6]
    have hin:=h.inF (by omega) hg.six hk6
    have hcan:canOf (shiftF f d) (setBit (hs.getD k 0) way.length)=canOf f (setBit (hs.getD k 0) way.length):=by
      unfold canOf;rw[hget,shift_why hin.mem]
    rw[hcan];split
    . rfl
    split
    . refine shift_grow hg begun fuel _ _ _ (by simp;omega) ?_
      rw[hget,List.length_append];exact h.set (by have:=hg.six;omega) hk6
    . rfl
theorem shift_ways {f:Fr} {d:Int} (hg:f.Good) (begun:List Int):waysOf (shiftF f d) begun=waysOf f begun:=by
  unfold waysOf;rw[shift_len];exact shift_grow hg begun _ _ _ _ (by simp) (hs0 f)
theorem shift_count {f:Fr} {d:Int} (hg:f.Good):countOf (shiftF f d)=countOf f:=by
  unfold countOf;rw[shift_len,shift_ways hg,shift_ways hg]
theorem left_map (g:Ent->Ent) (l:List Ent) (out:List Int):leftE (l.map g) out=(leftE l out).map g:=by
  unfold leftE;rw[List.zipIdx_map,List.filter_map,List.map_map,List.map_map];rfl
theorem shift_without (f:Fr) (d:Int) (out:List Int):withoutF (shiftF f d) out=shiftF (withoutF f out) d:=by
  unfold withoutF shiftF;simp only[left_map]
theorem shift_wrong {f:Fr} {d:Int} (hg:f.Good):wrongOf (shiftF f d)=wrongOf f:=by
  rw[wrong_find,wrong_find,shift_len];congr 1
  funext many
  congr 1
  funext l
  unfold wrongP;rw[shift_without,shift_ways (withoutF_good hg l)]
theorem Fr.Good.chk {f:Fr} (h:f.Good):check f=0:=by
  have h1:=h.fr;have h2:=h.to;have h3:=h.le;have h4:=h.dye;have h5:=h.most;have h6:=h.six;have e1:(isIn f.sfrom 0 3 && isIn f.sto 0 3)=true:=by simp[isIn];omega
  have e2:(isIn f.dye 1 6 && isIn f.most 1 6)=true:=by simp[isIn];omega
  unfold Go.Proofs.YtibjfmfdjncniaaGreatDoor.check;rw[if_neg (by simp[h.rds]),e1,if_neg (by simp),if_neg (by omega),e2,if_neg (by simp),if_neg (by omega)]
  exact firstBad_all h.ent
theorem shift_good {f:Fr} {d:Int} (hg:f.Good) (hd:0≤d) (hh:∀ e∈f.ents,e.hour+d≤72):(shiftF f d).Good:=by
  refine⟨⟨by rw[shift_len];exact hg.fits.ents,hg.fits.roads,hg.fits.row,fun e he=>?_⟩,hg.fr,hg.to,hg.le,hg.dye,hg.most,by rw[shift_len];exact hg.six,fun e he=>?_,hg.rds⟩
  . obtain⟨x,hx,rfl⟩:=List.mem_map.1 he
    exact hg.fits.marks x hx
  . obtain⟨x,hx,rfl⟩:=List.mem_map.1 he
    have h0:=hg.ent x hx;have h1:=hh x hx;unfold checkEntry at h0 ⊢
    have e1:isIn x.hour 0 72=true:=by
      cases q:isIn x.hour 0 72 with
      | true=>rfl
      | false=>rw[q] at h0;simp at h0
    have e2:isIn (shiftE d x).hour 0 72=true:=by
      have g:0≤x.hour∧x.hour≤72:=by simpa[isIn] using e1
      have g2:0≤x.hour+d∧x.hour+d≤72:=by omega
      show isIn (x.hour+d) 0 72=true;simp[isIn,g2.1,g2.2]
    rw[e1] at h0;rw[e2];exact h0
end Go.Proofs.YtibjfmfdjncniaaGreatDoor
namespace Go.Proofs.YtibjfmfdjncniaaGreatDoor
open Go.Pal Go.Conc
set_option maxHeartbeats 2000000
set_option maxRecDepth 4000
theorem thawCell {P:Program} {m:Mo} {fid n:Nat} {ro:Option Nat} {hold:List Entry} {K:Pal.Exit->St->Prop} {todo:List Item} {env:Env} {σ0 σ:Store} {D:List ADef} {rc:Rec} {kk d:Nat} {a:AV} {r es:List AV} (hd:ownBlk a≠some d) (h0d:σ0 d=none) (h:OwnTok σ0 σ a kk es) (hc:σ d=some (.cells (a :: r)))
    (hR:∀ a2 σ',σ' d=some (.cells (a2 :: r))->(a2 = .sl kk es .any∨(es=[]∧(a2 = .lit (.slice none 0 0)∨a2 = .sl kk [] .exact)))->a2.W (.sl kk es .any)->a2.cells=[a2]∧a2.flat=true->σ0.Le σ'->Resume P m fid n ro hold todo ⟨env,σ',D,rc⟩ K):Resume P m fid n ro hold todo ⟨env,σ,D,rc⟩ K:=by
  rcases h.2 with ⟨rfl,e|e⟩|⟨b,cap,rest,e,h0,h1,h2,h3,h4⟩
  . exact hR a σ hc (.inr ⟨rfl,.inl e⟩) (by rw[e];exact W_nil kk) h.cells h.1
  . exact hR a σ hc (.inr ⟨rfl,.inr e⟩) (by rw[e];exact W_any kk [] .exact) h.cells h.1
  . subst e
    have hf:=flatten_length h2;have hbd:d≠b:=fun q=>hd (by rw[q];rfl)
    refine Resume.freeze b _ h3 (fun u => .refl _) (σ':=(σ.del b).set d (.cells (.sl kk es .any :: r))) (fun y x hy=>?_) (hR (.sl kk es .any) _ (Store.set_same _ _ _) (.inl rfl) (.refl _) ⟨rfl,rfl⟩ fun c y hcy=>?_)
    . by_cases e:y=d
      . subst e
        rw[Store.set_same] at hy;cases hy;refine⟨hbd,.inr ⟨_,_,hc,rfl,by simp,fun j x x' g1 g2=>?_⟩⟩
        cases j with
        | zero=>
          simp at g1 g2;subst g1;subst g2;refine .sl 0 cap kk es .any h1 ?_ h2 (fun j x hx=>?_) (.inl rfl)
          . have:cap*kk=es.length*kk+(cap-es.length)*kk:=by rw[← Nat.add_mul];congr 1;omega
            simp only[List.length_append,hf,h4];omega
          . rw[Nat.zero_add,List.getElem?_append_left (List.getElem?_eq_some_iff.1 hx).1];exact hx
        | succ j=>
          simp at g1 g2;rw[g1] at g2;cases g2;exact .refl _
      . rw[Store.set_ne _ _ e] at hy
        unfold Store.del at hy;split at hy
        . cases hy
        . next q=>exact⟨q,.inl hy⟩
    . have c1:c≠d:=fun q=>by rw[q,h0d] at hcy;cases hcy
      have c2:c≠b:=fun q=>by rw[q,h0] at hcy;cases hcy
      rw[Store.set_ne _ _ c1];simp only[Store.del,c2,if_false];exact h.1 c y hcy
theorem fold_some {l:List (List Int)} (h:l≠[]):∃ w,l.foldl lesser none=some w∧w∈l:=by
  have key:∀ (l:List (List Int)) (v:List Int),∃ w,l.foldl lesser (some v)=some w∧(w=v∨w∈l):=fun l=>by
    induction l with
    | nil=>intro v;exact⟨v,rfl,.inl rfl⟩
    | cons a l ih=>
      intro v;rw[List.foldl_cons]
      by_cases q:horsesOf a<horsesOf v
      . rw[show lesser (some v) a=some a by simp[lesser,q]]
        obtain⟨w,h1,h2⟩:=ih a;exact⟨w,h1,.inr (by rcases h2 with rfl|h2 <;> simp[*])⟩
      . rw[show lesser (some v) a=some v by simp[lesser,q]]
        obtain⟨w,h1,h2⟩:=ih v;exact⟨w,h1,by rcases h2 with rfl|h2 <;> simp[*]⟩
  cases l with
  | nil=>exact absurd rfl h
  | cons a l=>
    obtain⟨w,h1,h2⟩:=key l a;exact⟨w,h1,by rcases h2 with rfl|h2 <;> simp[*]⟩
theorem wrong_len {f:Fr} {w:List Int} (h:wrongOf f=some w):w.length≤f.ents.length:=by
  rw[wrong_find] at h;obtain⟨many,hm,hf⟩:=List.exists_of_findSome?_eq_some h;have:=(chosenL_asc (List.mem_of_find?_eq_some hf)).len;have:=List.mem_range'_1.1 hm;omega
theorem flat_set {k j:Nat}:∀ (es:List AV) (i:Nat) (hi:i<es.length),(∀ e∈es,e.cells.length=k)->j<k->∀ (v e':AV),e'.cells=es[i].cells.set j v->(flatten es).set (i*k+j) v=flatten (es.set i e')
  | e :: es,0,_,hk,hj,v,e',he=>by
    have hl:=hk e (by simp)
    rw[List.set_cons_zero,flatten_cons,flatten_cons,he,List.set_append_left _ _ (by omega)]
    simp
  | e :: es,i+1,hi,hk,hj,v,e',he=>by
    have hl:=hk e (by simp)
    rw[List.set_cons_succ,flatten_cons,flatten_cons,List.set_append_right _ _ (by rw[hl,Nat.add_mul];omega),← flat_set es i (by simpa using hi) (fun x hx=>hk x (by simp[hx])) hj v e' (by simpa using he)]
    congr 2;rw[hl,Nat.add_mul];omega
variable {m:Mo} {σ:Store} {KF:Res->Store->Prop}
namespace LT
abbrev pl4:List Entry:=[⟨7,.take [0,2,3,4,5,6,7,8,9,10] false (.one 1 (.take [11,12] false (.one 13 (.done))))⟩]
theorem MarkLater_ok (hs:m.solo=true) {nums:List Int} (hn:nums.length<1152921504606846976) (h:KF (.val (bool true)) σ):TopOK Tryz.prog lay m 4 [ints nums] σ KF:=by
  refine TopOK.start lay [] pl4 1 Tryz.func4 rfl rfl (by rfl) (by kernel_rfl) ?_
  simp[Tryz.f4];refine callFn Tryz.func6 rfl rfl (NewBag_ok fun c σ1 hc hb hsame=>?_)
  refine Resume.run lay [] ?_;simp;refine callFn Tryz.func5 rfl rfl (FairOf_ok (by omega) hn ⟨by omega,by omega⟩ hb fun f σ2 hf hd=>?_)
  refine Resume.run lay [] ?_;simp;refine newW.intro fun d hd3=>?_
  have hfit:=hf.fits (by omega)
  have hchk:=hf.check (by omega)
  have hg:=Fr.good hfit hchk;have h5:=hf.len;have h6:=hg.six;have hmk:∀ e∈f.ents,e.marks.length≤1000000000:=fun e he=>by have:=(sub_marks (hf.ent e he).marks).2;omega
  have hrd1:f.roads.length≤1000000:=by have:=hf.spots;omega
  have hrd2:∀ r∈f.roads,r.length≤1000000000:=fun r hr=>by
    obtain⟨lo,_,hk⟩:=hf.rds;have:=hk.row r hr;omega
  simp;refine callFn Tryz.func13 rfl rfl (OwnFair_own hg hmk hrd1 hrd2 fun a σ3 hta=>?_)
  have htc:=hta.cells;obtain⟨nb,zb,hnb,hcb⟩:=hd.1;have hdc:c≠d:=fun e=>by subst e;rw[hcb] at hd3;cases hd3
  have hb3:BagAt c nums (0+20+11*Int.toNat 5) σ3:=⟨nb,zb,hnb,hta.1 _ _ (by rw[Store.set_ne _ _ hdc];exact hcb)⟩
  refine Resume.run lay [] ?_;simp[htc.1,htc.2];refine callFn Tryz.func14 rfl rfl (UpTo_ok (by omega) hn ⟨by omega,by omega⟩ hb3 fun later σ4 hx hd4=>?_)
  refine Resume.run lay [] ?_;simp[htc.1,htc.2];refine newW.intro fun x hx5=>?_
  simp[htc.1,htc.2];have hs4d:σ4 d=some (.cells (fairL f)):=by rw[hd4.2 d (Ne.symm hdc)];exact hta.1 _ _ (Store.set_same _ _ _)
  have hdx:d≠x:=fun e=>by subst e;rw[hs4d] at hx5;cases hx5
  have hcy:∀ y v,σ y=some v->y≠c∧y≠d∧σ2 y=some v:=fun y v hy=>by
    have y1:y≠c:=fun e=>by subst e;rw[hc] at hy;cases hy
    have y0:σ2 y=some v:=by rw[hd.2 y y1,hsame y y1];exact hy
    exact⟨y1,(fun e=>by subst e;rw[hd3] at y0;cases y0),y0⟩
  have hxb:ownBlk a≠some x:=fun e=>by
    obtain⟨q1,l,q2⟩:=hta.blk_some e;have:x≠c:=fun e=>by subst e;rw[Store.set_ne _ _ hdc,hcb] at q1;cases q1
    rw[← hd4.2 x this,hx5] at q2;cases q2
  have hkeep:OwnTok σ ((σ4.set x (.cells [a,rows f.roads,int f.sfrom,int f.sto,int f.dye,int f.most])).del d) a 6 (f.ents.map entA):=hta.keep (fun y v hy=>by
    obtain⟨y1,y2,y3⟩:=hcy y v hy;have y4:σ4 y=some v:=by rw[hd4.2 y y1];exact hta.1 _ _ (by rw[Store.set_ne _ _ y2];exact y3)
    have y5:y≠x:=fun e=>by subst e;rw[hx5] at y4;cases y4
    simp only[Store.del,y2,if_false];rw[Store.set_ne _ _ y5];exact y4) (fun b hbb=>by
    obtain⟨q1,l,q2⟩:=hta.blk_some hbb;have b1:b≠d:=fun e=>by subst e;rw[Store.set_same] at q1;cases q1
    have b2:b≠c:=fun e=>by subst e;rw[Store.set_ne _ _ hdc,hcb] at q1;cases q1
    have b3:b≠x:=fun e=>hxb (e ▸ hbb)
    rw[Store.set_ne _ _ b1] at q1;refine⟨?_,?_⟩
    . simp only[Store.del,b1,if_false]
      rw[Store.set_ne _ _ b3,hd4.2 b b2]
    . rw[← hsame b b2,← hd.2 b b2];exact q1)
  refine Resume.freezeAt 4 (b:=d) (fairA f) (by rw[Store.set_ne _ _ hdx];exact hs4d) (by simp) rfl ?_
  have hq5:((σ4.set x (.cells [a,rows f.roads,int f.sfrom,int f.sto,int f.dye,int f.most])).del d) x=some (.cells [a,rows f.roads,int f.sfrom,int f.sto,int f.dye,int f.most]):=by
    simp only[Store.del,Ne.symm hdx,if_false];exact Store.set_same _ _ _
  have hσx:σ x=none:=by
    cases e:σ x with
    | none=>rfl
    | some v=>
      obtain⟨y1,y2,y3⟩:=hcy x v e;have:σ4 x=some v:=by rw[hd4.2 x y1];exact hta.1 _ _ (by rw[Store.set_ne _ _ y2];exact y3)
      rw[hx5] at this;cases this
  refine Resume.loop f.ents.length (fun i s => ∃ env σ',s=⟨env,σ',[],.no⟩∧env 4 = .cp (fairA f) 0∧env 5 = .ref x 0∧env 6=int later∧env 7=int i∧σ' x=some (.cells [a,rows f.roads,int f.sfrom,int f.sto,int f.dye,int f.most])∧OwnTok σ σ' a 6 (((f.ents.take i).map (shiftE later) ++ f.ents.drop i).map entA))
    ⟨_,_,rfl,by simp,by simp,by simp,by simp,hq5,by simpa using hkeep⟩ ?_
  clear hkeep hq5 hs4d hx5 hd4 hb3 hta
  rintro c0 i _ hi ⟨env,σ',rfl,e4,e5,e6,e7,q5,hto⟩ ih
  rcases Nat.lt_or_ge i f.ents.length with g1|g1
  . obtain⟨b,cap,rest,rfl,t1,t2,t3,t4,t5⟩:∃ b cap rest,a = .msl b 0 f.ents.length cap∧σ b=none∧f.ents.length≤cap∧(∀ e∈(((f.ents.take i).map (shiftE later) ++ f.ents.drop i).map entA),e.cells.length=6)∧σ' b=some (.cells (flatten (((f.ents.take i).map (shiftE later) ++ f.ents.drop i).map entA) ++ rest))∧rest.length=(cap-f.ents.length)*6:=by
      have hel:(((f.ents.take i).map (shiftE later) ++ f.ents.drop i).map entA).length=f.ents.length:=by rw[List.length_map,List.length_append,List.length_map,List.length_take,List.length_drop];omega
      rcases hto.2 with ⟨e,_⟩|⟨b,cap,rest,r1,r2,r3,r4,r5,r6⟩
      . have:=congrArg List.length e
        rw[hel,List.length_nil] at this;omega
      . rw[hel] at r1 r3 r6
        exact⟨b,cap,rest,r1,r2,r3,r4,r5,r6⟩
    have f1 : -9223372036854775808≤(i:Int)+1∧(i:Int)+1≤9223372036854775807:=by omega
    have hoi:=(hf.ent _ (List.getElem_mem g1)).hour;have f2 : -9223372036854775808≤f.ents[i].hour+later∧f.ents[i].hour+later≤9223372036854775807:=by omega
    obtain⟨CL,hCL⟩:∃ CL,CL=flatten (((f.ents.take i).map (shiftE later) ++ f.ents.drop i).map entA) ++ rest:=⟨_,rfl⟩;rw[← hCL] at t4;have hel:(((f.ents.take i).map (shiftE later) ++ f.ents.drop i).map entA).length=f.ents.length:=by rw[List.length_map,List.length_append,List.length_map,List.length_take,List.length_drop];omega
    have hCLl:i*6+1≤CL.length:=by
      have:=flatten_length t3;rw[hel] at this;rw[hCL,List.length_append,this];omega
    have hCLi:i*6<CL.length:=hCLl;refine Resume.run lay [] ?_;simp[e4,e5,e6,e7,q5,g1,f1.1,f1.2,f2.1,f2.2,t4,hCLl,hCLi]
    have hmix:(((f.ents.take i).map (shiftE later) ++ f.ents.drop i).map entA).set i (entA (shiftE later f.ents[i]))=((f.ents.take (i+1)).map (shiftE later) ++ f.ents.drop (i+1)).map entA:=by
      have hli:(List.map entA (List.map (shiftE later) (f.ents.take i))).length=i:=by rw[List.length_map,List.length_map,List.length_take];omega
      rw[List.drop_eq_getElem_cons g1,List.take_succ_eq_append_getElem g1,List.map_append,List.map_cons,List.map_append,List.map_append,List.map_append];rw[List.set_append_right _ _ (by omega),hli,Nat.sub_self,List.set_cons_zero]
      simp
    have hgi:(((f.ents.take i).map (shiftE later) ++ f.ents.drop i).map entA)[i]'(by rw[hel];exact g1)=entA f.ents[i]:=by
      have hli:(List.map (shiftE later) (f.ents.take i)).length=i:=by rw[List.length_map,List.length_take];omega
      have hmn:min i f.ents.length=i:=by omega
      rw[List.getElem_map,List.getElem_append_right (by omega)]
      simp[hli,hmn]
    have hset:CL.set (i*6) (AV.lit (.int .i64 (f.ents[i].hour+later)))=flatten (((f.ents.take (i+1)).map (shiftE later) ++ f.ents.drop (i+1)).map entA) ++ rest:=by
      have:=flatten_length t3;rw[hel] at this;rw[hCL,List.set_append_left _ _ (by rw[this];omega),← hmix]
      congr 1;exact flat_set (k:=6) (j:=0) _ i (by rw[hel];exact g1) t3 (by omega) _ _ (by rw[hgi];rfl)
    have hbx:b≠x:=fun e=>hxb (by rw[e];rfl)
    refine Resume.run lay [] ?_;simp[e7,f1.1,f1.2];refine ih _ g1 ⟨_,_,rfl,by simp[e4],by simp[e5],by simp[e6],by simp,by rw[Store.set_ne _ _ (Ne.symm hbx)];exact q5,⟨fun y v hy=>?_,.inr ⟨b,cap,rest,?_,t1,?_,fun e he=>?_,?_,?_⟩⟩⟩
    . have:y≠b:=fun e=>by subst e;rw[t1] at hy;cases hy
      rw[Store.set_ne _ _ this];exact hto.1 y v hy
    . congr 1
      rw[List.length_map,List.length_append,List.length_map,List.length_take,List.length_drop];omega
    . rw[List.length_map,List.length_append,List.length_map,List.length_take,List.length_drop];omega
    . obtain⟨y,_,rfl⟩:=List.mem_map.1 he
      rfl
    . rw[Store.set_same,hset]
    . rw[List.length_map,List.length_append,List.length_map,List.length_take,List.length_drop,t5]
      congr 2;omega
  . have hie:i=f.ents.length:=by omega
    subst hie;rw[List.take_length,List.drop_length,List.append_nil] at hto;refine thawCell hxb hσx hto q5 fun a2 σ5 q6 hsh hw2 hc2 hle5=>?_
    have hlen2:(a2 = .sl 6 (f.ents.map fun e=>entA (shiftE later e)) .any)∨(f.ents.length=0∧(a2 = .lit (.slice none 0 0)∨a2 = .sl 6 [] .exact)):=by
      rcases hsh with e|⟨e1,e2⟩
      . left;rw[e,List.map_map];rfl
      . right;exact⟨by simpa using e1,e2⟩
    have hgs:=shift_good hg (d:=later) hx.1 (fun e he=>by have:=(hf.ent e he).hour;omega)
    have hW:Wl [AV.agg [a2,rows f.roads,int f.sfrom,int f.sto,int f.dye,int f.most]] [fairA (shiftF f later)]:=.cons (W_aggE rfl fun i u v x1 x2=>by
      match i with
      | 0=>obtain rfl:=Option.some.inj x1;obtain rfl:=Option.some.inj x2;exact hw2
      | 1=>simp at x1 x2;subst x1;subst x2;exact .refl _
      | 2=>simp at x1 x2;subst x1;subst x2;exact .refl _
      | 3=>simp at x1 x2;subst x1;subst x2;exact .refl _
      | 4=>simp at x1 x2;subst x1;subst x2;exact .refl _
      | 5=>simp at x1 x2;subst x1;subst x2;exact .refl _
      | i+6=>simp at x1) .nil
    obtain⟨w,hw⟩:=wrong_some f;have hwl:=wrong_len hw;have hb1:=ways_le hg [0,0];have hb2:=ways_le hg [0,1];have hb0:=ways_le hg [];have hs1:=ways_le hgs [0,0];have hs2:=ways_le hgs [0,1];have hs0:=ways_le hgs []
    rcases hlen2 with rfl|⟨hz,rfl|rfl⟩
    . ((
        refine Resume.run lay [] ?_;simp[e4,e5,e6,e7,q6,hc2.1,hc2.2];refine callFn Tryz.func9 rfl rfl (Count_ok hs hfit hchk ⟨by omega,by omega⟩ ?_)
        refine Resume.run lay [] ?_;simp[e4,e5,e6,e7,q6,hc2.1,hc2.2];refine callFnW Tryz.func9 rfl rfl hW (Count_ok hs hgs.fits hgs.chk ⟨by omega,by omega⟩ ?_)
        rw[shift_count hg];refine Resume.run lay [] ?_;simp[e4,e5,e6,e7,q6,hc2.1,hc2.2]
        by_cases hway:waysOf f []=[]
        . refine callFn Tryz.func15 rfl rfl (Fewest_void hs hfit hchk hway ?_)
          refine Resume.run lay [] ?_;simp[e4,e5,e6,e7,q6,hc2.1,hc2.2];refine callFnW Tryz.func15 rfl rfl hW (Fewest_void hs hgs.fits hgs.chk (by rw[shift_ways hg];exact hway) ?_)
          refine Resume.run lay [] ?_;simp[e4,e5,e6,e7,q6,hc2.1,hc2.2];refine callFn Tryz.func7 rfl rfl (Wrong_ok hs hfit hchk hw ?_);refine Resume.run lay [] ?_;simp[e4,e5,e6,e7,q6,hc2.1,hc2.2];refine callFnW Tryz.func7 rfl rfl hW (Wrong_ok hs hgs.fits hgs.chk (by rw[shift_wrong hg];exact hw) ?_)
          refine Resume.run lay [] ?_;simp[e4,e5,e6,e7,q6,hc2.1,hc2.2];refine callFn Tryz.func11 rfl rfl (SameInts_ok (a:=[]) (b:=[]) (by simp) (by simp) ?_)
          refine Resume.run lay [] ?_;simp;refine callFn Tryz.func11 rfl rfl (SameInts_ok (by omega) (by omega) ?_)
          refine Resume.run lay [] ?_;simp;refine callFn Tryz.func12 rfl rfl (marked_ok hs ?_);refine Resume.run lay [] ?_;simp;exact .less hle5 (.done h)
        . obtain⟨fw,hfw,hfl⟩:=fold_some hway
          have hfl2:=growL_len f [] _ _ _ _ fw hfl;simp only[List.length_nil,Nat.zero_add] at hfl2;refine callFn Tryz.func15 rfl rfl (Fewest_ok hs hfit hchk hfw (by omega) ?_)
          refine Resume.run lay [] ?_;simp[e4,e5,e6,e7,q6,hc2.1,hc2.2];refine callFnW Tryz.func15 rfl rfl hW (Fewest_ok hs hgs.fits hgs.chk (by rw[shift_ways hg];exact hfw) (by omega) ?_)
          refine Resume.run lay [] ?_;simp[e4,e5,e6,e7,q6,hc2.1,hc2.2];refine callFn Tryz.func7 rfl rfl (Wrong_ok hs hfit hchk hw ?_);refine Resume.run lay [] ?_;simp[e4,e5,e6,e7,q6,hc2.1,hc2.2];refine callFnW Tryz.func7 rfl rfl hW (Wrong_ok hs hgs.fits hgs.chk (by rw[shift_wrong hg];exact hw) ?_)
          refine Resume.run lay [] ?_;simp[e4,e5,e6,e7,q6,hc2.1,hc2.2];refine callFn Tryz.func11 rfl rfl (SameInts_ok (by omega) (by omega) ?_)
          refine Resume.run lay [] ?_;simp;refine callFn Tryz.func11 rfl rfl (SameInts_ok (by omega) (by omega) ?_)
          refine Resume.run lay [] ?_;simp;refine callFn Tryz.func12 rfl rfl (marked_ok hs ?_);refine Resume.run lay [] ?_;simp;exact .less hle5 (.done h)))
    . rw [hz] at e7
      ((
        refine Resume.run lay [] ?_;simp[e4,e5,e6,e7,q6,hc2.1,hc2.2];refine callFn Tryz.func9 rfl rfl (Count_ok hs hfit hchk ⟨by omega,by omega⟩ ?_)
        refine Resume.run lay [] ?_;simp[e4,e5,e6,e7,q6,hc2.1,hc2.2];refine callFnW Tryz.func9 rfl rfl hW (Count_ok hs hgs.fits hgs.chk ⟨by omega,by omega⟩ ?_)
        rw[shift_count hg];refine Resume.run lay [] ?_;simp[e4,e5,e6,e7,q6,hc2.1,hc2.2]
        by_cases hway:waysOf f []=[]
        . refine callFn Tryz.func15 rfl rfl (Fewest_void hs hfit hchk hway ?_)
          refine Resume.run lay [] ?_;simp[e4,e5,e6,e7,q6,hc2.1,hc2.2];refine callFnW Tryz.func15 rfl rfl hW (Fewest_void hs hgs.fits hgs.chk (by rw[shift_ways hg];exact hway) ?_)
          refine Resume.run lay [] ?_;simp[e4,e5,e6,e7,q6,hc2.1,hc2.2];refine callFn Tryz.func7 rfl rfl (Wrong_ok hs hfit hchk hw ?_);refine Resume.run lay [] ?_;simp[e4,e5,e6,e7,q6,hc2.1,hc2.2];refine callFnW Tryz.func7 rfl rfl hW (Wrong_ok hs hgs.fits hgs.chk (by rw[shift_wrong hg];exact hw) ?_)
          refine Resume.run lay [] ?_;simp[e4,e5,e6,e7,q6,hc2.1,hc2.2];refine callFn Tryz.func11 rfl rfl (SameInts_ok (a:=[]) (b:=[]) (by simp) (by simp) ?_)
          refine Resume.run lay [] ?_;simp;refine callFn Tryz.func11 rfl rfl (SameInts_ok (by omega) (by omega) ?_)
          refine Resume.run lay [] ?_;simp;refine callFn Tryz.func12 rfl rfl (marked_ok hs ?_);refine Resume.run lay [] ?_;simp;exact .less hle5 (.done h)
        . obtain⟨fw,hfw,hfl⟩:=fold_some hway
          have hfl2:=growL_len f [] _ _ _ _ fw hfl;simp only[List.length_nil,Nat.zero_add] at hfl2;refine callFn Tryz.func15 rfl rfl (Fewest_ok hs hfit hchk hfw (by omega) ?_)
          refine Resume.run lay [] ?_;simp[e4,e5,e6,e7,q6,hc2.1,hc2.2];refine callFnW Tryz.func15 rfl rfl hW (Fewest_ok hs hgs.fits hgs.chk (by rw[shift_ways hg];exact hfw) (by omega) ?_)
          refine Resume.run lay [] ?_;simp[e4,e5,e6,e7,q6,hc2.1,hc2.2];refine callFn Tryz.func7 rfl rfl (Wrong_ok hs hfit hchk hw ?_);refine Resume.run lay [] ?_;simp[e4,e5,e6,e7,q6,hc2.1,hc2.2];refine callFnW Tryz.func7 rfl rfl hW (Wrong_ok hs hgs.fits hgs.chk (by rw[shift_wrong hg];exact hw) ?_)
          refine Resume.run lay [] ?_;simp[e4,e5,e6,e7,q6,hc2.1,hc2.2];refine callFn Tryz.func11 rfl rfl (SameInts_ok (by omega) (by omega) ?_)
          refine Resume.run lay [] ?_;simp;refine callFn Tryz.func11 rfl rfl (SameInts_ok (by omega) (by omega) ?_)
          refine Resume.run lay [] ?_;simp;refine callFn Tryz.func12 rfl rfl (marked_ok hs ?_);refine Resume.run lay [] ?_;simp;exact .less hle5 (.done h)))
    . rw [hz] at e7
      ((
        refine Resume.run lay [] ?_;simp[e4,e5,e6,e7,q6,hc2.1,hc2.2];refine callFn Tryz.func9 rfl rfl (Count_ok hs hfit hchk ⟨by omega,by omega⟩ ?_)
        refine Resume.run lay [] ?_;simp[e4,e5,e6,e7,q6,hc2.1,hc2.2];refine callFnW Tryz.func9 rfl rfl hW (Count_ok hs hgs.fits hgs.chk ⟨by omega,by omega⟩ ?_)
        rw[shift_count hg];refine Resume.run lay [] ?_;simp[e4,e5,e6,e7,q6,hc2.1,hc2.2]
        by_cases hway:waysOf f []=[]
        . refine callFn Tryz.func15 rfl rfl (Fewest_void hs hfit hchk hway ?_)
          refine Resume.run lay [] ?_;simp[e4,e5,e6,e7,q6,hc2.1,hc2.2];refine callFnW Tryz.func15 rfl rfl hW (Fewest_void hs hgs.fits hgs.chk (by rw[shift_ways hg];exact hway) ?_)
          refine Resume.run lay [] ?_;simp[e4,e5,e6,e7,q6,hc2.1,hc2.2];refine callFn Tryz.func7 rfl rfl (Wrong_ok hs hfit hchk hw ?_);refine Resume.run lay [] ?_;simp[e4,e5,e6,e7,q6,hc2.1,hc2.2];refine callFnW Tryz.func7 rfl rfl hW (Wrong_ok hs hgs.fits hgs.chk (by rw[shift_wrong hg];exact hw) ?_)
          refine Resume.run lay [] ?_;simp[e4,e5,e6,e7,q6,hc2.1,hc2.2];refine callFn Tryz.func11 rfl rfl (SameInts_ok (a:=[]) (b:=[]) (by simp) (by simp) ?_)
          refine Resume.run lay [] ?_;simp;refine callFn Tryz.func11 rfl rfl (SameInts_ok (by omega) (by omega) ?_)
          refine Resume.run lay [] ?_;simp;refine callFn Tryz.func12 rfl rfl (marked_ok hs ?_);refine Resume.run lay [] ?_;simp;exact .less hle5 (.done h)
        . obtain⟨fw,hfw,hfl⟩:=fold_some hway
          have hfl2:=growL_len f [] _ _ _ _ fw hfl;simp only[List.length_nil,Nat.zero_add] at hfl2;refine callFn Tryz.func15 rfl rfl (Fewest_ok hs hfit hchk hfw (by omega) ?_)
          refine Resume.run lay [] ?_;simp[e4,e5,e6,e7,q6,hc2.1,hc2.2];refine callFnW Tryz.func15 rfl rfl hW (Fewest_ok hs hgs.fits hgs.chk (by rw[shift_ways hg];exact hfw) (by omega) ?_)
          refine Resume.run lay [] ?_;simp[e4,e5,e6,e7,q6,hc2.1,hc2.2];refine callFn Tryz.func7 rfl rfl (Wrong_ok hs hfit hchk hw ?_);refine Resume.run lay [] ?_;simp[e4,e5,e6,e7,q6,hc2.1,hc2.2];refine callFnW Tryz.func7 rfl rfl hW (Wrong_ok hs hgs.fits hgs.chk (by rw[shift_wrong hg];exact hw) ?_)
          refine Resume.run lay [] ?_;simp[e4,e5,e6,e7,q6,hc2.1,hc2.2];refine callFn Tryz.func11 rfl rfl (SameInts_ok (by omega) (by omega) ?_)
          refine Resume.run lay [] ?_;simp;refine callFn Tryz.func11 rfl rfl (SameInts_ok (by omega) (by omega) ?_)
          refine Resume.run lay [] ?_;simp;refine callFn Tryz.func12 rfl rfl (marked_ok hs ?_);refine Resume.run lay [] ?_;simp;exact .less hle5 (.done h)))
end LT
end Go.Proofs.YtibjfmfdjncniaaGreatDoor

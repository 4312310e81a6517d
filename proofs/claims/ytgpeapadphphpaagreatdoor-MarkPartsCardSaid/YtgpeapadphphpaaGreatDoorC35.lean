/- Part 35 of the proof. -/
import Derived.Test.YtgpeapadphphpaaGreatDoorC34
set_option linter.all false
namespace Go.Proofs.YtgpeapadphphpaaGreatDoor
open Go.Pal Go.Conc
set_option maxHeartbeats 2000000
set_option maxRecDepth 4000
variable {m:Mo} {σ:Store} {KF:Res->Store->Prop}
theorem tells_ne {f:Fr} (hf:f.Good) (e:Ent):tells f e≠[]:=by
  unfold tells shoes;have:=hf.le
  by_cases h0:e.shod=0
  . simp [h0]
  . have hp:(f.sto-f.sfrom+1).toNat=(f.sto-f.sfrom).toNat+1:=by omega
    rw [if_pos h0,hp,List.range_succ_eq_map];split <;> simp
def dueOf (f:Fr) (l:List Int):List Int:=(tells f (entN f (l.getD 0 0))).filter fun h=>l.all fun j=>decide (h∈tells f (entN f j))
theorem due_heights {f:Fr} {l:List Int} (hl:l≠[]):heightsOf f l=dueOf f l:=by
  match l,hl with
  | a :: r,_=>
    simp only [heightsOf,dueOf,commonOf,List.map_cons,List.getD_cons_zero];refine List.filter_congr fun x hx=>?_
    simp [hx,List.all_eq_true]
theorem listErr_zero (f:Fr):∀ (l:List Int) (p:Option Int),(∀ x∈l,0≤x∧x<f.ents.length)->l.Pairwise (· < ·)->(∀ q,p=some q->∀ x∈l,q<x)->listErr f p l=0
  | [],_,_,_,_=>rfl
  | a :: l,p,h1,h2,h3=>by
    have ha:=h1 a (by simp)
    have h2':=List.pairwise_cons.1 h2
    have e1:isIn a 0 (f.ents.length-1)=true:=by
      simp [isIn,ha.1];omega
    have e2:notUp p a=false:=by
      cases p with
      | none=>rfl
      | some q=>
        have:=h3 q rfl a (by simp)
        simp [notUp];omega
    unfold listErr;rw [e1,if_neg (by simp),e2,if_neg (by simp)]
    exact listErr_zero f l (some a) (fun x hx=>h1 x (by simp [hx])) h2'.2 (fun q hq x hx=>by cases hq;exact h2'.1 x hx)
theorem Asc.pw {n:Int} {i:Nat} {l:List Int} (h:Asc n i l):l.Pairwise (· < ·):=by
  rw [List.pairwise_iff_getElem];intro a b ha hb hab;have:=h.asc a b hab (by rw [← h.len];exact hb)
  simpa [List.getD_eq_getElem?_getD,ha,hb] using this
theorem asc_lst {f:Fr} {n:Nat} {l:List Int} (h:Asc f.ents.length n l) (hn:1≤n∧n≤6):Lst f l:=by
  have hl:=h.len;refine ⟨?_,by omega⟩
  unfold lister;rw [if_neg (by omega)]
  exact listErr_zero f l none h.mem h.pw (fun q hq=>by cases hq)
theorem Chosen_ok' {n kI:Int} {kn:Nat} (e:kI=kn) (hn:0≤n∧n≤6) (hk:(kn:Int)≤n) (h:KF (.val (rows (chosenL n kn))) σ):FnOK Tryz.prog m 8 [int n,int kI] σ KF:=by
  subst e;exact Chosen_ok hn hk h
end Go.Proofs.YtgpeapadphphpaaGreatDoor
namespace Go.Proofs.YtgpeapadphphpaaGreatDoor
open Go.Pal Go.Conc
set_option maxHeartbeats 1000000
set_option maxRecDepth 4000
section
variable {k:Int->Int}
abbrev ltK (k:Int->Int):Int->Int->Bool:=fun a b=>decide (k a<k b)
def Dn (k:Int->Int) (r:List Int):Prop:=r.Pairwise fun y z=>k z≤k y
theorem insR_pre (x:Int):∀ {r:List Int},(∀ z∈r,k z≤k x)->insR (ltK k) x r=x :: r
  | [],_=>rfl
  | y :: r,h=>by
    unfold insR;rw [if_neg (by have:=h y (by simp);simp [ltK];omega)]
theorem insR_memK (x:Int):∀ {r:List Int} {z:Int},z∈insR (ltK k) x r->z=x∨z∈r
  | [],z,h=>by simp [insR] at h;exact .inl h
  | y :: r,z,h=>by
    unfold insR at h;split at h
    . rcases List.mem_cons.1 h with rfl|h
      . exact .inr (by simp)
      . rcases insR_memK x h with h|h
        . exact .inl h
        . exact .inr (by simp [h])
    . rcases List.mem_cons.1 h with rfl|h
      . exact .inl rfl
      . exact .inr h
theorem insR_dn (x:Int):∀ {r:List Int},Dn k r->Dn k (insR (ltK k) x r)
  | [],_=>by simp [insR,Dn]
  | y :: r,h=>by
    obtain ⟨h1,h2⟩:=List.pairwise_cons.1 h;unfold insR;split
    . next q=>
      have q':k x<k y:=by simpa [ltK] using q
      refine List.pairwise_cons.2 ⟨fun z hz=>?_,insR_dn x h2⟩
      rcases insR_memK x hz with rfl|hz
      . omega
      . exact h1 z hz
    . next q=>
      have q' : ¬ k x<k y:=by simpa [ltK] using q
      refine List.pairwise_cons.2 ⟨fun z hz=>?_,h⟩
      rcases List.mem_cons.1 hz with rfl|hz
      . omega
      . have:=h1 z hz;omega
theorem insR_lt {x y:Int} {r:List Int} (h:k x<k y):insR (ltK k) x (y :: r)=y :: insR (ltK k) x r:=by simp [insR,ltK,h]
theorem insR_ge {x y:Int} {r:List Int} (h : ¬ k x<k y):insR (ltK k) x (y :: r)=x :: y :: r:=by simp [insR,ltK,h]
theorem insR_own (x:Int):∀ r:List Int,r.Sublist (insR (ltK k) x r)
  | []=>List.nil_sublist _
  | y :: r=>by
    unfold insR;split
    . exact (insR_own x r).cons_cons y
    . exact (List.Sublist.refl _).cons x
theorem insR_sub (x:Int) {r' r:List Int} (hs:r'.Sublist r) (hd:Dn k r):(insR (ltK k) x r').Sublist (insR (ltK k) x r):=by
  induction hs with
  | slnil=>exact List.Sublist.refl _
  | cons y hs ih=>
    obtain ⟨h1,h2⟩:=List.pairwise_cons.1 hd
    by_cases q:k x<k y
    . rw [insR_lt q]
      exact (ih h2).cons y
    . rw [insR_ge q,insR_pre x (fun z hz=>by have:=h1 z (hs.subset hz);omega)]
      exact (hs.cons y).cons_cons x
  | cons_cons y hs ih=>
    obtain ⟨h1,h2⟩:=List.pairwise_cons.1 hd
    by_cases q:k x<k y
    . rw [insR_lt q,insR_lt q]
      exact (ih h2).cons_cons y
    . rw [insR_ge q,insR_ge q]
      exact (hs.cons_cons y).cons_cons x
theorem foldR_sub {l' l:List Int} (hs:l'.Sublist l):∀ {r' r:List Int},r'.Sublist r->Dn k r->(l'.foldl (fun r x=>insR (ltK k) x r) r').Sublist (l.foldl (fun r x=>insR (ltK k) x r) r):=by
  induction hs with
  | slnil=>intro r' r h _;exact h
  | cons x hs ih=>intro r' r h hd;exact ih (h.trans (insR_own x r)) (insR_dn x hd)
  | cons_cons x hs ih=>intro r' r h hd;exact ih (insR_sub x h hd) (insR_dn x hd)
end
theorem hourSort_eq (f:Fr) (l:List Int):hourSort f l=(sortR (ltK fun n=>(entN f n).hour) l).reverse:=by
  unfold hourSort;congr 2
  funext a b
  unfold byHour cmpInt ltK
  by_cases h1:(entN f a).hour<(entN f b).hour
  . simp [h1]
  . by_cases h2:(entN f b).hour<(entN f a).hour
    . simp [h1,h2]
    . simp [h1,h2]
theorem hourSort_sub {f:Fr} {l' l:List Int} (hs:l'.Sublist l):(hourSort f l').Sublist (hourSort f l):=by
  rw [hourSort_eq,hourSort_eq];exact (foldR_sub hs (List.Sublist.refl _) List.Pairwise.nil).reverse
theorem hourSort_mem {f:Fr} {l:List Int} {n:Int}:n∈hourSort f l ↔ n∈l:=by
  unfold hourSort;rw [List.mem_reverse,sortR_mem]
theorem ch_tri:∀ a:Fin 8,∀ b:Fin 8,∀ c:Fin 8,changedOf (a.val:Int) (c.val:Int)≤changedOf (a.val:Int) (b.val:Int)+changedOf (b.val:Int) (c.val:Int):=by decide +kernel
theorem marks_in {l:List Int} (h:l.Sublist [0,1,2]):∃ a:Fin 8,marksInt l=(a.val:Int):=by
  cases h <;> (rename_i h;cases h <;> (rename_i h;cases h <;> (rename_i h;cases h;first|exact ⟨0,by decide⟩|exact ⟨1,by decide⟩|exact ⟨2,by decide⟩|exact ⟨3,by decide⟩|exact ⟨4,by decide⟩|exact ⟨5,by decide⟩|exact ⟨6,by decide⟩|exact ⟨7,by decide⟩)))
def Fit (f:Fr) (a b:Int):Prop:=tooFar f a b=false
theorem RoadsOK.tri {n:Nat} {lo:Int} {r:List (List Int)} (h:RoadsOK n lo r) (hlo:0≤lo) {i j k:Nat} (hi:i<n) (hj:j<n) (hk:k<n):rd r i k≤rd r i j+rd r j k:=by
  have pos:∀ a b,a<n->b<n->0≤rd r a b:=fun a b ha hb=>by
    by_cases e:a=b
    . subst e;rw [h.diag a ha];omega
    . have:=h.off a b ha hb e;omega
  have p1:=pos i j hi hj;have p2:=pos j k hj hk
  by_cases e1:i=k
  . subst e1;rw [h.diag i hi];omega
  by_cases e2:i=j
  . subst e2;omega
  by_cases e3:j=k
  . subst e3;omega
  have a1:=h.off i k hi hk e1;have a2:=h.off i j hi hj e2;have a3:=h.off j k hj hk e3;omega
theorem entN_mem {f:Fr} {n:Int} (h:0≤n∧n<f.ents.length):entN f n∈f.ents:=by
  have:n.toNat<f.ents.length:=by omega
  rw [entN_at this];exact List.getElem_mem this
theorem fit_trans {cnt:Int} {f:Fr} (hf:FairOK cnt f) {a b c:Int} (ha:0≤a∧a<f.ents.length) (hb:0≤b∧b<f.ents.length) (hc:0≤c∧c<f.ents.length) (h1:Fit f a b) (h2:Fit f b c):Fit f a c:=by
  have ea:=hf.ent _ (entN_mem ha);have eb:=hf.ent _ (entN_mem hb);have ec:=hf.ent _ (entN_mem hc);obtain ⟨lo,hlo,hr⟩:=hf.rds;have hd:=hf.dye;obtain ⟨A,hA⟩:=marks_in ea.marks;obtain ⟨B,hB⟩:=marks_in eb.marks;obtain ⟨C,hC⟩:=marks_in ec.marks;have t1:=ch_tri A B C;have pa:=ea.place;have pb:=eb.place;have pc:=ec.place;have t2:=hr.tri hlo.1 (i:=(entN f a).place.toNat) (j:=(entN f b).place.toNat) (k:=(entN f c).place.toNat) (by omega) (by omega) (by omega)
  unfold Fit tooFar at h1 h2 ⊢;rw [hA,hB] at h1;rw [hB,hC] at h2;rw [hA,hC];simp only [decide_eq_false_iff_not] at h1 h2 ⊢;have t3:f.dye*changedOf (A.val:Int) (C.val:Int)≤f.dye*(changedOf (A.val:Int) (B.val:Int)+changedOf (B.val:Int) (C.val:Int)):=Int.mul_le_mul_of_nonneg_left t1 (by omega)
  rw [Int.mul_add] at t3;omega
theorem hours_cons (f:Fr) (a b:Int) (r:List Int):hoursBreaks f (a :: b :: r)=(tooFar f a b || hoursBreaks f (b :: r)):=by
  unfold hoursBreaks;rw [show (a :: b :: r).length-1=r.length+1 from rfl,List.range_succ_eq_map,List.any_cons,List.any_map]
  rfl
theorem hours_fit {cnt:Int} {f:Fr} (hf:FairOK cnt f):∀ {l:List Int},(∀ n∈l,0≤n∧n<f.ents.length)->hoursBreaks f l=false->l.Pairwise (Fit f)
  | [],_,_=>List.Pairwise.nil
  | [a],_,_=>List.pairwise_singleton _ _
  | a :: b :: r,hl,h=>by
    rw [hours_cons,Bool.or_eq_false_iff] at h;have ih:=hours_fit hf (fun n hn=>hl n (by simp [hn])) h.2
    refine List.pairwise_cons.2 ⟨fun z hz=>?_,ih⟩
    rcases List.mem_cons.1 hz with rfl|hz'
    . exact h.1
    . exact fit_trans hf (hl a (by simp)) (hl b (by simp)) (hl z (by simp [hz'])) h.1 ((List.pairwise_cons.1 ih).1 z hz')
theorem fit_hours {f:Fr}:∀ {l:List Int},l.Pairwise (Fit f)->hoursBreaks f l=false
  | [],_=>rfl
  | [a],_=>rfl
  | a :: b :: r,h=>by
    obtain ⟨h1,h2⟩:=List.pairwise_cons.1 h;rw [hours_cons,fit_hours h2,Bool.or_false];exact h1 b (by simp)
theorem due_mem {f:Fr} {l:List Int} (hl:l≠[]) {h:Int}:h∈heightsOf f l ↔ ∀ j∈l,h∈tells f (entN f j):=by
  rw [due_heights hl]
  match l,hl with
  | a :: r,_=>
    simp only [dueOf,List.mem_filter,List.all_eq_true,decide_eq_true_eq];exact ⟨fun q=>q.2,fun q=>⟨q a (by simp),q⟩⟩
theorem why_zero {f:Fr} {l:List Int}:whyN f l=0 ↔ coatBreaks f (hourSort f l)=false∧heightBreaks f (hourSort f l)=false∧hoursBreaks f (hourSort f l)=false:=by
  unfold whyN;cases coatBreaks f (hourSort f l) <;> cases heightBreaks f (hourSort f l) <;> cases hoursBreaks f (hourSort f l) <;> simp
theorem part_ok {cnt:Int} {f:Fr} (hf:FairOK cnt f) {l' l:List Int} (hs:l'.Sublist l) (hne:l'≠[]) (hl:∀ n∈l,0≤n∧n<f.ents.length) (h:whyN f l=0):whyN f l'=0:=by
  obtain ⟨h1,h2,h3⟩:=why_zero.1 h;have hS:=hourSort_sub (f:=f) hs
  have hne':hourSort f l'≠[]:=fun e=>by
    cases l' with
    | nil=>exact hne rfl
    | cons a r=>have:a∈hourSort f (a :: r):=hourSort_mem.2 (by simp);rw [e] at this;cases this
  have hne2:hourSort f l≠[]:=fun e=>hne' (by rw [e] at hS;exact List.sublist_nil.1 hS)
  have hr:∀ n∈hourSort f l,0≤n∧n<f.ents.length:=fun n hn=>hl n (hourSort_mem.1 hn)
  generalize hourSort f l=S at *;refine why_zero.2 ⟨?_,?_,fit_hours ((hours_fit hf hr h3).sublist hS)⟩
  . generalize hourSort f l'=S' at *
    unfold coatBreaks at h1 ⊢;rw [List.any_eq_false] at h1 ⊢;have h1':∀ x∈S,(entN f x).coat=(entN f (S.getD 0 0)).coat:=fun x hx=>by simpa using h1 x hx
    intro x hx
    have hz:S'.getD 0 0∈S':=by
      match S',hne' with
      | a :: r,_=>simp
    rw [h1' x (hS.subset hx),h1' _ (hS.subset hz)];simp
  . generalize hourSort f l'=S' at *
    unfold heightBreaks at h2 ⊢;simp only [decide_eq_false_iff_not] at h2 ⊢;obtain ⟨x,hx⟩:=List.exists_mem_of_ne_nil _ h2;have:x∈heightsOf f S':=(due_mem hne').2 fun j hj=>(due_mem hne2).1 hx j (hS.subset hj)
    exact List.ne_nil_of_mem this
theorem one_ok {f:Fr} (hg:f.Good) (n:Int):whyN f [n]=0:=by
  have e:hourSort f [n]=[n]:=by simp [hourSort,sortR,insR]
  refine why_zero.2 ?_;rw [e];refine ⟨by simp [coatBreaks],?_,rfl⟩
  unfold heightBreaks;simp only [decide_eq_false_iff_not];obtain ⟨x,hx⟩:=List.exists_mem_of_ne_nil _ (tells_ne hg (entN f n));exact List.ne_nil_of_mem ((due_mem (by simp)).2 (fun j hj=>by simp at hj;subst hj;exact hx))
end Go.Proofs.YtgpeapadphphpaaGreatDoor
namespace Go.Proofs.YtgpeapadphphpaaGreatDoor
open Go.Pal Go.Conc
set_option maxHeartbeats 2000000
set_option maxRecDepth 4000
variable {m:Mo} {σ:Store} {KF:Res->Store->Prop}
theorem joinR {P:Program} {m:Mo} {fid n:Nat} {ro:Option Nat} {hold:List Entry} {K:Pal.Exit->St->Prop} {todo:List Item} {σ:Store} {D:List ADef} {rc:Rec} {G:Prop} (I:Env->Prop)
    (h1:(∀ env,I env->Resume P m fid n ro hold todo ⟨env,σ,D,rc⟩ K)->G) (h2:∀ env,I env->Resume P m fid n ro hold todo ⟨env,σ,D,rc⟩ K):G:=h1 h2
theorem OwnInts_tok {l:List Int} (hl:l.length≤1000000000) (h:∀ a σ',Tok σ σ' a 1 (l.map int)->KF (.val a) σ'):FnOK Tryz.prog m 14 [ints l] σ KF:=by
  refine FnOK.start lay [] [] 1 Tryz.func14 rfl rfl (by rfl) (by kernel_rfl) ?_
  simp [Tryz.f14];refine os_append lay rfl rfl rfl tt22 rfl tt22 rfl tt3 (by decide) (by simp;omega) (σ0:=σ) (es:=[]) (xs:=l.map int) (.exact σ 1 []) (.inr ⟨_,rfl⟩) fun a' σ' ht=>?_
  refine Resume.run lay [] ?_;simp;exact .done (h _ _ (by simpa using ht))
theorem eraseA {n:Int} {t k:Nat} {l:List Int} (h:Asc n (t+1) l) (hk:k<t+1):Asc n t (l.eraseIdx k):=by
  have hp:(l.eraseIdx k).Pairwise (· < ·):=h.pw.sublist (List.eraseIdx_sublist _ _);have hlen:(l.eraseIdx k).length=t:=by rw [List.length_eraseIdx_of_lt (by rw [h.len];exact hk),h.len];rfl
  refine ⟨hlen,fun x hx=>h.mem x ((List.eraseIdx_sublist _ _).subset hx),fun a b hab hb=>?_⟩
  have hb':b<(l.eraseIdx k).length:=by omega
  have ha':a<(l.eraseIdx k).length:=by omega
  have:=List.pairwise_iff_getElem.1 hp a b ha' hb' hab;simpa [List.getD_eq_getElem?_getD,ha',hb'] using this
theorem MarkParts_ok (hs:m.solo=true) {nums:List Int} (hn:nums.length<1152921504606846976) (h:KF (.val (bool true)) σ):TopOK Tryz.prog lay m 4 [ints nums] σ KF:=by
  refine TopOK.start lay [] pl4 1 Tryz.func4 rfl rfl (by rfl) (by kernel_rfl) ?_
  simp [Tryz.f4];refine callFn Tryz.func6 rfl rfl (NewBag_ok fun c σ1 hc hb hsame=>?_)
  refine Resume.run lay [] ?_;simp;refine callFn Tryz.func5 rfl rfl (FairOf_ok (by omega) hn ⟨by omega,by omega⟩ hb fun f σ2 hf hd=>?_)
  refine Resume.run lay [] ?_;simp;refine newW.intro fun d hd3=>?_
  have hfit:=hf.fits (by omega)
  have hchk:=hf.check (by omega)
  have hg:=Fr.good hfit hchk;have h5:=hf.len;simp;refine Resume.freezeAt 3 (b:=d) (fairA f) (by simp) (by simp) rfl ?_
  have hle:σ.Le (((σ2.set d (.cells (fairL f))).del d)):=fun y x hy=>by
    have y1:y≠c:=fun e=>by subst e;rw [hc] at hy;cases hy
    have y0:σ2 y=some x:=by rw [hd.2 y y1,hsame y y1];exact hy
    have y2:y≠d:=fun e=>by subst e;rw [hd3] at y0;cases y0
    simp only [Store.del,y2,if_false,Store.set_ne _ _ y2];exact y0
  refine Resume.weaken (σ:=σ) ?_ hle;have h6:=hg.six;refine Resume.loop f.ents.length (fun t s => ∃ env,s=⟨env,σ,[],.no⟩∧env 3 = .cp (fairA f) 0∧env 4=int ((t:Int)+1)) ⟨_,rfl,by simp,by simp⟩ ?_
  rintro c1 t _ ht ⟨env,rfl,e3,e4⟩ ih2
  refine Resume.run lay [] ?_;simp [e3,e4];refine condW.intro (fun q=>?_) (fun q=>?_) <;> simp [-Int.not_lt,-Int.not_le,-Nat.not_lt,-Nat.not_le] at q
  . have ht6 : t + 1 ≤ f.ents.length:=by omega
    simp [e3,e4];refine callFn Tryz.func8 rfl rfl (Chosen_ok' (kn:=t+1) (by omega) ⟨by omega,by omega⟩ (by omega) ?_)
    have hLa:∀ l∈chosenL f.ents.length (t+1),Asc f.ents.length (t+1) l:=fun l hl=>chosenL_asc hl
    have hLn:(chosenL f.ents.length (t+1)).length≤117649:=Nat.le_trans (chosenN_len (n:=f.ents.length) (k:=((t+1:Nat):Int)) (by omega) (t+1) (by omega)) (Nat.le_trans (Nat.pow_le_pow_right (by omega) (show t+1≤6 by omega)) (by decide))
    generalize chosenL f.ents.length (t+1)=L at hLa hLn;refine Resume.run lay [] ?_;simp [e3,e4];refine Resume.loop L.length (fun x s => ∃ env,s=⟨env,σ,[],.no⟩∧env 3 = .cp (fairA f) 0∧env 4=int ((t:Int)+1)∧env 5=rows L∧env 6=int x) ⟨_,rfl,by simp [e3],by simp [e4],by simp,by simp⟩ ?_
    clear e3 e4
    rintro c2 x _ hx ⟨env,rfl,e3,e4,e5,e6⟩ ih3
    rcases Nat.lt_or_ge x L.length with g2|g2
    . have g2' : (x : Int)<L.length:=by omega
      obtain ⟨l,hl⟩:∃ l,l=L[x]:=⟨_,rfl⟩;have hA:=hLa l (by rw [hl];exact List.getElem_mem g2)
      have hll:=hA.len;have f0 : -9223372036854775808≤(x:Int)+1∧(x:Int)+1≤9223372036854775807:=by omega
      refine Resume.run lay [] ?_;simp [e3,e4,e5,e6,g2,← hl];refine callFn Tryz.func12 rfl rfl (Can_ok hfit hchk (asc_lst hA ⟨by omega,by omega⟩) (by omega) ?_)
      obtain ⟨cn,hcn⟩:∃ cn:Bool,cn=decide (whyN f l=0):=⟨_,rfl⟩;rw [← hcn];have hpart:cn=true->∀ l':List Int,l'.Sublist l->l'≠[]->whyN f l'=0:=fun q l' hs' hne=>part_ok hf hs' hne hA.mem (by rw [hcn] at q;simpa using q)
      apply joinR (I:=fun env=>env 3 = .cp (fairA f) 0∧env 4=int ((t:Int)+1)∧env 5=rows L∧env 6=int x∧env 7=bool cn∧env 13=int 0)
      . intro hrest
        obtain ⟨b1,hz1,hz2⟩:∃ b1,(((t:Int)+1) == 1)=b1∧(b1=true->cn=true):=⟨_,rfl,fun q=>by
          have ht0:t=0:=by have:=beq_iff_eq.1 q;omega
          subst ht0;rw [hcn,decide_eq_true_eq]
          match l,hll with
          | [a],_=>exact one_ok hg a⟩
        obtain ⟨b2,hz3,hz4⟩:∃ b2,(((t:Int)+1) == 2)=b2∧(b2=true->t=1):=⟨_,rfl,fun q=>by have:=beq_iff_eq.1 q;omega⟩
        have hcase:(b1=true∧cn=true∧b2=false)∨b1=false:=by
          cases b1 with
          | false=>exact .inr rfl
          | true=>
            refine .inl ⟨rfl,hz2 rfl,?_⟩;have h1:=beq_iff_eq.1 hz1;rw [← hz3,beq_eq_false_iff_ne];omega
        rcases hcase with ⟨rfl,rfl,rfl⟩|rfl
        . refine PendW.go lay [] ?_
          simp [e3,e4,e5,e6,hz1,hz3];refine Resume.run lay [] ?_;simp [e3,e4,e5,e6,hz1,hz3];refine Resume.run lay [] ?_;simp [e3,e4,e5,e6,hz1,hz3];exact hrest _ ⟨by simp [e3,e4,e5,e6,hz1,hz3],by simp [e3,e4,e5,e6,hz1,hz3],by simp [e3,e4,e5,e6,hz1,hz3],by simp [e3,e4,e5,e6,hz1,hz3],by simp,by simp⟩
        cases b2 with
        | false=>
          cases cn <;> (
            refine PendW.go lay [] ?_;simp [e3,e4,e5,e6,hz1,hz3];refine Resume.run lay [] ?_;simp [e3,e4,e5,e6,hz1,hz3];refine Resume.run lay [] ?_;simp [e3,e4,e5,e6,hz1,hz3];exact hrest _ ⟨by simp [e3,e4,e5,e6,hz1,hz3],by simp [e3,e4,e5,e6,hz1,hz3],by simp [e3,e4,e5,e6,hz1,hz3],by simp [e3,e4,e5,e6,hz1,hz3],by simp,by simp⟩)
        | true=>
          have ht1:=hz4 rfl;subst ht1
          obtain ⟨a,b,rfl⟩:∃ a b,l=[a,b]:=by
            match l,hll with
            | [a,b],_=>exact ⟨a,b,rfl⟩
          have hab:a<b:=by simpa using hA.asc 0 1 (by omega) (by omega)
          have ha:=hA.mem a (by simp)
          have hb2:=hA.mem b (by simp)
          obtain ⟨w,hw⟩:∃ w,w=whyN f [a,b]:=⟨_,rfl⟩;have hw0:(w == 0)=cn:=by rw [hcn,← hw];exact Bool.eq_iff_iff.2 (by simp)
          have hww:(w != w)=false:=by simp
          refine PendW.go lay [] ?_;simp [e3,e4,e5,e6,hz1,hz3];refine Resume.run lay [] ?_;simp [e3,e4,e5,e6,hz1,hz3,g2,← hl];refine callFn Tryz.func13 rfl rfl (Reason_ok hfit hchk ha hb2 (.inl ⟨rfl,rfl⟩) hab ?_);rw [← hw];refine PendW.go lay [] ?_;simp [e3,e4,e5,e6,hz1,hz3];refine Resume.run lay [] ?_;simp [e3,e4,e5,e6,hz1,hz3,g2,← hl];refine callFn Tryz.func13 rfl rfl (Reason_ok hfit hchk hb2 ha (.inr ⟨rfl,rfl⟩) hab ?_);rw [← hw];refine PendW.go lay [] ?_;simp [e3,e4,e5,e6,hz1,hz3];refine Resume.run lay [] ?_;simp [e3,e4,e5,e6,hz1,hz3,hww,hw0]
          exact hrest _ ⟨by simp [e3,e4,e5,e6,hz1,hz3],by simp [e3,e4,e5,e6,hz1,hz3],by simp [e3,e4,e5,e6,hz1,hz3],by simp [e3,e4,e5,e6,hz1,hz3],by simp,by simp⟩
      . clear e3 e4 e5 e6
        rintro env ⟨e3,e4,e5,e6,e7,e13⟩
        refine Resume.loop (t+1) (fun k s => ∃ env,s=⟨env,σ,[],.no⟩∧env 3 = .cp (fairA f) 0∧env 4=int ((t:Int)+1)∧env 5=rows L∧env 6=int x∧env 7=bool cn∧env 13=int k) ⟨_,rfl,e3,e4,e5,e6,e7,e13⟩ ?_
        clear e3 e4 e5 e6 e7 e13
        rintro c3 k _ hk ⟨env,rfl,e3,e4,e5,e6,e7,e13⟩ ih4
        obtain ⟨b3,hb3⟩:∃ b3,decide ((k:Int)<(t:Int)+1)=b3:=⟨_,rfl⟩;obtain ⟨b4,hb4⟩:∃ b4,decide ((1:Int)<(t:Int)+1)=b4:=⟨_,rfl⟩
        by_cases hgo:b3=true∧b4=true∧cn=true
        . obtain ⟨rfl, rfl,rfl⟩:=hgo
          have hk1:k<t+1:=by have:=of_decide_eq_true hb3;omega
          have ht1:1<t+1:=by have:=of_decide_eq_true hb4;omega
          have hkl:k<l.length:=by omega
          have fk : -9223372036854775808≤(k:Int)+1∧(k:Int)+1≤9223372036854775807:=by omega
          have hln:(l.eraseIdx k)≠[]:=fun e=>by
            have:=congrArg List.length e;rw [List.length_eraseIdx_of_lt hkl] at this;simp at this;omega
          have hlst:Lst f (l.eraseIdx k):=asc_lst (n:=t) (eraseA hA hk1) ⟨by omega,by omega⟩
          have hek:(l.eraseIdx k).length<20:=by have:=(eraseA hA hk1).len;omega
          have hel:l.eraseIdx k=l.take k ++ l.drop (k+1):=List.eraseIdx_eq_take_drop_succ _ _;have hdec:decide (whyN f (l.eraseIdx k)=0)=true:=decide_eq_true (hpart rfl _ (List.eraseIdx_sublist _ _) hln)
          have hxs:(l.take k).map int ++ ((l.map int).drop (k+1)).take (l.length-(k+1))=(l.eraseIdx k).map int:=by
            rw [hel,List.map_append];congr 1;rw [List.take_of_length_le (by simp),List.map_drop]
          refine Resume.run lay [] ?_;simp [e3,e4,e5,e6,e7,e13,hb3,hb4,g2,← hl,fk.1,fk.2]
          repeat' (first
                    | apply And.intro
                    | (refine os_sliceSl lay rfl tt22 rfl tt3 (es:=l.map int) (sp:=.any) (l:=0) (h:=k) (by simp) (fun cap hcap=>⟨rfl,⟨⟨.i64,by simp [e13]⟩,by simp at hcap;omega⟩,rfl⟩) (by simp;omega) ?_
                       refine PendW.go lay [] ?_;simp [e3,e4,e5,e6,e7,e13,hb3,hb4,g2,← hl,fk.1,fk.2])
                    | (refine os_sliceSl lay rfl tt22 rfl tt3 (es:=l.map int) (sp:=.any) (l:=k+1) (h:=l.length) (by simp) (fun cap hcap=>⟨rfl,⟨rfl,by simp⟩,⟨.i64,by simp⟩,by omega⟩) (by simp) ?_
                       refine PendW.go lay [] ?_;simp [e3,e4,e5,e6,e7,e13,hb3,hb4,g2,← hl,fk.1,fk.2])
                    | (have hWo:Wl [.sl 1 (List.take k (List.map int l)) .any] [ints (l.take k)]:=by rw [← List.map_take];exact .cons (.refl _) .nil
                       refine callFnW Tryz.func14 rfl rfl hWo (OwnInts_tok (l:=l.take k) (by rw [List.length_take];omega) fun a σ3 hta=>?_)
                       have htc:=hta.cells;refine PendW.go lay [] ?_;simp [e3,e4,e5,e6,e7,e13,hb3,hb4,g2,← hl,fk.1,fk.2,htc.1,htc.2])
                    | (refine os_append lay rfl rfl rfl tt22 rfl tt22 rfl tt3 (by decide) (by simp;omega) (σ0:=σ) (es:=(l.take k).map int) (xs:=((l.map int).drop (k+1)).take (l.length-(k+1))) (by simpa using hta) (.inr ⟨_,by simp;rfl⟩) fun a' σ4 ht'=>?_
                       have htc2:=ht'.cells;refine PendW.go lay [] ?_;simp [e3,e4,e5,e6,e7,e13,hb3,hb4,g2,← hl,fk.1,fk.2,htc2.1,htc2.2])
                    | (have hW2:Wl [fairA f,a'] [fairA f,ints (l.eraseIdx k)]:=.cons (.refl _) (.cons (by have:=ht'.W;rwa [hxs] at this) .nil)
                       refine callFnW Tryz.func12 rfl rfl hW2 (Can_ok hfit hchk hlst hek ?_);rw [hdec];refine PendW.go lay [] ?_;simp [e3,e4,e5,e6,e7,e13,hb3,hb4,g2,← hl,fk.1,fk.2]))
          all_goals (
            refine Resume.run lay [] ?_;simp [e3,e4,e5,e6,e7,e13,fk.1,fk.2];exact Resume.weaken (σ:=σ) (ih4 _ hk1 ⟨_,rfl,by simp [e3],by simp [e4],by simp [e5],by simp [e6],by simp [e7],by simp⟩) ht'.1)
        . have hend:(b3 && b4 && cn)=false:=by
            cases b3 <;> cases b4 <;> cases cn <;> simp_all
          have f2 : -9223372036854775808≤(x:Int)+1∧(x:Int)+1≤9223372036854775807:=by omega
          cases b3 with
          | false=>
            refine Resume.run lay [] ?_;simp [e3,e4,e5,e6,e7,e13,hb3,hb4,f2.1,f2.2];exact ih3 _ g2 ⟨_,rfl,by simp [e3,e4,e5,e6,e7,e13,hb3,hb4],by simp [e3,e4,e5,e6,e7,e13,hb3,hb4],by simp [e3,e4,e5,e6,e7,e13,hb3,hb4],by simp⟩
          | true=>
            cases b4 with
            | false=>
              refine Resume.run lay [] ?_;simp [e3,e4,e5,e6,e7,e13,hb3,hb4,f2.1,f2.2];exact ih3 _ g2 ⟨_,rfl,by simp [e3,e4,e5,e6,e7,e13,hb3,hb4],by simp [e3,e4,e5,e6,e7,e13,hb3,hb4],by simp [e3,e4,e5,e6,e7,e13,hb3,hb4],by simp⟩
            | true=>
              cases cn with
              | true=>exact absurd hend (by simp)
              | false=>
                refine Resume.run lay [] ?_;simp [e3,e4,e5,e6,e7,e13,hb3,hb4,f2.1,f2.2];exact ih3 _ g2 ⟨_,rfl,by simp [e3,e4,e5,e6,e7,e13,hb3,hb4],by simp [e3,e4,e5,e6,e7,e13,hb3,hb4],by simp [e3,e4,e5,e6,e7,e13,hb3,hb4],by simp⟩
    . have hxe:x=L.length:=by omega
      subst hxe;have f7 : -9223372036854775808≤(t:Int)+1+1∧(t:Int)+1+1≤9223372036854775807:=by omega
      refine Resume.run lay [] ?_;simp [e3,e4,e5,e6,f7.1,f7.2];exact ih2 _ (by omega) ⟨_,rfl,by simp [e3,e4,e5,e6],by simp⟩
  . simp [e3,e4]
    refine callFn Tryz.func11 rfl rfl (marked_ok hs ?_);refine Resume.run lay [] ?_;simp [e3,e4];exact .done h
end Go.Proofs.YtgpeapadphphpaaGreatDoor

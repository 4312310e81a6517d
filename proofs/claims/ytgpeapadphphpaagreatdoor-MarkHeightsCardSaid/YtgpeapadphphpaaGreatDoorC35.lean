/- Part 35 of the proof. -/
import Derived.Test.YtgpeapadphphpaaGreatDoorC34
set_option linter.unusedVariables false
set_option linter.unusedSimpArgs false
set_option linter.unusedSectionVars false
set_option linter.unnecessarySimpa false
namespace Go.Proofs.YtgpeapadphphpaaGreatDoor
open Go.Pal Go.Conc
set_option maxHeartbeats 2000000
set_option maxRecDepth 4000
variable {m:Mo} {σ:Store} {KF:Res->Store->Prop}
theorem heights_one {f:Fr} {i:Nat} (hi:i<f.ents.length):heightsOf f [(i:Int)]=tells f f.ents[i]:=by
  have:entN f (i:Int)=f.ents[i]:=by simp [entN,List.getD_eq_getElem?_getD,hi]
  simp [heightsOf,commonOf,this]
theorem tells_ne {f:Fr} (hf:f.Good) (e:Ent):tells f e≠[]:=by
  unfold tells shoes;have:=hf.le
  by_cases h0:e.shod=0
  . simp [h0]
  . have hp:(f.sto-f.sfrom+1).toNat=(f.sto-f.sfrom).toNat+1:=by omega
    rw [if_pos h0,hp,List.range_succ_eq_map];split <;> simp
def dueOf (f:Fr) (l:List Int):List Int:=(tells f (entN f (l.getD 0 0))).filter fun h=>l.all fun j=>decide (h∈tells f (entN f j))
theorem due_heights {f:Fr} {l:List Int} (hl:l≠[]):heightsOf f l=dueOf f l:=by
  match l,hl with
  | a :: r,_=>
    simp only [heightsOf,dueOf,commonOf,List.map_cons,List.getD_cons_zero];refine List.filter_congr fun x hx=>?_
    simp [hx,List.all_eq_true]
theorem listErr_zero (f:Fr):∀ (l:List Int) (p:Option Int),(∀ x∈l,0≤x∧x<f.ents.length)->l.Pairwise (· < ·)->(∀ q,p=some q->∀ x∈l,q<x)->listErr f p l=0
  | [],_,_,_,_=>rfl
  | a :: l,p,h1,h2,h3=>by
    have ha:=h1 a (by simp)
    have h2':=List.pairwise_cons.1 h2
    have e1:isIn a 0 (f.ents.length-1)=true:=by
      simp [isIn,ha.1];omega
    have e2:notUp p a=false:=by
      cases p with
      | none=>rfl
      | some q=>
        have:=h3 q rfl a (by simp)
        simp [notUp];omega
    unfold listErr;rw [e1,if_neg (by simp),e2,if_neg (by simp)]
    exact listErr_zero f l (some a) (fun x hx=>h1 x (by simp [hx])) h2'.2 (fun q hq x hx=>by cases hq;exact h2'.1 x hx)
theorem Asc.pw {n:Int} {i:Nat} {l:List Int} (h:Asc n i l):l.Pairwise (· < ·):=by
  rw [List.pairwise_iff_getElem];intro a b ha hb hab;have:=h.asc a b hab (by rw [← h.len];exact hb)
  simpa [List.getD_eq_getElem?_getD,ha,hb] using this
theorem asc_lst {f:Fr} {n:Nat} {l:List Int} (h:Asc f.ents.length n l) (hn:1≤n∧n≤6):Lst f l:=by
  have hl:=h.len;refine ⟨?_,by omega⟩
  unfold lister;rw [if_neg (by omega)]
  exact listErr_zero f l none h.mem h.pw (fun q hq=>by cases hq)
theorem Chosen_ok' {n kI:Int} {kn:Nat} (e:kI=kn) (hn:0≤n∧n≤6) (hk:(kn:Int)≤n) (h:KF (.val (rows (chosenL n kn))) σ):FnOK Tryz.prog m 8 [int n,int kI] σ KF:=by
  subst e;exact Chosen_ok hn hk h
theorem MarkHeights_ok (hs:m.solo=true) {nums:List Int} (hn:nums.length<1152921504606846976) (h:KF (.val (bool true)) σ):TopOK Tryz.prog lay m 3 [ints nums] σ KF:=by
  refine TopOK.start lay [] pl3 1 Tryz.func3 rfl rfl (by rfl) (by kernel_rfl) ?_
  simp [Tryz.f3];refine callFn Tryz.func6 rfl rfl (NewBag_ok fun c σ1 hc hb hsame=>?_)
  refine Resume.run lay [] ?_;simp;refine callFn Tryz.func5 rfl rfl (FairOf_ok (by omega) hn ⟨by omega,by omega⟩ hb fun f σ2 hf hd=>?_)
  refine Resume.run lay [] ?_;simp;refine newW.intro fun d hd3=>?_
  have hfit:=hf.fits (by omega)
  have hchk:=hf.check (by omega)
  have hg:=Fr.good hfit hchk;have h5:=hf.len;simp;refine Resume.freezeAt 3 (b:=d) (fairA f) (by simp) (by simp) rfl ?_
  have hle:σ.Le (((σ2.set d (.cells (fairL f))).del d)):=fun y x hy=>by
    have y1:y≠c:=fun e=>by subst e;rw [hc] at hy;cases hy
    have y0:σ2 y=some x:=by rw [hd.2 y y1,hsame y y1];exact hy
    have y2:y≠d:=fun e=>by subst e;rw [hd3] at y0;cases y0
    simp only [Store.del,y2,if_false,Store.set_ne _ _ y2];exact y0
  refine Resume.weaken (σ:=σ) ?_ hle;have h6:=hg.six;refine Resume.loop f.ents.length (fun i s => ∃ env σ',s=⟨env,σ',[],.no⟩∧env 3 = .cp (fairA f) 0∧env 5=int i∧Tok σ σ' (env 4) 1 ((f.ents.take i).map fun e=>ints (tells f e))) ⟨_,σ,rfl,by simp,by simp,by simpa using Tok.nil σ 1⟩ ?_
  rintro c0 i _ hi ⟨env,σ',rfl,e3,e5,htok⟩ ih
  rcases Nat.lt_or_ge i f.ents.length with g1|g1
  . have g1':(i:Int)<f.ents.length:=by omega
    refine Resume.run lay [] ?_;simp [e3,e5,g1];have hW:Wl [fairA f,AV.sl 1 [int i] .exact] [fairA f,ints [(i:Int)]]:=.cons (.refl _) (.cons (W_any 1 [int i] .exact) .nil);have hlst:Lst f [(i:Int)]:=asc_lst (n:=1) ⟨rfl,fun x hx=>by simp at hx;subst hx;omega,fun a b h1 h2=>by omega⟩ (by omega)
    refine callFnW Tryz.func7 rfl rfl hW (Heights_ok hfit hchk hlst ?_);rw [heights_one g1];have hne:=tells_ne hg f.ents[i];have hle5:=tells_len hg f.ents[i];have hpos:0<(tells f f.ents[i]).length:=List.length_pos_iff.2 hne;have hn0 : ¬ ((tells f f.ents[i]).length:Int)=0:=by omega
    have hn5 : ¬ (5:Int)<(tells f f.ents[i]).length:=by omega
    have f1 : -9223372036854775808≤(i:Int)+1∧(i:Int)+1≤9223372036854775807:=by omega
    have hb0:(((tells f f.ents[i]).length:Int) == 0)=false:=by rw [beq_eq_false_iff_ne];exact hn0
    have hb5:(tells f f.ents[i]).length≤5:=hle5;have hn5' : ¬ 5<(tells f f.ents[i]).length:=by omega
    have hnext:(f.ents.take (i+1)).map (fun e=>ints (tells f e))=(f.ents.take i).map (fun e=>ints (tells f e)) ++ [ints (tells f f.ents[i])]:=by
      rw [List.take_succ_eq_append_getElem g1,List.map_append];rfl
    refine Resume.run lay [] ?_;simp [e3,e5,hb0,hn5,hn5'];refine os_append lay rfl rfl rfl tt24 rfl tt24 rfl tt22 (by decide) (by simp;omega) (σ0:=σ) (es:=(f.ents.take i).map fun e=>ints (tells f e)) (xs:=[ints (tells f f.ents[i])]) (by simpa using htok) (.inr ⟨_,rfl⟩) fun a' σ2 ht'=>?_
    refine Resume.run lay [] ?_;simp [e3,e5,f1.1,f1.2];refine ih _ g1 ⟨_,_,rfl,by simp [e3,e5],by simp,?_⟩
    rw [hnext];simpa using ht'
  . have hie:i=f.ents.length:=by omega
    subst hie;rw [List.take_length] at htok;obtain ⟨own,hown⟩:∃ o,o=f.ents.map (tells f):=⟨_,rfl⟩;have hol:own.length=f.ents.length:=by rw [hown,List.length_map]
    have hog:∀ (j:Nat) (hj:j<own.length),own[j]=tells f (entN f (j:Int)):=fun j hj=>by
      subst hown;have:j<f.ents.length:=by simpa using hj
      simp [entN,List.getD_eq_getElem?_getD,this]
    have hol5:∀ (j:Nat) (hj:j<own.length),own[j].length≤5:=fun j hj=>by rw [hog j hj];exact tells_len hg _
    have hW4:(env 4).W (rows own):=by
      have:=htok.W;rw [hown];show (env 4).W (.sl 1 ((f.ents.map (tells f)).map ints) .any);rw [List.map_map];exact this
    refine Resume.wat 4 hW4 ?_;refine Resume.weaken (σ:=σ) ?_ htok.1;refine Resume.run lay [] ?_;simp [e3,e5];refine Resume.loop f.ents.length (fun t s => ∃ env,s=⟨env,σ,[],.no⟩∧env 3 = .cp (fairA f) 0∧env 4=rows own∧env 8=int ((t:Int)+2)) ⟨_,rfl,by simp [e3],by simp,by simp⟩ ?_
    clear e3 e5 htok hW4
    rintro c1 t _ ht ⟨env,rfl,e3,e4,e8⟩ ih2
    refine Resume.run lay [] ?_;simp [e3,e4,e8];refine condW.intro (fun q=>?_) (fun q=>?_) <;> simp [-Int.not_lt,-Int.not_le,-Nat.not_lt,-Nat.not_le] at q
    . have ht6:t+2≤f.ents.length:=by omega
      simp [e3,e4,e8];refine callFn Tryz.func8 rfl rfl (Chosen_ok' (kn:=t+2) (by omega) ⟨by omega,by omega⟩ (by omega) ?_)
      have hLa:∀ l∈chosenL f.ents.length (t+2),Asc f.ents.length (t+2) l:=fun l hl=>chosenL_asc hl
      have hLn:(chosenL f.ents.length (t+2)).length≤117649:=Nat.le_trans (chosenN_len (n:=f.ents.length) (k:=((t+2:Nat):Int)) (by omega) (t+2) (by omega)) (Nat.le_trans (Nat.pow_le_pow_right (by omega) (show t+2≤6 by omega)) (by decide))
      generalize chosenL f.ents.length (t+2)=L at hLa hLn;refine Resume.run lay [] ?_;simp [e3,e4,e8];refine Resume.loop L.length (fun x s => ∃ env,s=⟨env,σ,[],.no⟩∧env 3 = .cp (fairA f) 0∧env 4=rows own∧env 8=int ((t:Int)+2)∧env 9=rows L∧env 10=int x) ⟨_,rfl,by simp [e3],by simp [e4],by simp [e8],by simp,by simp⟩ ?_
      clear e3 e4 e8
      rintro c2 x _ hx ⟨env,rfl,e3,e4,e8,e9,e10⟩ ih3
      rcases Nat.lt_or_ge x L.length with g2|g2
      . have g2':(x:Int)<L.length:=by omega
        obtain ⟨l,hl⟩:∃ l,l=L[x]:=⟨_,rfl⟩;have hA:=hLa l (by rw [hl];exact List.getElem_mem g2)
        have hll:=hA.len;have hl0:0<l.length:=by omega
        have hm0:=hA.mem _ (List.getElem_mem hl0);have hm0':l[0].toNat<own.length:=by omega
        have hm0'':l[0]<own.length:=by omega
        obtain ⟨F,hF⟩:∃ F,F=own[l[0].toNat]:=⟨_,rfl⟩;have hF5:F.length≤5:=by rw [hF];exact hol5 _ hm0'
        have hFt:F=tells f (entN f (l.getD 0 0)):=by
          rw [hF,hog _ hm0'];have:((l[0].toNat:Nat):Int)=l[0]:=by omega
          rw [this];congr 2;simp [List.getD_eq_getElem?_getD,hl0]
        have f0 : -9223372036854775808≤(x:Int)+1∧(x:Int)+1≤9223372036854775807:=by omega
        refine Resume.run lay [] ?_;simp [e3,e4,e8,e9,e10,g2,← hl,hl0,hm0.1,hm0',hm0'',← hF];refine Resume.loop F.length (fun y s => ∃ env σ',s=⟨env,σ',[],.no⟩∧env 3 = .cp (fairA f) 0∧env 4=rows own∧env 8=int ((t:Int)+2)∧env 9=rows L∧env 10=int x∧env 12=ints F∧env 13=int y∧Tok σ σ' (env 11) 1 (((F.take y).filter fun h=>l.all fun j=>decide (h∈tells f (entN f j))).map int)) ⟨_,σ,rfl,by simp [e3],by simp [e4],by simp [e8],by simp [e9],by simp [e10],by simp,by simp,by simpa using Tok.nil σ 1⟩ ?_
        clear e3 e4 e8 e9 e10
        rintro c3 y _ hy ⟨env,σ2,rfl,e3,e4,e8,e9,e10,e12,e13,htok⟩ ih4
        have htc:=htok.cells
        rcases Nat.lt_or_ge y F.length with g3|g3
        . have g3':(y:Int)<F.length:=by omega
          obtain ⟨hh,hhe⟩:∃ hh,hh=F[y]:=⟨_,rfl⟩;refine Resume.run lay [] ?_;simp [e3,e4,e8,e9,e10,e12,e13,htc.1,htc.2,g3]
          refine Resume.loop (t+2) (fun z s => ∃ env,s=⟨env,σ2,[],.no⟩∧env 3 = .cp (fairA f) 0∧env 4=rows own∧env 8=int ((t:Int)+2)∧env 9=rows L∧env 10=int x∧env 12=ints F∧env 13=int y∧Tok σ σ2 (env 11) 1 (((F.take y).filter fun h=>l.all fun j=>decide (h∈tells f (entN f j))).map int)∧env 14=bool ((l.take z).all fun j=>decide (hh∈tells f (entN f j)))∧env 15=int z) ⟨_,rfl,by simp [e3],by simp [e4],by simp [e8],by simp [e9],by simp [e10],by simp [e12],by simp [e13],by simpa using htok,by simp,by simp⟩ ?_
          clear e3 e4 e8 e9 e10 e12 e13 htok
          rintro c4 z _ hz ⟨env,rfl,e3,e4,e8,e9,e10,e12,e13,htok,e14,e15⟩ ih5
          have htc:=htok.cells;have f5 : -9223372036854775808≤(z:Int)+1∧(z:Int)+1≤9223372036854775807:=by omega
          refine Resume.run lay [] ?_;simp [e3,e4,e8,e9,e10,e12,e13,e14,e15,htc.1,htc.2];refine condW.intro (fun q2=>?_) (fun q2=>?_) <;> simp [-Int.not_lt,-Int.not_le,-Nat.not_lt,-Nat.not_le] at q2
          . have hz2:z<l.length:=by omega
            have hmz:=hA.mem _ (List.getElem_mem hz2);have hmz':l[z].toNat<own.length:=by omega
            have hmz'':l[z]<own.length:=by omega
            have hz3:z<t+2:=by omega
            have hstep:(l.take (z+1)).all (fun j=>decide (hh∈tells f (entN f j)))=((l.take z).all (fun j=>decide (hh∈tells f (entN f j))) && decide (hh∈tells f (entN f l[z]))):=by
              rw [List.take_succ_eq_append_getElem hz2,List.all_append];simp
            cases hb:(l.take z).all (fun j=>decide (hh∈tells f (entN f j))) with
            | false=>
              rw [hb] at e14;simp [e3,e4,e8,e9,e10,e12,e13,e14,e15,htc.1,htc.2,e14];refine Resume.run lay [] ?_;simp [e3,e4,e8,e9,e10,e12,e13,e14,e15,htc.1,htc.2,f5.1,f5.2]
              refine ih5 _ hz3 ⟨_,rfl,by simp [e3,e4,e8,e9,e10,e12,e13,e14,e15,htc.1,htc.2],by simp [e3,e4,e8,e9,e10,e12,e13,e14,e15,htc.1,htc.2],by simp [e3,e4,e8,e9,e10,e12,e13,e14,e15,htc.1,htc.2],by simp [e3,e4,e8,e9,e10,e12,e13,e14,e15,htc.1,htc.2],by simp [e3,e4,e8,e9,e10,e12,e13,e14,e15,htc.1,htc.2],by simp [e3,e4,e8,e9,e10,e12,e13,e14,e15,htc.1,htc.2],by simp [e3,e4,e8,e9,e10,e12,e13,e14,e15,htc.1,htc.2],by simpa using htok,?_,by simp⟩
              rw [hstep,hb];simp
            | true=>
              rw [hb] at e14;simp [e3,e4,e8,e9,e10,e12,e13,e14,e15,htc.1,htc.2,e14,g2,← hl,hz2,hmz.1,hmz',hmz'',g3];refine callFn Tryz.func9 rfl rfl (Where_ok (Nat.lt_of_le_of_lt (hol5 _ hmz') (by decide)) ?_)
              refine PendW.go lay [] ?_;simp [e3,e4,e8,e9,e10,e12,e13,e14,e15,htc.1,htc.2];refine Resume.run lay [] ?_;simp [e3,e4,e8,e9,e10,e12,e13,e14,e15,htc.1,htc.2,f5.1,f5.2]
              refine ih5 _ hz3 ⟨_,rfl,by simp [e3,e4,e8,e9,e10,e12,e13,e14,e15,htc.1,htc.2],by simp [e3,e4,e8,e9,e10,e12,e13,e14,e15,htc.1,htc.2],by simp [e3,e4,e8,e9,e10,e12,e13,e14,e15,htc.1,htc.2],by simp [e3,e4,e8,e9,e10,e12,e13,e14,e15,htc.1,htc.2],by simp [e3,e4,e8,e9,e10,e12,e13,e14,e15,htc.1,htc.2],by simp [e3,e4,e8,e9,e10,e12,e13,e14,e15,htc.1,htc.2],by simp [e3,e4,e8,e9,e10,e12,e13,e14,e15,htc.1,htc.2],by simpa using htok,?_,by simp⟩
              rw [hstep,hb];have hz4:((l[z].toNat:Nat):Int)=l[z]:=by omega
              have hoz:=hog _ hmz';rw [hz4] at hoz;have hdec:decide (0≤ixOf own[l[z].toNat] F[y])=decide (hh∈tells f (entN f l[z])):=decide_eq_decide.2 (by rw [ixOf_mem,hoz,hhe])
              simp [hdec]
          . have hze:z=l.length:=by omega
            subst hze;rw [List.take_length] at e14
            have hfs:(F.take (y+1)).filter (fun h=>l.all fun j=>decide (h∈tells f (entN f j)))=(F.take y).filter (fun h=>l.all fun j=>decide (h∈tells f (entN f j))) ++ if (l.all fun j=>decide (hh∈tells f (entN f j)))=true then [hh] else []:=by
              rw [List.take_succ_eq_append_getElem g3,List.filter_append,hhe];congr 1;simp [List.filter_cons]
            have hfl:((F.take y).filter fun h=>l.all fun j=>decide (h∈tells f (entN f j))).length≤F.length:=Nat.le_trans (List.length_filter_le _ _) (by rw [List.length_take];exact Nat.min_le_right _ _)
            have f6 : -9223372036854775808≤(y:Int)+1∧(y:Int)+1≤9223372036854775807:=by omega
            cases hb:l.all (fun j=>decide (hh∈tells f (entN f j))) with
            | false=>
              rw [hb] at e14 hfs;simp [e3,e4,e8,e9,e10,e12,e13,htc.1,htc.2,e14,f6.1,f6.2];refine ih4 _ g3 ⟨_,_,rfl,by simp [e3,e4,e8,e9,e10,e12,e13,htc.1,htc.2],by simp [e3,e4,e8,e9,e10,e12,e13,htc.1,htc.2],by simp [e3,e4,e8,e9,e10,e12,e13,htc.1,htc.2],by simp [e3,e4,e8,e9,e10,e12,e13,htc.1,htc.2],by simp [e3,e4,e8,e9,e10,e12,e13,htc.1,htc.2],by simp [e3,e4,e8,e9,e10,e12,e13,htc.1,htc.2],by simp,?_⟩
              rw [hfs];simpa using htok
            | true=>
              rw [hb] at e14 hfs;simp [e3,e4,e8,e9,e10,e12,e13,htc.1,htc.2,e14,g3];refine os_append lay rfl rfl rfl tt22 rfl tt22 rfl tt3 (by decide) (by simp only [List.length_map,List.length_cons,List.length_nil];omega) (σ0:=σ) (es:=((F.take y).filter fun h=>l.all fun j=>decide (h∈tells f (entN f j))).map int) (xs:=[int F[y]]) (by simpa using htok) (.inr ⟨_,rfl⟩) fun a' σ3 ht'=>?_
              refine Resume.run lay [] ?_;simp [e3,e4,e8,e9,e10,e12,e13,htc.1,htc.2,f6.1,f6.2];refine ih4 _ g3 ⟨_,_,rfl,by simp [e3,e4,e8,e9,e10,e12,e13,htc.1,htc.2],by simp [e3,e4,e8,e9,e10,e12,e13,htc.1,htc.2],by simp [e3,e4,e8,e9,e10,e12,e13,htc.1,htc.2],by simp [e3,e4,e8,e9,e10,e12,e13,htc.1,htc.2],by simp [e3,e4,e8,e9,e10,e12,e13,htc.1,htc.2],by simp [e3,e4,e8,e9,e10,e12,e13,htc.1,htc.2],by simp,?_⟩
              rw [hfs,hhe];simpa using ht'
        . have hye:y=F.length:=by omega
          subst hye;rw [List.take_length,hFt] at htok;have hdue:(tells f (entN f (l.getD 0 0))).filter (fun h=>l.all fun j=>decide (h∈tells f (entN f j)))=dueOf f l:=rfl
          rw [hdue] at htok;have hdl:(dueOf f l).length≤5:=Nat.le_trans (List.length_filter_le _ _) (tells_len hg _);have hlne:l≠[]:=fun e=>by rw [e] at hl0;cases hl0
          refine Resume.run lay [] ?_;simp [e3,e4,e8,e9,e10,e12,e13,htc.1,htc.2,g2,← hl];refine callFn Tryz.func7 rfl rfl (Heights_ok hfit hchk (asc_lst hA (by omega)) ?_)
          rw [due_heights hlne];refine PendW.go lay [] ?_;simp [e3,e4,e8,e9,e10,e12,e13,htc.1,htc.2];refine Resume.run lay [] ?_;simp [e3,e4,e8,e9,e10,e12,e13,htc.1,htc.2];have hW2:Wl [ints (dueOf f l),env 11] [ints (dueOf f l),ints (dueOf f l)]:=.cons (.refl _) (.cons htok.W .nil);refine callFnW Tryz.func10 rfl rfl hW2 (SameInts_ok (by omega) (by omega) ?_)
          refine Resume.run lay [] ?_;simp [e3,e4,e8,e9,e10,e12,e13,htc.1,htc.2,f0.1,f0.2];exact Resume.weaken (σ:=σ) (ih3 _ g2 ⟨_,rfl,by simp [e3,e4,e8,e9,e10,e12,e13,htc.1,htc.2],by simp [e3,e4,e8,e9,e10,e12,e13,htc.1,htc.2],by simp [e3,e4,e8,e9,e10,e12,e13,htc.1,htc.2],by simp [e3,e4,e8,e9,e10,e12,e13,htc.1,htc.2],by simp⟩) htok.1
      . have hxe:x=L.length:=by omega
        subst hxe;have f7 : -9223372036854775808≤(t:Int)+2+1∧(t:Int)+2+1≤9223372036854775807:=by omega
        refine Resume.run lay [] ?_;simp [e3,e4,e8,e9,e10,f7.1,f7.2];exact ih2 _ (by omega) ⟨_,rfl,by simp [e3,e4,e8,e9,e10],by simp [e3,e4,e8,e9,e10],by simp;omega⟩
    . simp [e3,e4,e8]
      refine callFn Tryz.func11 rfl rfl (marked_ok hs ?_);refine Resume.run lay [] ?_;simp [e3,e4,e8];exact .done h
end Go.Proofs.YtgpeapadphphpaaGreatDoor

/- Part 29 of the proof. -/
import Derived.Test.YtibjfmfdjncniaaGreatDoorC28
set_option linter.all false
namespace Go.Proofs.YtibjfmfdjncniaaGreatDoor
open Go.Pal Go.Conc
set_option maxHeartbeats 1000000
set_option maxRecDepth 4000
variable {m:Mo} {σ:Store} {KF:Res->Store->Prop}
structure InF (f:Fr) (l:List Int):Prop where
  mem:∀ n∈l,0≤n∧n<f.ents.length
  ne:l≠[]
  len:l.length≤1000000
def coatBreaks (f:Fr) (l:List Int):Bool:=l.any fun n=>decide ((entN f n).coat≠(entN f (l.getD 0 0)).coat)
theorem entN_at {f:Fr} {x:Int} (h:x.toNat<f.ents.length):entN f x=f.ents[x.toNat]:=by simp[entN,List.getD_eq_getElem?_getD,h]
theorem breaksC_ok {b mb:Nat} {f:Fr} {l:List Int} (hl:InF f l) (h:KF (.val (bool (coatBreaks f l))) σ):FnOK Tryz.prog m 144 [.agg [],fpA b mb f 0,ints l] σ KF:=by
  obtain⟨h0,hne,hlen⟩:=hl;have hpos:0<l.length:=List.length_pos_iff.2 hne;obtain⟨z0,z1⟩:=h0 _ (List.getElem_mem hpos);have z2:l[0].toNat<f.ents.length:=by omega
  have hz:l.getD 0 0=l[0]:=by simp[List.getD_eq_getElem?_getD,hpos]
  unfold coatBreaks at h;rw[hz] at h;refine FnOK.start lay [] pl144 3 Tryz.func144 rfl rfl (by rfl) (by kernel_rfl) ?_
  simp[Tryz.f144];refine Resume.loop l.length (fun k s => ∃ env,s=⟨env,σ,[],.no⟩∧env 1=fpA b mb f 0∧env 2=ints l∧env 9=ints l∧env 10=int l.length∧env 11=int k∧∀ n∈l.take k,(entN f n).coat=(entN f l[0]).coat) ⟨_,rfl,by simp⟩ ?_
  rintro c0 k _ hk ⟨env,rfl,h1,h2,h9,h10,h11,hall⟩ ih
  rcases Nat.lt_or_ge k l.length with g1|g1
  . obtain⟨y0,y1⟩:=h0 _ (List.getElem_mem g1)
    have y2:l[k].toNat<f.ents.length:=by omega
    have e1:=entN_at y2;have e2:=entN_at z2;refine Resume.run lay [] ?_;simp[h1,h2,h9,h10,h11,g1,hpos,y0,y2,z0,z2];refine Resume.run lay [] ?_;simp[h1,h2,h9,h10,h11]
    by_cases g2:f.ents[l[k].toNat].coat=f.ents[l[0].toNat].coat
    . simp[h1,h2,h9,h10,h11,g2]
      refine⟨by omega,ih _ g1 ⟨_,rfl,by simp[h1,h2,h9,h10,h11],by simp[h1,h2,h9,h10,h11],by simp[h1,h2,h9,h10,h11],by simp[h1,h2,h9,h10,h11],by simp,fun n hn=>?_⟩⟩
      rw[List.take_succ_eq_append_getElem g1,List.mem_append,List.mem_singleton] at hn
      rcases hn with hn|rfl
      . exact hall n hn
      . rw[e1,e2];exact g2
    . have g3:(f.ents[l[k].toNat].coat != f.ents[l[0].toNat].coat)=true:=by simp[g2]
      have:l.any (fun n=>decide ((entN f n).coat≠(entN f l[0]).coat))=true:=List.any_eq_true.2 ⟨_,List.getElem_mem g1,by rw[e1,e2];simp[g2]⟩
      rw[this] at h;simp[h1,h2,h9,h10,h11,g3];exact .done h
  . have:k=l.length:=by omega
    subst this;rw[List.take_length] at hall
    have:l.any (fun n=>decide ((entN f n).coat≠(entN f l[0]).coat))=false:=by
      rw[List.any_eq_false];intro n hn;simp[hall n hn]
    rw[this] at h;refine Resume.run lay [] ?_;simp[h1,h2,h9,h10,h11];exact .done h
def heightBreaks (f:Fr) (l:List Int):Bool:=decide (heightsOf f l=[])
theorem breaksH_ok {b mb:Nat} {f:Fr} {l:List Int} (hf:f.Good) (hl:InF f l) (h:KF (.val (bool (heightBreaks f l))) σ):FnOK Tryz.prog m 145 [.agg [],fpA b mb f 0,ints l] σ KF:=by
  refine FnOK.start lay [] [] 3 Tryz.func145 rfl rfl (by rfl) (by kernel_rfl) ?_
  simp[Tryz.f145];refine callFn Tryz.func52 rfl rfl (heights_ok hf hl.ne hl.len hl.mem ?_);refine Resume.run lay [] ?_;simp;unfold heightBreaks at h;cases hh:heightsOf f l with
  | nil=>rw[hh] at h;exact .done h
  | cons a r=>
    rw[hh] at h;have e:((r.length:Int)+1 == 0)=false:=by rw[beq_eq_false_iff_ne];omega
    refine .done ?_;simpa[e] using h
def tooFar (f:Fr) (x y:Int):Bool:=decide ((entN f y).hour-(entN f x).hour<rd f.roads (entN f x).place.toNat (entN f y).place.toNat+f.dye*changedOf (marksInt (entN f x).marks) (marksInt (entN f y).marks))
def hoursBreaks (f:Fr) (l:List Int):Bool:=(List.range (l.length-1)).any fun i=>tooFar f (l.getD i 0) (l.getD (i+1) 0)
theorem chkM_in:∀ {l:List Int} {p:Option Int},chkM p l=0->∀ n∈l,0≤n∧n≤4
  | [],_,_,n,hn=>by simp at hn
  | a :: l,p,h,n,hn=>by
    unfold chkM at h;split at h
    . cases h
    next q1=>
    split at h
    . cases h
    next q2=>
    rcases List.mem_cons.1 hn with rfl|hn
    . simp[isIn] at q1;omega
    . exact chkM_in h n hn
theorem setBit_lt:∀ a:Fin 32,∀ n:Fin 5,0≤setBit (a.val:Int) (n.val:Int)∧setBit (a.val:Int) (n.val:Int)<32:=by decide
theorem marksInt_lt {l:List Int} (h:∀ n∈l,0≤n∧n≤4):0≤marksInt l∧marksInt l<32:=by
  have key:∀ (l:List Int) (a:Int),(∀ n∈l,0≤n∧n≤4)->0≤a∧a<32->0≤l.foldl setBit a∧l.foldl setBit a<32:=by
    intro l
    induction l with
    | nil=>intro a _ h;exact h
    | cons x l ih=>
      intro a hx ha;rw[List.foldl_cons];refine ih _ (fun n hn=>hx n (List.mem_cons_of_mem _ hn)) ?_
      obtain⟨x0,x1⟩:=hx x (List.mem_cons_self ..);have:=setBit_lt ⟨a.toNat,by omega⟩ ⟨x.toNat,by omega⟩
      have e1:(a.toNat:Int)=a:=by omega
      have e2:(x.toNat:Int)=x:=by omega
      simpa only [e1,e2] using this
  exact key l 0 h (by omega)
theorem dropN_32:∀ a:Fin 32,∀ b:Fin 32,dropN 8 (xorU8 (a.val:Int) (b.val:Int))=0∧0≤changedOf (a.val:Int) (b.val:Int)∧changedOf (a.val:Int) (b.val:Int)≤5:=by decide +kernel
theorem drop_in {a b:Int} (ha:0≤a∧a<32) (hb:0≤b∧b<32):dropN 8 (xorU8 a b)=0∧0≤changedOf a b∧changedOf a b≤5:=by
  have:=dropN_32 ⟨a.toNat,by omega⟩ ⟨b.toNat,by omega⟩
  have e1:(a.toNat:Int)=a:=by omega
  have e2:(b.toNat:Int)=b:=by omega
  simpa only [e1,e2] using this
theorem Fr.Good.row {f:Fr} (hf:f.Good) {i:Nat} (hi:i<f.roads.length):f.roads[i].length=f.roads.length∧∀ x∈f.roads[i],0≤x∧x≤9:=by
  have h:=hf.rds;unfold roadsErr at h;split at h
  . cases h
  split at h
  . cases h
  split at h
  . next q=>exact absurd h q
  next q=>
  obtain⟨h1,h2⟩:=rowsErr_zero (by simpa using q) _ (List.getElem_mem hi)
  exact⟨h1,fun x hx=>isIn_bd (h2 x hx)⟩
theorem breaksO_ok {b mb:Nat} {f:Fr} {l:List Int} (hf:f.Good) (hl:InF f l) (h:KF (.val (bool (hoursBreaks f l))) σ):FnOK Tryz.prog m 146 [.agg [],fpA b mb f 0,ints l] σ KF:=by
  obtain⟨h0,hne,hlen⟩:=hl;have hdye:=hf.dye;unfold hoursBreaks at h;refine FnOK.start lay [] pl146 3 Tryz.func146 rfl rfl (by rfl) (by kernel_rfl) ?_
  simp[Tryz.f146];refine Resume.loop (l.length-1) (fun k s => ∃ env σ',s=⟨env,σ',[],.no⟩∧σ.Le σ'∧env 1=fpA b mb f 0∧env 2=ints l∧env 7=int ((k:Int)+1)∧∀ i<k,tooFar f (l.getD i 0) (l.getD (i+1) 0)=false) ⟨_,_,rfl,Store.le_refl _,by simp⟩ ?_
  rintro c0 k _ hk ⟨env,σ',rfl,hle,h1,h2,h7,hall⟩ ih
  rcases Nat.lt_or_ge (k+1) l.length with g1|g1
  . have g1':(k:Int)+1<l.length:=by omega
    have g0:k<l.length:=by omega
    obtain⟨x0,x1⟩:=h0 _ (List.getElem_mem g0);obtain⟨y0,y1⟩:=h0 _ (List.getElem_mem g1);have x2:l[k].toNat<f.ents.length:=by omega
    have y2:l[k+1].toNat<f.ents.length:=by omega
    have f1 : -9223372036854775808≤(k:Int)∧(k:Int)≤9223372036854775807:=by omega
    have f2:((k:Int)+1).toNat=k+1:=by omega
    have f3:(0:Int)≤(k:Int)+1:=by omega
    obtain⟨A,hA⟩:∃ A,A=f.ents[l[k].toNat]:=⟨_,rfl⟩;obtain⟨B,hB⟩:∃ B,B=f.ents[l[k+1].toNat]:=⟨_,rfl⟩;have eA:=entN_at x2;have eB:=entN_at y2;rw[← hA] at eA;rw[← hB] at eB;have bA:=entBd (hf.ent A (by rw[hA];exact List.getElem_mem x2))
    have bB:=entBd (hf.ent B (by rw[hB];exact List.getElem_mem y2))
    refine Resume.run lay [] ?_;simp[h1,h2,h7,g1',g0,g1,x0,x2,y0,y2,f1.1,f1.2,f2,f3,← hA,← hB];have hc9:=fun {c:Nat} (hc:σ' c=none)=>hle.none hc
    have pA:A.place.toNat<f.roads.length:=by omega
    obtain⟨r1,r2⟩:=hf.row pA;have pB:B.place.toNat<f.roads[A.place.toNat].length:=by omega
    obtain⟨r3,r4⟩:=r2 _ (List.getElem_mem pB);have hrd:rd f.roads A.place.toNat B.place.toNat=f.roads[A.place.toNat][B.place.toNat]:=rd_eq pA pB;have mA:=chkM_in bA.2.2.2.2.2;have mB:=chkM_in bB.2.2.2.2.2;have lA:=marksInt_lt mA;have lB:=marksInt_lt mB;obtain⟨c1,c2,c3⟩:=drop_in lA lB;obtain⟨ch,hch⟩:∃ ch,ch=changedOf (marksInt A.marks) (marksInt B.marks):=⟨_,rfl⟩;rw[← hch] at c2 c3
    have hmul:0≤f.dye*ch∧f.dye*ch≤30:=by
      constructor
      . exact Int.mul_nonneg (by omega) c2
      . calc f.dye*ch≤6*5:=Int.mul_le_mul hdye.2 c3 c2 (by omega)
          _=30:=by rfl
    have htoo:tooFar f l[k] l[k+1]=decide (B.hour-A.hour<f.roads[A.place.toNat][B.place.toNat]+f.dye*ch):=by
      unfold tooFar;rw[eA,eB,hrd,hch]
    have hk0:l.getD k 0=l[k]:=by simp[List.getD_eq_getElem?_getD,g0]
    have hk1:l.getD (k+1) 0=l[k+1]:=by simp[List.getD_eq_getElem?_getD,g1]
    have s1 : -9223372036854775808≤B.hour-A.hour∧B.hour-A.hour≤9223372036854775807:=by omega
    have s2 : -9223372036854775808≤f.dye*ch∧f.dye*ch≤9223372036854775807:=by omega
    have s3 : -9223372036854775808≤f.roads[A.place.toNat][B.place.toNat]+f.dye*ch∧f.roads[A.place.toNat][B.place.toNat]+f.dye*ch≤9223372036854775807:=by omega
    refine⟨newD.intro fun c hc=>?_,newD.intro fun c hc=>?_⟩
    . simp[h1,h2,h7]
      refine newD.intro fun d hd=>?_
      obtain⟨n1,n2,hd⟩:=Store.set_none hd;have hc0:=hc9 hc;have hd0:=hc9 hd;simp[h1,h2,h7,n1,n2,Store.set_ne];refine Resume.freezeAt 8 (b:=c) (entA A) (by simp[n1,n2,Store.set_ne]) (by simp) rfl ?_
      refine Resume.freezeAt 9 (b:=d) (entA B) (by simp[n1,n2,Store.set_ne,Store.del]) (by simp) rfl ?_
      refine Resume.run lay [] ?_;simp[h1,h2,h7,s1.1,s1.2,pA,pB];refine⟨by omega,by omega,?_⟩
      refine callFn Tryz.func147 rfl rfl (marksOf_ok (by have:=hf.fits.marks A (by rw[hA];exact List.getElem_mem x2);omega) (fun n hn=>(mA n hn).1) ?_)
      refine PendW.go lay [] ?_;simp[h1,h2,h7];refine callFn Tryz.func147 rfl rfl (marksOf_ok (by have:=hf.fits.marks B (by rw[hB];exact List.getElem_mem y2);omega) (fun n hn=>(mB n hn).1) ?_)
      refine PendW.go lay [] ?_;simp[h1,h2,h7];refine callFn Tryz.func148 rfl rfl (changed_ok c1 ?_);rw[← hch];refine PendW.go lay [] ?_;simp[h1,h2,h7,s2.1,s2.2,s3.1,s3.2];refine Resume.run lay [] ?_;simp[h1,h2,h7]
      by_cases g3:B.hour-A.hour<f.roads[A.place.toNat][B.place.toNat]+f.dye*ch
      . simp[h1,h2,h7,g3]
        have:(List.range (l.length-1)).any (fun i=>tooFar f (l.getD i 0) (l.getD (i+1) 0))=true:=List.any_eq_true.2 ⟨k,List.mem_range.2 (by omega),by rw[hk0,hk1,htoo];simpa using g3⟩
        rw[this] at h;exact .less (by repeat (first|exact Store.le_refl _|assumption|refine Store.le_upd ?_ (by assumption) | refine Store.le_del ?_ (by assumption))) (.done h)
      . simp[h1,h2,h7,g3]
        refine⟨by omega,ih _ (by omega) ⟨_,_,rfl,(by repeat (first|exact Store.le_refl _|assumption|refine Store.le_upd ?_ (by assumption) | refine Store.le_del ?_ (by assumption))),by simp[h1,h2,h7],by simp[h1,h2,h7],by simp,fun i hi=>?_⟩⟩
        by_cases e:i=k
        . subst e;rw[hk0,hk1,htoo];simpa using g3
        . exact hall i (by omega)
    . simp[h1,h2,h7]
      refine newD.intro fun d hd=>?_
      obtain⟨n1,n2,hd⟩:=Store.set_none hd;have hc0:=hc9 hc;have hd0:=hc9 hd;simp[h1,h2,h7,n1,n2,Store.set_ne];refine Resume.freezeAt 8 (b:=d) (entA A) (by simp[n1,n2,Store.set_ne]) (by simp) rfl ?_
      refine Resume.freezeAt 9 (b:=c) (entA B) (by simp[n1,n2,Store.set_ne,Store.del]) (by simp) rfl ?_
      refine Resume.run lay [] ?_;simp[h1,h2,h7,s1.1,s1.2,pA,pB];refine⟨by omega,by omega,?_⟩
      refine callFn Tryz.func147 rfl rfl (marksOf_ok (by have:=hf.fits.marks A (by rw[hA];exact List.getElem_mem x2);omega) (fun n hn=>(mA n hn).1) ?_)
      refine PendW.go lay [] ?_;simp[h1,h2,h7];refine callFn Tryz.func147 rfl rfl (marksOf_ok (by have:=hf.fits.marks B (by rw[hB];exact List.getElem_mem y2);omega) (fun n hn=>(mB n hn).1) ?_)
      refine PendW.go lay [] ?_;simp[h1,h2,h7];refine callFn Tryz.func148 rfl rfl (changed_ok c1 ?_);rw[← hch];refine PendW.go lay [] ?_;simp[h1,h2,h7,s2.1,s2.2,s3.1,s3.2];refine Resume.run lay [] ?_;simp[h1,h2,h7]
      by_cases g3:B.hour-A.hour<f.roads[A.place.toNat][B.place.toNat]+f.dye*ch
      . simp[h1,h2,h7,g3]
        have:(List.range (l.length-1)).any (fun i=>tooFar f (l.getD i 0) (l.getD (i+1) 0))=true:=List.any_eq_true.2 ⟨k,List.mem_range.2 (by omega),by rw[hk0,hk1,htoo];simpa using g3⟩
        rw[this] at h;exact .less (by repeat (first|exact Store.le_refl _|assumption|refine Store.le_upd ?_ (by assumption) | refine Store.le_del ?_ (by assumption))) (.done h)
      . simp[h1,h2,h7,g3]
        refine⟨by omega,ih _ (by omega) ⟨_,_,rfl,(by repeat (first|exact Store.le_refl _|assumption|refine Store.le_upd ?_ (by assumption) | refine Store.le_del ?_ (by assumption))),by simp[h1,h2,h7],by simp[h1,h2,h7],by simp,fun i hi=>?_⟩⟩
        by_cases e:i=k
        . subst e;rw[hk0,hk1,htoo];simpa using g3
        . exact hall i (by omega)
  . have g2 : ¬ (k:Int)+1<l.length:=by omega
    have:(List.range (l.length-1)).any (fun i=>tooFar f (l.getD i 0) (l.getD (i+1) 0))=false:=by
      rw[List.any_eq_false];intro i hi;rw[hall i (by have:=List.mem_range.1 hi;omega)]
      simp
    rw[this] at h;refine Resume.run lay [] ?_;simp[h1,h2,h7,g2];exact .less hle (.done h)
end Go.Proofs.YtibjfmfdjncniaaGreatDoor
namespace Go.Proofs.YtibjfmfdjncniaaGreatDoor
open Go.Pal Go.Conc
set_option maxHeartbeats 1000000
set_option maxRecDepth 4000
variable {m:Mo} {σ:Store} {KF:Res->Store->Prop}
theorem methC:(((Tryz.prog.info? 136).bind fun i=>i.methods.find? (·.name ==  "palfrey/mark.breaks")).map fun mt=>(mt.path,mt.func))=some (#[],some (144,false)):=by kernel_rfl
theorem methH:(((Tryz.prog.info? 137).bind fun i=>i.methods.find? (·.name ==  "palfrey/mark.breaks")).map fun mt=>(mt.path,mt.func))=some (#[],some (145,false)):=by kernel_rfl
theorem methO:(((Tryz.prog.info? 138).bind fun i=>i.methods.find? (·.name ==  "palfrey/mark.breaks")).map fun mt=>(mt.path,mt.func))=some (#[],some (146,false)):=by kernel_rfl
theorem meth_C {a:AV}:MethOK Tryz.prog 136  "palfrey/mark.breaks" 144 a a:=by
  obtain⟨mt,hmt,e⟩:=Option.map_eq_some_iff.1 methC;obtain⟨info,hi,hm⟩:=Option.bind_eq_some_iff.1 hmt;obtain⟨e1,e2⟩:=Prod.mk.inj e;exact methOK_own lay tt136 hi hm (by rw[e1]) e2 rfl
theorem meth_H {a:AV}:MethOK Tryz.prog 137  "palfrey/mark.breaks" 145 a a:=by
  obtain⟨mt,hmt,e⟩:=Option.map_eq_some_iff.1 methH;obtain⟨info,hi,hm⟩:=Option.bind_eq_some_iff.1 hmt;obtain⟨e1,e2⟩:=Prod.mk.inj e;exact methOK_own lay tt137 hi hm (by rw[e1]) e2 rfl
theorem meth_O {a:AV}:MethOK Tryz.prog 138  "palfrey/mark.breaks" 146 a a:=by
  obtain⟨mt,hmt,e⟩:=Option.map_eq_some_iff.1 methO;obtain⟨info,hi,hm⟩:=Option.bind_eq_some_iff.1 hmt;obtain⟨e1,e2⟩:=Prod.mk.inj e;exact methOK_own lay tt138 hi hm (by rw[e1]) e2 rfl
def hourSort (f:Fr) (l:List Int):List Int:=(sortR (fun a b=>decide (byHour f a b<0)) l).reverse
def whyN (f:Fr) (l:List Int):Int:=if coatBreaks f (hourSort f l) then 1 else if heightBreaks f (hourSort f l) then 2 else if hoursBreaks f (hourSort f l) then 3 else 0
abbrev whyA (n:Int):AV:=if n=1 then .ifc 136 (.agg []) else if n=2 then .ifc 137 (.agg []) else if n=3 then .ifc 138 (.agg []) else .lit .nilIface
theorem InF.sort {f:Fr} {l:List Int} (h:InF f l):InF f (hourSort f l):=
  ⟨fun n hn=>h.mem n ((sortR_mem _ _ _).1 (by simpa[hourSort] using hn)),fun e=>h.ne (by
    have:(hourSort f l).length=l.length:=by simp[hourSort,sortR_len]
    rw[e] at this;exact List.length_eq_zero_iff.1 this.symm),by simp[hourSort,sortR_len,h.len]⟩
theorem why_ok {b mb:Nat} {f:Fr} {l:List Int} (hf:f.Good) (hl:InF f l) (h20:l.length<20) (h:KF (.val (whyA (whyN f l))) σ):FnOK Tryz.prog m 50 [fpA b mb f 0,ints l] σ KF:=by
  have hs:=hl.sort;refine FnOK.start lay [] [] 2 Tryz.func50 rfl rfl (by rfl) (by kernel_rfl) ?_
  simp[Tryz.f50];refine newW.intro fun c hc=>?_
  simp;refine callFn Tryz.func83 rfl rfl (sort_ok why1_cmp hl.mem h20 hl.ne ⟨rfl,rfl⟩ ?_);obtain⟨S,hS⟩:∃ S,S=(sortR (fun a b=>decide (byHour f a b<0)) l).reverse:=⟨_,rfl⟩
  have hS':hourSort f l=S:=hS.symm;rw[hS'] at hs;unfold whyN at h;rw[hS'] at h;rw[← hS];refine Resume.run lay [] ?_;simp;refine Resume.loop 3 (fun k s => ∃ env σ',s=⟨env,σ',[],.no⟩∧σ.Le σ'∧env 1=ints S∧env 2 = .cp (fpA b mb f 0) 0∧env 19 = .sl 1 [.ifc 136 (.agg []),.ifc 137 (.agg []),.ifc 138 (.agg [])] .exact∧env 20=int 3∧env 21=int k∧(1≤k->coatBreaks f S=false)∧(2≤k->heightBreaks f S=false)∧(3≤k->hoursBreaks f S=false)) ⟨_,_,rfl,Store.le_set (Store.le_refl _) hc,by simp,by simp,by simp,by simp,by simp,by simp,by simp,by simp⟩ ?_
  rintro c0 k _ hk ⟨env,σ',rfl,hle,h1,h2,h19,h20,h21,q1,q2,q3⟩ ih
  obtain rfl|rfl|rfl|rfl:k=0∨k=1∨k=2∨k=3:=by omega
  . refine Resume.run lay [] ?_
    simp[h1,h2,h19,h20,h21];refine Resume.invoke rfl rfl rfl (by simp) rfl meth_C Tryz.func144 rfl rfl ?_
    refine breaksC_ok hs ?_;refine Resume.run lay [] ?_;simp[h1,h2,h19,h20,h21];cases hb:coatBreaks f S
    . simp[h1,h2,h19,h20,h21]
      exact ih _ (by omega) ⟨_,_,rfl,hle,by simp[h1,h2,h19,h20,h21],by simp[h1,h2,h19,h20,h21],by simp[h1,h2,h19,h20,h21],by simp[h1,h2,h19,h20,h21],by simp,fun _=>hb,fun q=>(by omega),fun q=>(by omega)⟩
    . simp[h1,h2,h19,h20,h21]
      simp[hb] at h;exact .less hle (.done h)
  . have e1:=q1 (by omega)
    refine Resume.run lay [] ?_;simp[h1,h2,h19,h20,h21];refine Resume.invoke rfl rfl rfl (by simp) rfl meth_H Tryz.func145 rfl rfl ?_
    refine breaksH_ok hf hs ?_;refine Resume.run lay [] ?_;simp[h1,h2,h19,h20,h21];cases hb:heightBreaks f S
    . simp[h1,h2,h19,h20,h21]
      exact ih _ (by omega) ⟨_,_,rfl,hle,by simp[h1,h2,h19,h20,h21],by simp[h1,h2,h19,h20,h21],by simp[h1,h2,h19,h20,h21],by simp[h1,h2,h19,h20,h21],by simp,fun _=>e1,fun _=>hb,fun q=>(by omega)⟩
    . simp[h1,h2,h19,h20,h21]
      simp[hb,e1] at h;exact .less hle (.done h)
  . have e1:=q1 (by omega)
    have e2:=q2 (by omega)
    refine Resume.run lay [] ?_;simp[h1,h2,h19,h20,h21];refine Resume.invoke rfl rfl rfl (by simp) rfl meth_O Tryz.func146 rfl rfl ?_
    refine breaksO_ok hf hs ?_;refine Resume.run lay [] ?_;simp[h1,h2,h19,h20,h21];cases hb:hoursBreaks f S
    . simp[h1,h2,h19,h20,h21]
      exact ih _ (by omega) ⟨_,_,rfl,hle,by simp[h1,h2,h19,h20,h21],by simp[h1,h2,h19,h20,h21],by simp[h1,h2,h19,h20,h21],by simp[h1,h2,h19,h20,h21],by simp,fun _=>e1,fun _=>e2,fun _=>hb⟩
    . simp[h1,h2,h19,h20,h21]
      simp[hb,e1,e2] at h;exact .less hle (.done h)
  . have e1:=q1 (by omega)
    have e2:=q2 (by omega)
    have e3:=q3 (by omega)
    simp[e1,e2,e3] at h;refine Resume.run lay [] ?_;simp[h1,h2,h19,h20,h21];exact .less hle (.done h)
end Go.Proofs.YtibjfmfdjncniaaGreatDoor
namespace Go.Proofs.YtibjfmfdjncniaaGreatDoor
open Go Go.Pal
set_option maxRecDepth 100000
abbrev nn:MuN:=⟨89,90,104,105,111,113,62,63,74,61,110,112,116,117,119,120,122,181,115,21⟩
theorem muChk_e1:∀ (fl:Fl) b o kind,nextM Tryz.prog fl [0,5] (LD Tryz.prog nn b o kind) un=some (FAST Tryz.prog nn b o kind):=by intro fl b o kind;kernel_rfl
theorem muChk_e2:∀ (fl:Fl) b o kind,nextM Tryz.prog fl [0] (FAST Tryz.prog nn b o kind) tt=some (LE1 Tryz.prog nn b o kind):=by intro fl b o kind;kernel_rfl
theorem muChk_e3:∀ (fl:Fl) b o kind,nextM Tryz.prog fl [0,2,3,4,5,12] (FAST Tryz.prog nn b o kind) ff=some (RDI Tryz.prog nn b o kind):=by intro fl b o kind;kernel_rfl
theorem muChk_e4:∀ (fl:Fl) b o kind,nextM Tryz.prog fl [8] (LE1 Tryz.prog nn b o kind) un=some (CV1 Tryz.prog nn b o kind):=by intro fl b o kind;kernel_rfl
theorem muChk_e5:∀ (fl:Fl) b o kind,nextM Tryz.prog fl [9] (CV1 Tryz.prog nn b o kind) (pt b o)=some (LA1 Tryz.prog nn b o kind):=by intro fl b o kind;kernel_rfl
theorem muChk_e6:∀ (fl:Fl) b o kind,nextM Tryz.prog fl [] (LA1 Tryz.prog nn b o kind) un=some (BK nn kind):=by intro fl b o kind;kernel_rfl
theorem muChk_e70:∀ (fl:Fl) b o kind L K S aw sv it,nextH Tryz.prog fl [0,2,3,4,5,6] (RD0 Tryz.prog nn b o kind aw sv it) (.word L K S 0)=some (HD Tryz.prog nn b o kind L K S aw sv it):=by intro fl b o kind L K S aw sv it;kernel_rfl
theorem muChk_e71:∀ (fl:Fl) b o kind L K S aw sv it,nextH Tryz.prog fl [0,2,3,4,5,6] (RD1 Tryz.prog nn b o kind aw sv it) (.word L K S 0)=some (HD Tryz.prog nn b o kind L K S aw sv it):=by intro fl b o kind L K S aw sv it;kernel_rfl
theorem muChk_e72:∀ (fl:Fl) b o kind L K S aw sv it,nextH Tryz.prog fl [0,2,3,4,5,6] (RD2 Tryz.prog nn b o kind aw sv it) (.word L K S 0)=some (HD Tryz.prog nn b o kind L K S aw sv it):=by intro fl b o kind L K S aw sv it;kernel_rfl
theorem muChk_e8:∀ (fl:Fl) b o kind K aw sv it,goM Tryz.prog fl [0,2,3,4,5,6,17,18] (HD Tryz.prog nn b o kind true K false aw sv it)=SQ Tryz.prog nn b o kind K aw sv it:=by intro fl b o kind K aw sv it;cases K <;> cases aw <;> cases sv <;> kernel_rfl
theorem muChk_e9:∀ (fl:Fl) b o kind L K S aw sv it,(L && !S)=false->(aw && !K)=false->goM Tryz.prog fl [0,2,3,4,5,6,77,78,79] (HD Tryz.prog nn b o kind L K S aw sv it)=CAS Tryz.prog nn b o kind L K S aw sv it:=by intro fl b o kind L K S aw sv it h1 h2;cases L <;> cases K <;> cases S <;> cases aw <;> cases sv <;> first|exact absurd h1 (by decide) | exact absurd h2 (by decide) | kernel_rfl
theorem muChk_e10:∀ (fl:Fl) b o kind it,nextM Tryz.prog { fl with n0:=false } [0,2,3,4,5,33,36,37,39] (SQ Tryz.prog nn b o kind false false false it) tt=some (SW Tryz.prog nn b o kind it):=by intro fl b o kind it;kernel_rfl
theorem muChk_e10q:∀ (fl:Fl) b o kind n0 K aw sv it,(!aw && !K && !n0)=false->nextM Tryz.prog { fl with n0:=n0 } [0,2,3,4,5] (SQ Tryz.prog nn b o kind K aw sv it) tt=some (DS Tryz.prog nn b o kind aw sv it):=by intro fl b o kind n0 K aw sv it h;cases n0 <;> cases K <;> cases aw <;> cases sv <;> first|exact absurd h (by decide) | kernel_rfl
theorem muChk_e11:∀ (fl:Fl) b o kind K aw sv it,(aw && !K)=false->nextM Tryz.prog fl [0,2,3,4,5,6,77,78,79] (SQ Tryz.prog nn b o kind K aw sv it) ff=some (CAS Tryz.prog nn b o kind true K false aw sv it):=by intro fl b o kind K aw sv it h;cases K <;> cases aw <;> cases sv <;> first|exact absurd h (by decide) | kernel_rfl
theorem muChk_e12:∀ (fl:Fl) b o kind r it,nextM Tryz.prog fl [0,2,3,4,5] (SW Tryz.prog nn b o kind it) (bl r)=some (DS Tryz.prog nn b o kind r false it):=by intro fl b o kind r it;cases r <;> kernel_rfl
theorem muChk_e130:∀ (fl:Fl) b o kind aw sv,nextM Tryz.prog fl [0,2,3,4,5,47] (DS Tryz.prog nn b o kind aw sv 0) un=some (RD1 Tryz.prog nn b o kind aw sv 1):=by intro fl b o kind aw sv;kernel_rfl
theorem muChk_e131:∀ (fl:Fl) b o kind aw sv,nextM Tryz.prog fl [0,2,3,4,5,47] (DS Tryz.prog nn b o kind aw sv 1) un=some (RD1 Tryz.prog nn b o kind aw sv 2):=by intro fl b o kind aw sv;kernel_rfl
theorem muChk_e132:∀ (fl:Fl) b o kind aw sv,nextM Tryz.prog fl [0,2,3,4,5,47] (DS Tryz.prog nn b o kind aw sv 2) un=some (RD1 Tryz.prog nn b o kind aw sv 3):=by intro fl b o kind aw sv;kernel_rfl
theorem muChk_e133:∀ (fl:Fl) b o kind aw sv,nextM Tryz.prog fl [0,2,3,4,5,47] (DS Tryz.prog nn b o kind aw sv 3) un=some (RD1 Tryz.prog nn b o kind aw sv 4):=by intro fl b o kind aw sv;kernel_rfl
theorem muChk_e14:∀ (fl:Fl) b o kind K aw sv it,nextM Tryz.prog fl [0] (CAS Tryz.prog nn b o kind false K false aw sv it) tt=some (LE2 Tryz.prog nn b o kind):=by intro fl b o kind K aw sv it;cases K <;> kernel_rfl
theorem muChk_e14t:∀ (fl:Fl) b o kind L K S aw sv it,(L || S)=true->nextM Tryz.prog { fl with wz:=true } [0,3] (CAS Tryz.prog nn b o kind L K S aw sv it) tt=some (T1 Tryz.prog nn b o kind sv):=by intro fl b o kind L K S aw sv it h;cases L <;> cases K <;> cases S <;> first|exact absurd h (by decide) | kernel_rfl
theorem muChk_e14p:∀ (fl:Fl) b o kind L K S aw sv it,(L || S)=true->nextM Tryz.prog { fl with wz:=false } [0,2,3,91] (CAS Tryz.prog nn b o kind L K S aw sv it) tt=some (PK Tryz.prog nn b o kind sv):=by intro fl b o kind L K S aw sv it h;cases L <;> cases K <;> cases S <;> first|exact absurd h (by decide) | kernel_rfl
theorem muChk_e15:∀ (fl:Fl) b o kind L K S aw sv it,nextM Tryz.prog fl [0,2,3,4,5,133] (CAS Tryz.prog nn b o kind L K S aw sv it) ff=some (RD2 Tryz.prog nn b o kind aw sv it):=by intro fl b o kind L K S aw sv it;kernel_rfl
theorem muChk_e16:∀ (fl:Fl) b o kind sv,nextM Tryz.prog fl [0,2,3,91] (T1 Tryz.prog nn b o kind sv) .wst=some (PK Tryz.prog nn b o kind sv):=by intro fl b o kind sv;kernel_rfl
theorem muChk_e17t:∀ (fl:Fl) b o kind,nextM Tryz.prog fl [0,2,3,103] (PK Tryz.prog nn b o kind true) un=some (UP Tryz.prog nn b o kind true):=by intro fl b o kind;kernel_rfl
theorem muChk_e17f:∀ (fl:Fl) b o kind,nextM Tryz.prog fl [0,2,95] (PK Tryz.prog nn b o kind false) un=some (TQ Tryz.prog nn b o kind):=by intro fl b o kind;kernel_rfl
theorem muChk_e18:∀ (fl:Fl) b o kind x,nextM Tryz.prog { fl with tb:=x } [0,2,3,103] (TQ Tryz.prog nn b o kind) .now=some (UP Tryz.prog nn b o kind x):=by intro fl b o kind x;cases x <;> kernel_rfl
theorem muChk_e19:∀ (fl:Fl) b o kind sv n1,nextM Tryz.prog { fl with n0:=false,n1:=n1 } [0,128,129] (UP Tryz.prog nn b o kind sv) (.word false false true 0)=some (AD Tryz.prog nn b o kind (if !sv || n1 then -11 else -7)):=by intro fl b o kind sv n1;cases sv <;> cases n1 <;> kernel_rfl
theorem muChk_e20:∀ (fl:Fl) b o kind L K sv,nextH Tryz.prog fl [0,2,3,4,5,6] (UP Tryz.prog nn b o kind sv) (.word L K false 0)=some (HD Tryz.prog nn b o kind L K false true sv 0):=by intro fl b o kind L K sv;cases L <;> cases K <;> kernel_rfl
theorem muChk_e21:∀ (fl:Fl) b o kind d,nextM Tryz.prog fl [0] (AD Tryz.prog nn b o kind d) .junk=some (LE2 Tryz.prog nn b o kind):=by intro fl b o kind d;kernel_rfl
theorem muChk_e22:∀ (fl:Fl) b o kind,nextM Tryz.prog fl [136] (LE2 Tryz.prog nn b o kind) un=some (CV2 Tryz.prog nn b o kind):=by intro fl b o kind;kernel_rfl
theorem muChk_e23:∀ (fl:Fl) b o kind,nextM Tryz.prog fl [137] (CV2 Tryz.prog nn b o kind) (pt b o)=some (LA2 Tryz.prog nn b o kind):=by intro fl b o kind;kernel_rfl
theorem muChk_e24:∀ (fl:Fl) b o kind,nextM Tryz.prog fl [] (LA2 Tryz.prog nn b o kind) un=some (BK nn kind):=by intro fl b o kind;kernel_rfl
theorem muChk_u1:∀ (fl:Fl) b o kind,nextM Tryz.prog fl [0,7] (U0 Tryz.prog nn b o kind) .junk=some (CVU Tryz.prog nn b o kind):=by intro fl b o kind;kernel_rfl
theorem muChk_u2:∀ (fl:Fl) b o kind,nextM Tryz.prog fl [0,8] (CVU Tryz.prog nn b o kind) (pt b o)=some (UR Tryz.prog nn b o kind):=by intro fl b o kind;kernel_rfl
theorem muChk_u3:∀ (fl:Fl) b o kind,nextM Tryz.prog fl [0] (UR Tryz.prog nn b o kind) un=some (UD Tryz.prog nn b o kind):=by intro fl b o kind;kernel_rfl
theorem muChk_u4:∀ (fl:Fl) b o kind,nextM Tryz.prog fl [0,13] (UD Tryz.prog nn b o kind) un=some (HELD Tryz.prog nn b o kind):=by intro fl b o kind;kernel_rfl
theorem muChk_u5:∀ (fl:Fl) b o kind n0 K,(n0 || K)=true->nextM Tryz.prog { fl with n0:=n0 } [] (HELD Tryz.prog nn b o kind) (.word false K false 0)=some (UE Tryz.prog nn b o kind):=by intro fl b o kind n0 K h;cases n0 <;> cases K <;> first|exact absurd h (by decide) | kernel_rfl
theorem muChk_u5g:∀ (fl:Fl) b o kind n0 K,nextM Tryz.prog { fl with n0:=n0 } [41] (HELD Tryz.prog nn b o kind) (.word false K true 0)=some (G9 Tryz.prog nn b o kind):=by intro fl b o kind n0 K;cases n0 <;> cases K <;> kernel_rfl
theorem muChk_u5c:∀ (fl:Fl) b o kind,nextM Tryz.prog { fl with n0:=false } [0,27,28,29] (HELD Tryz.prog nn b o kind) (.word false false false 0)=some (UC Tryz.prog nn b o kind):=by intro fl b o kind;kernel_rfl
theorem muChk_u6t:∀ (fl:Fl) b o kind,nextM Tryz.prog fl [33] (UC Tryz.prog nn b o kind) tt=some (G7 Tryz.prog nn b o kind):=by intro fl b o kind;kernel_rfl
theorem muChk_u6f:∀ (fl:Fl) b o kind,nextM Tryz.prog fl [0,37] (UC Tryz.prog nn b o kind) ff=some (URD Tryz.prog nn b o kind):=by intro fl b o kind;kernel_rfl
theorem muChk_u7:∀ (fl:Fl) b o kind n0 L K S,(n0 || L || K || S)=true->nextM Tryz.prog { fl with n0:=n0 } [] (URD Tryz.prog nn b o kind) (.word L K S 0)=some (UE Tryz.prog nn b o kind):=by intro fl b o kind n0 L K S h;cases n0 <;> cases L <;> cases K <;> cases S <;> first|exact absurd h (by decide) | kernel_rfl
theorem muChk_u7c:∀ (fl:Fl) b o kind,nextM Tryz.prog { fl with n0:=false } [0,27,28,29] (URD Tryz.prog nn b o kind) (.word false false false 0)=some (UC Tryz.prog nn b o kind):=by intro fl b o kind;kernel_rfl
theorem muChk_u8:∀ (fl:Fl) b o kind,nextM Tryz.prog fl [] (G7 Tryz.prog nn b o kind) un=some (UE Tryz.prog nn b o kind):=by intro fl b o kind;kernel_rfl
theorem muChk_u9:∀ (fl:Fl) b o kind,nextM Tryz.prog fl [] (G9 Tryz.prog nn b o kind) un=some (UE Tryz.prog nn b o kind):=by intro fl b o kind;kernel_rfl
theorem muChk_u10:∀ (fl:Fl) b o kind,nextM Tryz.prog fl [] (UE Tryz.prog nn b o kind) un=some (BKU nn kind):=by intro fl b o kind;kernel_rfl
theorem muChk_o1:∀ b o kind,opAt (LD Tryz.prog nn b o kind).1=some (nn.dis,[])∧(LD Tryz.prog nn b o kind).1.kind = .normal:=by intro b o kind;exact⟨by kernel_rfl,by kernel_rfl⟩
theorem muChk_o2:∀ b o kind,opAt (FAST Tryz.prog nn b o kind).1=some (nn.cas,[pt b o,i32 0,i32 1]):=by intro b o kind;kernel_rfl
theorem muChk_o3:∀ b o kind,opAt (LE1 Tryz.prog nn b o kind).1=some (nn.en,[]):=by intro b o kind;kernel_rfl
theorem muChk_o4:∀ b o kind,cvAt (CV1 Tryz.prog nn b o kind).1=some (nn.tM,nn.tU,pt b o):=by intro b o kind;kernel_rfl
theorem muChk_o5:∀ b o kind,opAt (LA1 Tryz.prog nn b o kind).1=some (nn.acq,[pt b o]):=by intro b o kind;kernel_rfl
theorem muChk_o60:∀ b o kind aw sv it,ldAt (RD0 Tryz.prog nn b o kind aw sv it).1=some (nn.tI,pt b o):=by intro b o kind aw sv it;kernel_rfl
theorem muChk_o61:∀ b o kind aw sv it,ldAt (RD1 Tryz.prog nn b o kind aw sv it).1=some (nn.tI,pt b o):=by intro b o kind aw sv it;kernel_rfl
theorem muChk_o62:∀ b o kind aw sv it,ldAt (RD2 Tryz.prog nn b o kind aw sv it).1=some (nn.tI,pt b o):=by intro b o kind aw sv it;kernel_rfl
theorem muChk_o7:∀ b o kind K aw sv it,opAt (SQ Tryz.prog nn b o kind K aw sv it).1=some (nn.spin,[i64 it]):=by intro b o kind K aw sv it;kernel_rfl
theorem muChk_o8:∀ b o kind it,opAt (SW Tryz.prog nn b o kind it).1=some (nn.cas,[pt b o,.word true false false 0,.word true true false 0]):=by intro b o kind it;kernel_rfl
theorem muChk_o9:∀ b o kind aw sv it,opAt (DS Tryz.prog nn b o kind aw sv it).1=some (nn.dospin,[]):=by intro b o kind aw sv it;kernel_rfl
theorem muChk_o10:∀ b o kind L K S aw sv it,opAt (CAS Tryz.prog nn b o kind L K S aw sv it).1=some (nn.cas,[pt b o,.word L K S 0,wNew L K S aw sv]):=by intro b o kind L K S aw sv it;kernel_rfl
theorem muChk_o11:∀ b o kind sv,opAt (T1 Tryz.prog nn b o kind sv).1=some (nn.nano,[]):=by intro b o kind sv;kernel_rfl
theorem muChk_o12:∀ b o kind sv,opAt (PK Tryz.prog nn b o kind sv).1=some (nn.sem,[pt b (o+1),.junk,i64 2]):=by intro b o kind sv;kernel_rfl
theorem muChk_o13:∀ b o kind,opAt (TQ Tryz.prog nn b o kind).1=some (nn.nano,[]):=by intro b o kind;kernel_rfl
theorem muChk_o14:∀ b o kind sv,ldAt (UP Tryz.prog nn b o kind sv).1=some (nn.tI,pt b o):=by intro b o kind sv;kernel_rfl
theorem muChk_o15:∀ b o kind d,opAt (AD Tryz.prog nn b o kind d).1=some (nn.add,[pt b o,i32 d]):=by intro b o kind d;kernel_rfl
theorem muChk_o16:∀ b o kind,opAt (LE2 Tryz.prog nn b o kind).1=some (nn.en,[]):=by intro b o kind;kernel_rfl
theorem muChk_o17:∀ b o kind,cvAt (CV2 Tryz.prog nn b o kind).1=some (nn.tM,nn.tU,pt b o):=by intro b o kind;kernel_rfl
theorem muChk_o18:∀ b o kind,opAt (LA2 Tryz.prog nn b o kind).1=some (nn.acq,[pt b o]):=by intro b o kind;kernel_rfl
theorem muChk_o20:∀ b o kind,ldAt (U0 Tryz.prog nn b o kind).1=some (nn.tI,pt b o)∧(U0 Tryz.prog nn b o kind).1.kind = .normal∧(U0 Tryz.prog nn b o kind).1.fn=nn.iunlock:=by intro b o kind;exact⟨by kernel_rfl,by kernel_rfl,by kernel_rfl⟩
theorem muChk_o21:∀ b o kind,cvAt (CVU Tryz.prog nn b o kind).1=some (nn.tM,nn.tU,pt b o):=by intro b o kind;kernel_rfl
theorem muChk_o22:∀ b o kind,opAt (UR Tryz.prog nn b o kind).1=some (nn.rel,[pt b o]):=by intro b o kind;kernel_rfl
theorem muChk_o23:∀ b o kind,opAt (UD Tryz.prog nn b o kind).1=some (nn.dis,[]):=by intro b o kind;kernel_rfl
theorem muChk_o24:∀ b o kind,opAt (HELD Tryz.prog nn b o kind).1=some (nn.add,[pt b o,i32 (-1)]):=by intro b o kind;kernel_rfl
theorem muChk_o25:∀ b o kind,opAt (UC Tryz.prog nn b o kind).1=some (nn.cas,[pt b o,wf,.word false true false (-1)]):=by intro b o kind;kernel_rfl
theorem muChk_o26:∀ b o kind,opAt (G7 Tryz.prog nn b o kind).1=some (nn.semr,[pt b (o+1),ff,i64 2]):=by intro b o kind;kernel_rfl
theorem muChk_o27:∀ b o kind,opAt (G9 Tryz.prog nn b o kind).1=some (nn.semr,[pt b (o+1),tt,i64 2]):=by intro b o kind;kernel_rfl
theorem muChk_o28:∀ b o kind,ldAt (URD Tryz.prog nn b o kind).1=some (nn.tI,pt b o):=by intro b o kind;kernel_rfl
theorem muChk_o29:∀ b o kind,opAt (UE Tryz.prog nn b o kind).1=some (nn.en,[]):=by intro b o kind;kernel_rfl
theorem muChk_p1:∀ b o kind,(stL Tryz.prog nn b o kind).all (·.env.all plain)=true∧(LD Tryz.prog nn b o kind).1.env.all plain=true∧(LD Tryz.prog nn b o kind).2=stL Tryz.prog nn b o kind:=by intro b o kind;exact⟨by kernel_rfl,by kernel_rfl,by kernel_rfl⟩
theorem muChk_p2:∀ b o kind,(stS Tryz.prog nn b o kind).all (·.env.all plain)=true:=by intro b o kind;kernel_rfl
theorem muChk_p3:∀ b o kind,(stU Tryz.prog nn b o kind).all (·.env.all plain)=true∧(U0 Tryz.prog nn b o kind).1.env.all plain=true∧(U0 Tryz.prog nn b o kind).2=stU Tryz.prog nn b o kind:=by intro b o kind;exact⟨by kernel_rfl,by kernel_rfl,by kernel_rfl⟩
theorem muChk_p4:∀ b o kind,(stV Tryz.prog nn b o kind).all (·.env.all plain)=true:=by intro b o kind;kernel_rfl
theorem muChk:MuChk Tryz.prog nn where
  e1:=muChk_e1
  e2:=muChk_e2
  e3:=muChk_e3
  e4:=muChk_e4
  e5:=muChk_e5
  e6:=muChk_e6
  e70:=muChk_e70
  e71:=muChk_e71
  e72:=muChk_e72
  e8:=muChk_e8
  e9:=muChk_e9
  e10:=muChk_e10
  e10':=muChk_e10q
  e11:=muChk_e11
  e12:=muChk_e12
  e130:=muChk_e130
  e131:=muChk_e131
  e132:=muChk_e132
  e133:=muChk_e133
  e14:=muChk_e14
  e14t:=muChk_e14t
  e14p:=muChk_e14p
  e15:=muChk_e15
  e16:=muChk_e16
  e17t:=muChk_e17t
  e17f:=muChk_e17f
  e18:=muChk_e18
  e19:=muChk_e19
  e20:=muChk_e20
  e21:=muChk_e21
  e22:=muChk_e22
  e23:=muChk_e23
  e24:=muChk_e24
  u1:=muChk_u1
  u2:=muChk_u2
  u3:=muChk_u3
  u4:=muChk_u4
  u5:=muChk_u5
  u5g:=muChk_u5g
  u5c:=muChk_u5c
  u6t:=muChk_u6t
  u6f:=muChk_u6f
  u7:=muChk_u7
  u7c:=muChk_u7c
  u8:=muChk_u8
  u9:=muChk_u9
  u10:=muChk_u10
  o1:=muChk_o1
  o2:=muChk_o2
  o3:=muChk_o3
  o4:=muChk_o4
  o5:=muChk_o5
  o60:=muChk_o60
  o61:=muChk_o61
  o62:=muChk_o62
  o7:=muChk_o7
  o8:=muChk_o8
  o9:=muChk_o9
  o10:=muChk_o10
  o11:=muChk_o11
  o12:=muChk_o12
  o13:=muChk_o13
  o14:=muChk_o14
  o15:=muChk_o15
  o16:=muChk_o16
  o17:=muChk_o17
  o18:=muChk_o18
  o20:=muChk_o20
  o21:=muChk_o21
  o22:=muChk_o22
  o23:=muChk_o23
  o24:=muChk_o24
  o25:=muChk_o25
  o26:=muChk_o26
  o27:=muChk_o27
  o28:=muChk_o28
  o29:=muChk_o29
  p1:=muChk_p1
  p2:=muChk_p2
  p3:=muChk_p3
  p4:=muChk_p4
theorem muExt:MuExt Tryz.prog nn where
  dis:=⟨_,rfl,rfl,rfl,rfl,rfl⟩
  en:=⟨_,rfl,rfl,rfl,rfl,rfl⟩
  acq:=⟨_,rfl,rfl,rfl,rfl,rfl⟩
  rel:=⟨_,rfl,rfl,rfl,rfl,rfl⟩
  cas:=⟨_,rfl,rfl,rfl,rfl,rfl⟩
  add:=⟨_,rfl,rfl,rfl,rfl,rfl⟩
  spin:=⟨_,rfl,rfl,rfl,rfl,rfl⟩
  dospin:=⟨_,rfl,rfl,rfl,rfl,rfl⟩
  nano:=⟨_,rfl,rfl,rfl,rfl,rfl⟩
  nanoN:=⟨_,rfl,rfl⟩
  sem:=⟨_,rfl,rfl,rfl,rfl,rfl⟩
  semr:=⟨_,rfl,rfl,rfl,rfl,rfl⟩
  tyI:=by kernel_rfl
  tyM:=⟨_,rfl,rfl,rfl⟩
  nS:=⟨_,rfl,rfl⟩
  nU:=⟨_,rfl,rfl⟩
  nV:=⟨_,rfl,rfl⟩
end Go.Proofs.YtibjfmfdjncniaaGreatDoor
namespace Go.Proofs.YtibjfmfdjncniaaGreatDoor
open Go.Pal Go.Conc
set_option maxHeartbeats 1000000
set_option maxRecDepth 4000
variable {m:Mo} {σ:Store} {KF:Res->Store->Prop}
def canOf (f:Fr) (x:Int):Bool:=decide (whyN f (bitsOf x)=0)
def Known (f:Fr) (l:List (Int × AV)):Prop := ∀ n a,alook l n=some a->a=bool (canOf f n)
theorem mapK:MapK Tryz.prog 82 108 4 5 .u8:=.of (by kernel_rfl) (by kernel_rfl) (by kernel_rfl) (by kernel_rfl)
theorem whyN_in (f:Fr) (l:List Int):whyN f l=0∨whyN f l=1∨whyN f l=2∨whyN f l=3:=by
  unfold whyN;split
  . exact .inr (.inl rfl)
  split
  . exact .inr (.inr (.inl rfl))
  split
  . exact .inr (.inr (.inr rfl))
  . exact .inl rfl
theorem whyA_ifc {f:Fr} {l:List Int} (h:whyN f l≠0):∃ d a,whyA (whyN f l) = .ifc d a:=by
  rcases whyN_in f l with e|e|e|e
  . exact absurd e h
  all_goals rw[e];exact⟨_,_,rfl⟩
theorem known_put {f:Fr} {l:List (Int × AV)} {x n:Int} {a:AV} (hk:Known f l) (h:alook (l ++ [(x,bool (canOf f x))]) n=some a):a=bool (canOf f n):=by
  unfold alook at h;rw[List.find?_append] at h;cases e:l.find? (fun p=>n == p.1) with
  | some p=>
    rw[e] at h;simp only[Option.some_or,Option.map_some,Option.some.injEq] at h;subst h;exact hk n p.2 (by unfold alook;rw[e];rfl)
  | none=>
    rw[e] at h;simp only[Option.none_or,List.find?_cons,List.find?_nil] at h;split at h
    . next q=>
      simp only[Option.map_some,Option.some.injEq] at h;rw[beq_iff_eq] at q;subst h;rw[q]
    . cases h
theorem can_ok {b mb:Nat} {f:Fr} {x:Int} {Un:Store->Prop} {Ld:Store->List (Int × AV)->Prop} (LK:LkM Tryz.prog m nn b 6 mb .u8 (Known f) Un Ld) (hf:f.Good) (hx:InF f (bitsOf x)) (h20:(bitsOf x).length<20) (hu:Un σ) (h:∀ σ',Un σ'->LKeep b mb σ σ'->KF (.val (bool (canOf f x))) σ'):FnOK Tryz.prog m 58 [fpA b mb f 0,horseA x] σ KF:=by
  refine FnOK.start lay [] pl58 2 Tryz.func58 rfl rfl (by rfl) (by kernel_rfl) ?_
  simp[Tryz.f58];refine callFn Tryz.func89 rfl rfl (LK.lock (atLock_kp _ _ _ _) hu fun σ1 l hl hk hk1 hk2'=>?_)
  refine Resume.run lay [] ?_;simp;refine Resume.defer rfl rfl rfl rfl (by simp) rfl ?_
  refine Resume.run lay [] ?_;simp;refine os_lookup1 lay mapK tt5 rfl rfl tt4 rfl rfl (LK.map hl) ?_;refine PendW.go lay [] ?_;simp
  have hfin:∀ (env:Env) (σ2:Store) l2,env 4=bool (canOf f x)->Ld σ2 l2->Known f l2->(∀ c,c≠b->c≠mb->σ2 c=σ c)->DefOK Tryz.prog m (.func 90) [] [AV.kp b [entsA f.ents,rows f.roads,int f.sfrom,int f.sto,int f.dye,int f.most,.lit (.int .i32 0),.lit (.int .u32 0),.map mb] [6,7] 6] .ret σ2 (fun md' σ'=>Unw lay m [ResultVar.tmp 4] env (Thaw KF) [] md' σ'):=fun env σ2 l2 he hl2 hk2 hs2=>by
    refine DefOK.func Tryz.func90 rfl rfl (LK.unlock (atLock_kp _ _ _ _) hl2 hk2 fun σ3 hu3 hs3=>?_)
    refine⟨[env 4],rfl,.done ?_⟩;rw[show oneOf [env 4]=env 4 from rfl,he]
    refine h σ3 hu3 fun c y hy h1 h2=>?_
    have hmb:c≠mb:=fun e=>by
      subst e
      rcases h2 with h2|h2
      . exact h2 rfl
      . have:=hk2' y hy
        rw[h2] at this;cases this
    rw[hs3 c h1 hmb,hs2 c h1 hmb];exact hy
  cases hlk:alook l x with
  | some a=>
    have ha:=hk x a hlk;subst ha;simp;refine Resume.run lay [] ?_;simp;exact hfin _ _ _ (by simp) hl hk hk1
  | none=>
    simp;refine Resume.run lay [] ?_;simp;refine callFn Tryz.func91 rfl rfl (hlist_ok ?_);refine Resume.run lay [] ?_;simp;refine callFn Tryz.func50 rfl rfl (why_ok hf hx h20 ?_);refine Resume.run lay [] ?_;simp;have hcan:decide (whyN f (bitsOf x)=0)=canOf f x:=rfl;refine os_ifaceNil lay rfl tt103 rfl (isNil:=canOf f x) ?_ (.inl ⟨rfl,rfl⟩) ?_
    . by_cases hw:whyN f (bitsOf x)=0
      . left
        refine⟨?_,by rw[← hcan];simp[hw]⟩
        simp[hw];rfl
      . right
        obtain⟨d,a,e⟩:=whyA_ifc hw;refine⟨⟨d,a,?_⟩,by rw[← hcan];simp[hw]⟩
        rw[← e];simp
    refine Resume.run lay [] ?_;simp;refine os_mapUpdate1 lay mapK tt5 rfl rfl rfl rfl rfl (LK.map hl) hlk ?_;refine PendW.go lay [] ?_;simp;refine Resume.run lay [] ?_;simp;refine hfin _ _ _ (by simp) (LK.put hl) (fun n a hn=>?_) (fun c h1 h2=>by rw[Store.set_ne _ _ h2];exact hk1 c h1 h2)
    exact known_put hk (by simpa using hn)
end Go.Proofs.YtibjfmfdjncniaaGreatDoor
namespace Go.Proofs.YtibjfmfdjncniaaGreatDoor
open Go.Pal Go.Conc
set_option maxHeartbeats 1000000
set_option maxRecDepth 4000
variable {m:Mo} {σ:Store} {KF:Res->Store->Prop}
def growL (f:Fr) (begun:List Int):Nat->List Int->Int->List Int->List (List Int)
  | 0,way,_,_=>[way]
  | fuel+1,way,many,hs=>(List.range (min (many+1) f.most).toNat).flatMap fun k:Nat=>
      if way.length<begun.length∧begun.getD way.length 0≠(k:Int) then []
      else if canOf f (setBit (hs.getD k 0) way.length)=true then growL f begun fuel (way ++ [(k:Int)]) (max many ((k:Int)+1)) (hs.set k (setBit (hs.getD k 0) way.length)) else []
def waysOf (f:Fr) (begun:List Int):List (List Int):=growL f begun f.ents.length [] 0 [0,0,0,0,0,0]
def Mv (b mb:Nat) (F F':Nat->Prop) (σ σ':Store):Prop := ∀ c x,σ c=some x -> ¬ F c->c≠b->(c≠mb∨x.plain=true)->σ' c=some x ∧ ¬ F' c
theorem Mv.refl (b mb:Nat) (F:Nat->Prop) (σ:Store):Mv b mb F F σ σ:=fun _ _ h hF _ _=>⟨h,hF⟩
theorem Mv.trans {b mb:Nat} {F F' F'':Nat->Prop} {σ σ' σ'':Store} (h:Mv b mb F F' σ σ') (h':Mv b mb F' F'' σ' σ''):Mv b mb F F'' σ σ'':=fun c x h1 h2 h3 h4=>h' c x (h c x h1 h2 h3 h4).1 (h c x h1 h2 h3 h4).2 h3 h4
structure Yld (m:Mo) (y:AV) (W:List (List Int)) (I:Nat->(Nat->Prop)->Store->Prop) (E:(Nat->Prop)->Store->Prop):Prop where
  step:∀ (k:Nat) (F:Nat->Prop) (σ:Store) (KF:Res->Store->Prop) (hk:k<W.length),I k F σ->(∀ F' σ',Keeps F F' σ σ'->I (k+1) F' σ'->KF (.val (bool true)) σ')->(∀ F' σ',Keeps F F' σ σ'->E F' σ'->KF (.val (bool false)) σ')->CallV Tryz.prog m y [ints W[k]] σ KF
  frame:∀ (k:Nat) (F:Nat->Prop) (σ σ':Store),(∀ c,F c->σ' c=σ c)->I k F σ->I k F σ'
  frameE:∀ (F:Nat->Prop) (σ σ':Store),(∀ c,F c->σ' c=σ c)->E F σ->E F σ'
  dom:∀ (k:Nat) (F:Nat->Prop) (σ:Store) (c:Nat),I k F σ->F c->∃ x,σ c=some x∧x.plain=true
theorem keeps_mv {b mb:Nat} {F F':Nat->Prop} {σ σ':Store} (h:Keeps F F' σ σ'):Mv b mb F F' σ σ':=fun c x h1 h2 _ _=>h c x h2 h1
theorem lk_unSet {b mb:Nat} {GI:List (Int × AV)->Prop} {Un:Store->Prop} {Ld:Store->List (Int × AV)->Prop} (LK:LkM Tryz.prog m nn b 6 mb .u8 GI Un Ld) {d:Nat} {y:AObj} (hu:Un σ) (hd:∀ x,σ d=some x->x.plain=true):Un (σ.set d y):=
  LK.un (fun c _ ⟨x,h1,h2⟩=>Store.set_ne _ _ (fun e=>by subst e;rw[hd x h1] at h2;cases h2)) hu
theorem lk_unKeeps {b mb:Nat} {GI:List (Int × AV)->Prop} {Un:Store->Prop} {Ld:Store->List (Int × AV)->Prop} (LK:LkM Tryz.prog m nn b 6 mb .u8 GI Un Ld) {F F':Nat->Prop} {σ':Store} (hu:Un σ) (hk:Keeps F F' σ σ') (hd:∀ c,F c->∃ x,σ c=some x∧x.plain=true):Un σ':=
  LK.un (fun c _ ⟨x,h1,h2⟩=>by
    have hF : ¬ F c:=fun hF=>by
      obtain⟨x',h3,h4⟩:=hd c hF;rw[h1] at h3;cases h3;rw[h4] at h2;cases h2
    rw[(hk c x hF h1).1,h1]) hu
abbrev growA (fp y:AV) (begun:List Int) (cp:Nat):AV:=.fn (.func 59) [] [.cp fp 0,.cp y 0,.cp (ints begun) 0,.ref cp 0]
abbrev putA (fp:AV) (c4 cg:Nat):AV:=.fn (.func 55) [] [.ref c4 0,.cp fp 0,.ref cg 0]
structure WS (b mb:Nat) (f:Fr) (y:AV) (begun:List Int) (c4 cg cp:Nat) (hs:List Int) (F:Nat->Prop) (σ:Store):Prop where
  arr:σ c4=some (.cells (hs.map u8))
  grw:σ cg=some (.cells [growA (fpA b mb f 0) y begun cp])
  pt:σ cp=some (.cells [putA (fpA b mb f 0) c4 cg])
  out : ¬ F c4 ∧ ¬ F cg ∧ ¬ F cp
  ne:c4≠cg∧c4≠cp
theorem WS.mv {b mb:Nat} {f:Fr} {y:AV} {begun:List Int} {c4 cg cp:Nat} {hs:List Int} {F F':Nat->Prop} {σ σ':Store} (h:WS b mb f y begun c4 cg cp hs F σ) (hb:∃ x,σ b=some x∧x.plain=false) (hm:Mv b mb F F' σ σ'):WS b mb f y begun c4 cg cp hs F' σ':=by
  obtain⟨x,hx,hp⟩:=hb;have ne:∀ c l,σ c=some (.cells l)->c≠b:=fun c l hc e=>by subst e;rw[hx] at hc;cases hc;cases hp
  obtain⟨a1,a2⟩:=hm c4 _ h.arr h.out.1 (ne _ _ h.arr) (.inr rfl);obtain⟨b1,b2⟩:=hm cg _ h.grw h.out.2.1 (ne _ _ h.grw) (.inr rfl);obtain⟨d1,d2⟩:=hm cp _ h.pt h.out.2.2 (ne _ _ h.pt) (.inr rfl);exact⟨a1,b1,d1,⟨a2,b2,d2⟩,h.ne⟩
structure Hs (f:Fr) (n:Nat) (hs:List Int):Prop where
  six:hs.length=6
  bits:∀ x∈hs,∀ e∈bitsOf x,e<n
  small:∀ x∈hs,0≤x∧x<64
section
variable {b mb:Nat} {f:Fr} {begun:List Int} {y:AV} {W:List (List Int)} {I:Nat->(Nat->Prop)->Store->Prop} {E:(Nat->Prop)->Store->Prop} {Un:Store->Prop} {Ld:Store->List (Int × AV)->Prop} {c4 cg cp:Nat}
def RunOK (b mb:Nat) (Un:Store->Prop) (I:Nat->(Nat->Prop)->Store->Prop) (E:(Nat->Prop)->Store->Prop) (a n:Nat) (F:Nat->Prop) (σ:Store) (KF:Res->Store->Prop):Prop:=
  (∀ F' σ',Mv b mb F F' σ σ'->Un σ'->I (a+n) F' σ'->KF (.val (bool true)) σ')∧(∀ F' σ',Mv b mb F F' σ σ'->Un σ'->E F' σ'->KF (.val (bool false)) σ')
def GrowOK (m:Mo) (b mb:Nat) (f:Fr) (begun:List Int) (y:AV) (W:List (List Int)) (I:Nat->(Nat->Prop)->Store->Prop) (E:(Nat->Prop)->Store->Prop) (Un:Store->Prop) (c4 cg cp:Nat) (fuel:Nat):Prop:=
  ∀ (way:List Int) (many:Int) (hs:List Int) (sp:Spare) (F:Nat->Prop) (σ:Store) (pre post:List (List Int)) (KF:Res->Store->Prop),way.length+fuel=f.ents.length->0≤many∧many≤6->Hs f way.length hs->WS b mb f y begun c4 cg cp hs F σ->Un σ ->
    W=pre ++ growL f begun fuel way many hs ++ post->I pre.length F σ->RunOK b mb Un I E pre.length (growL f begun fuel way many hs).length F σ KF ->
    FnOK Tryz.prog m 59 [.sl 1 (way.map int) sp,int many,.cp (fpA b mb f 0) 0,.cp y 0,.cp (ints begun) 0,.ref cp 0] σ KF
theorem set_fin:∀ x:Fin 64,∀ n:Fin 6,(0≤setBit (x.val:Int) (n.val:Int)∧setBit (x.val:Int) (n.val:Int)<64)∧(∀ e∈bitsOf (setBit (x.val:Int) (n.val:Int)),e=(n.val:Int)∨e∈bitsOf (x.val:Int))∧(n.val:Int)∈bitsOf (setBit (x.val:Int) (n.val:Int)):=by decide +kernel
theorem set_at {x:Int} {n:Nat} (hx:0≤x∧x<64) (hn:n<6):(0≤setBit x n∧setBit x n<64)∧(∀ e∈bitsOf (setBit x n),e=(n:Int)∨e∈bitsOf x)∧(n:Int)∈bitsOf (setBit x n):=by
  have:=set_fin ⟨x.toNat,by omega⟩ ⟨n,hn⟩
  have e1:(x.toNat:Int)=x:=by omega
  simpa only [e1] using this
theorem bits_pos {x e:Int} (h:e∈bitsOf x):0≤e∧e<6:=by
  unfold bitsOf at h;obtain⟨h1,_⟩:=List.mem_filter.1 h;obtain⟨i,hi,rfl⟩:=List.mem_map.1 h1;have:=List.mem_range.1 hi;omega
theorem bits_len (x:Int):(bitsOf x).length<20:=by
  unfold bitsOf;refine Nat.lt_of_le_of_lt (List.length_filter_le _ _) ?_;rw[List.length_map,List.length_range];omega
theorem Hs.set {n:Nat} {hs:List Int} (h:Hs f n hs) (hn:n<6) {k:Nat} (hk:k<hs.length):Hs f (n+1) (hs.set k (setBit hs[k] n)):=by
  have h0:=set_at (h.small _ (List.getElem_mem hk)) hn;refine⟨by rw[List.length_set];exact h.six,fun x hx e he=>?_,fun x hx=>?_⟩
  . rcases List.mem_or_eq_of_mem_set hx with hx|rfl
    . have:=h.bits x hx e he;omega
    . rcases h0.2.1 e he with rfl|he
      . omega
      . have:=h.bits _ (List.getElem_mem hk) e he;omega
  . rcases List.mem_or_eq_of_mem_set hx with hx|rfl
    . exact h.small x hx
    . exact h0.1
theorem Hs.inF {n:Nat} {hs:List Int} (h:Hs f n hs) (hn:n<f.ents.length) (h6:f.ents.length≤6) {k:Nat} (hk:k<hs.length):InF f (bitsOf (setBit hs[k] n)):=by
  have h0:=set_at (h.small _ (List.getElem_mem hk)) (n:=n) (by omega)
  refine⟨fun e he=>⟨(bits_pos he).1,?_⟩,fun q=>?_,by have:=bits_len (setBit hs[k] n);omega⟩
  . rcases h0.2.1 e he with rfl|he
    . omega
    . have:=h.bits _ (List.getElem_mem hk) e he;omega
  . have:=h0.2.2
    rw[q] at this;cases this
theorem putD_ok {d:Nat} {k:Nat} {x:Int} {l:List Int} (hk:k<6) (hl:l.length=6) (hd:σ d=some (.cells [u8 x])) (h4:σ c4=some (.cells (l.map u8))) (h:KF (.val (.tup [])) (σ.set c4 (.cells ((l.set k x).map u8)))):FnOK Tryz.prog m 56 [.ref d 0,.ref c4 0,.cp (int k) 0] σ KF:=by
  have hk':(k:Int)<6:=by omega
  have hk5:k≤5:=by omega
  have hkl:k<l.length:=by omega
  refine FnOK.start lay [] [] 3 Tryz.func56 rfl rfl (by rfl) (by kernel_rfl) ?_
  simp[Tryz.f56,hd,h4,hk',hl,hk5,hkl];rw[splice_one (by simpa using hkl),← List.map_set (f:=u8)]
  exact .done h
theorem put_ok (LK : LkM Tryz.prog m nn b 6 mb .u8 (Known f) Un Ld) (hf:f.Good) (hbg:begun.length<1152921504606846976) (Y:Yld m y W I E) {fuel:Nat} (hG:GrowOK m b mb f begun y W I E Un c4 cg cp fuel) {way:List Int} {many:Int} {k:Nat} {hs:List Int} {sp:Spare} {F:Nat->Prop} {pre post:List (List Int)} (hlen:way.length+(fuel+1)=f.ents.length) (hmany:0≤many∧many≤6) (hk:k<6)
    (hh:Hs f way.length hs) (hw:WS b mb f y begun c4 cg cp hs F σ) (hu:Un σ) {L:List (List Int)} (hL:L=if canOf f (setBit (hs.getD k 0) way.length)=true then growL f begun fuel (way ++ [(k:Int)]) (max many ((k:Int)+1)) (hs.set k (setBit (hs.getD k 0) way.length)) else []) (hW:W=pre ++ L ++ post)
    (hI:I pre.length F σ) (hR:RunOK b mb Un I E pre.length L.length F σ KF):FnOK Tryz.prog m 55 [.sl 1 (way.map int) sp,int many,int k,.ref c4 0,.cp (fpA b mb f 0) 0,.ref cg 0] σ KF:=by
  have h6:=hf.six;have hk':k<hs.length:=by rw[hh.six];exact hk
  have hgd:hs.getD k 0=hs[k]:=by simp[List.getD_eq_getElem?_getD,hk']
  rw[hgd] at hL;have hki:(k:Int)<6:=by omega
  have harr:=hw.arr;have h6':=hh.six;have hk5:k≤5:=by omega
  have e1:List.take 1 (List.drop k (List.map u8 hs))=[u8 hs[k]]:=by
    rw[← List.map_drop,List.drop_eq_getElem_cons hk'];rfl
  refine FnOK.start lay [] pl55 6 Tryz.func55 rfl rfl (by rfl) (by kernel_rfl) ?_
  simp[Tryz.f55,harr,hki,hk',h6',hk5,e1];refine newW.intro fun d hd=>?_
  have d4:d≠c4:=fun e=>by subst e;rw[harr] at hd;cases hd
  have d4':=Ne.symm d4;simp[d4,d4',Store.set_ne];refine Resume.defer rfl rfl rfl rfl (by simp) rfl ?_
  refine Resume.run lay [] ?_;simp[d4,d4',Store.set_ne,harr,hki,hk',h6',hk5,e1];obtain⟨z,hz⟩:∃ z,z=setBit hs[k] way.length:=⟨_,rfl⟩;obtain⟨hs2,hs2e⟩:∃ hs2,hs2=hs.set k z:=⟨_,rfl⟩;have hk2:k<hs2.length:=by rw[hs2e,List.length_set];exact hk'
  have hs2k:hs2[k]=z:=by subst hs2e;simp
  have e2:List.take 1 (List.drop k (List.map u8 hs2))=[u8 z]:=by
    rw[← List.map_drop,List.drop_eq_getElem_cons hk2,hs2k];rfl
  have e3:splice (List.map u8 hs) k [u8 z]=List.map u8 hs2:=by
    rw[splice_one (by simpa using hk'),hs2e,List.map_set]
  have h6'':hs2.length=6:=by rw[hs2e,List.length_set];exact h6'
  refine callFn Tryz.func57 rfl rfl (with_ok (by omega) ?_)
  rw[← hz];refine PendW.go lay [] ?_;simp[d4,d4',Store.set_ne,harr,hki,hk',h6',hk5,e3];refine Resume.run lay [] ?_;simp[d4,d4',Store.set_ne,hki,hk2,h6'',hk5,e2];have hn6:way.length<6:=by omega
  have hnn:way.length<f.ents.length:=by omega
  have hin:InF f (bitsOf z):=by rw[hz];exact hh.inF hnn h6 hk'
  obtain⟨xb,hxb,hpb⟩:=LK.unb hu;have cb:∀ c l,σ c=some (.cells l)->c≠b:=fun c l hc e=>by subst e;rw[hxb] at hc;cases hc;cases hpb
  have db:d≠b:=fun e=>by subst e;rw[hd] at hxb;cases hxb
  have hu1:Un ((σ.set d (.cells [u8 hs[k]])).set c4 (.cells (hs2.map u8))):=lk_unSet LK (lk_unSet LK hu (fun x hx=>by rw[hd] at hx;cases hx)) (fun x hx=>by rw[Store.set_ne _ _ d4',harr] at hx;cases hx;rfl)
  have s1c:((σ.set d (.cells [u8 hs[k]])).set c4 (.cells (hs2.map u8))) c4=some (.cells (hs2.map u8)):=Store.set_same _ _ _;have s1d:((σ.set d (.cells [u8 hs[k]])).set c4 (.cells (hs2.map u8))) d=some (.cells [u8 hs[k]]):=by rw[Store.set_ne _ _ d4,Store.set_same]
  have s1o:∀ c,c≠d->c≠c4->((σ.set d (.cells [u8 hs[k]])).set c4 (.cells (hs2.map u8))) c=σ c:=fun c h1 h2=>by rw[Store.set_ne _ _ h2,Store.set_ne _ _ h1]
  have hFd : ¬ F d:=fun hF=>by
    obtain⟨x,hx,_⟩:=Y.dom _ _ _ _ hI hF;rw[hd] at hx;cases hx
  have hI1:I pre.length F ((σ.set d (.cells [u8 hs[k]])).set c4 (.cells (hs2.map u8))):=Y.frame _ _ _ _ (fun c hc=>s1o c (fun e=>hFd (e ▸ hc)) (fun e=>hw.out.1 (e ▸ hc))) hI
  generalize (σ.set d (.cells [u8 hs[k]])).set c4 (.cells (hs2.map u8))=σ1 at hu1 s1c s1d s1o hI1;refine callFn Tryz.func58 rfl rfl (can_ok LK hf hin (bits_len _) hu1 fun σ2 hu2 hk2'=>?_)
  have s2c:σ2 c4=some (.cells (hs2.map u8)):=hk2' _ _ s1c (cb _ _ harr) (.inr rfl);have s2d:σ2 d=some (.cells [u8 hs[k]]):=hk2' _ _ s1d db (.inr rfl);have gd:cg≠d:=fun e=>by have:=hw.grw;rw[e,hd] at this;cases this
  have s2g:σ2 cg=some (.cells [growA (fpA b mb f 0) y begun cp]):=hk2' _ _ (by rw[s1o cg gd (Ne.symm hw.ne.1)];exact hw.grw) (cb _ _ hw.grw) (.inr rfl)
  have hback:hs2.set k hs[k]=hs:=by rw[hs2e];simp
  have hfin:∀ (env:Env) (σ3:Store) (v:Bool),env 9=bool v->σ3 d=some (.cells [u8 hs[k]])->σ3 c4=some (.cells (hs2.map u8))->KF (.val (bool v)) (σ3.set c4 (.cells (hs.map u8)))->DefOK Tryz.prog m (.func 56) [.ref d 0,.ref c4 0,.cp (int k) 0] [] .ret σ3 (fun md' σ'=>Unw lay m [ResultVar.tmp 9] env (Thaw KF) [] md' σ'):=fun env σ3 v he hd3 hc3 hK=>by
    refine DefOK.func Tryz.func56 rfl rfl (putD_ok hk h6'' hd3 hc3 ?_);refine⟨[env 9],rfl,.done ?_⟩;rw[show oneOf [env 9]=env 9 from rfl,he,hback]
    exact hK
  have hmv2:Mv b mb F F σ (σ2.set c4 (.cells (hs.map u8))):=fun c x h1 h2 h3 h4=>by
    refine⟨?_,h2⟩
    by_cases e:c=c4
    . subst e;rw[Store.set_same,← harr];exact h1
    . have e':c≠d:=fun e'=>by subst e';rw[hd] at h1;cases h1
      rw[Store.set_ne _ _ e];exact hk2' c x (by rw[s1o c e' e];exact h1) h3 h4
  have hI2:I pre.length F σ2:=Y.frame _ _ _ _ (fun c hc=>by
    obtain⟨x,h1,h2⟩:=Y.dom _ _ _ _ hI1 hc
    have hcb:c≠b:=fun e=>by
      subst e;obtain⟨x',h3,h4⟩:=Y.dom _ _ _ _ hI hc;rw[hxb] at h3;cases h3;rw[hpb] at h4;cases h4
    rw[h1];exact hk2' c x h1 hcb (.inr h2)) hI1
  rw[← hz,← hs2e] at hL;cases hcan:canOf f z with
  | false=>
    rw[hcan] at hL;simp only[Bool.false_eq_true,if_false] at hL;subst hL;refine PendW.go lay [] ?_;simp
    repeat' apply And.intro
    all_goals
      refine Resume.run lay [] ?_;simp;refine hfin _ σ2 true (by simp) s2d s2c (hR.1 F _ hmv2 (lk_unSet LK hu2 (fun x hx=>by rw[s2c] at hx;cases hx;rfl)) ?_)
      exact Y.frame _ _ _ _ (fun c hc=>Store.set_ne _ _ (fun e=>hw.out.1 (e ▸ hc))) hI2
  | true=>
    rw[hcan,if_pos rfl] at hL
    have hgrow:∀ (σ3:Store) (sp':Spare) (KF':Res->Store->Prop),σ2.Le σ3->(∀ (v:Bool) σ',σ' d=some (.cells [u8 hs[k]])->σ' c4=some (.cells (hs2.map u8))->KF (.val (bool v)) (σ'.set c4 (.cells (hs.map u8)))->KF' (.val (bool v)) σ') ->
        FnOK Tryz.prog m 59 [.sl 1 ((way ++ [(k:Int)]).map int) sp',int (max many ((k:Int)+1)),.cp (fpA b mb f 0) 0,.cp y 0,.cp (ints begun) 0,.ref cp 0] σ3 KF':=fun σ3 sp' KF' hle hK=>by
      have s2p:σ2 cp=some (.cells [putA (fpA b mb f 0) c4 cg]):=by
        have pd:cp≠d:=fun e=>by have:=hw.pt;rw[e,hd] at this;cases this
        exact hk2' _ _ (by rw[s1o cp pd (Ne.symm hw.ne.2)];exact hw.pt) (cb _ _ hw.pt) (.inr rfl)
      have hu3:Un σ3:=LK.un (fun c _ ⟨x,h1,_⟩=>by rw[h1];exact hle _ _ h1) hu2
      have hw3:WS b mb f y begun c4 cg cp hs2 F σ3:=⟨hle _ _ s2c,hle _ _ s2g,hle _ _ s2p,hw.out,hw.ne⟩
      have hI3:I pre.length F σ3:=Y.frame _ _ _ _ (fun c hc=>by
        obtain⟨x,h1,_⟩:=Y.dom _ _ _ _ hI2 hc;rw[h1];exact hle _ _ h1) hI2
      have hmv3:∀ (F':Nat->Prop) (σ':Store),Mv b mb F F' σ3 σ'->Mv b mb F F' σ (σ'.set c4 (.cells (hs.map u8))):=fun F' σ' hm c x h1 h2 h3 h4=>by
        by_cases e:c=c4
        . subst e
          obtain⟨q1,q2⟩:=hm c _ (hle _ _ s2c) h2 h3 (.inr rfl);exact⟨by rw[Store.set_same,← harr];exact h1,q2⟩
        . have e':c≠d:=fun e'=>by subst e';rw[hd] at h1;cases h1
          rw[Store.set_ne _ _ e];exact hm c x (hle _ _ (hk2' c x (by rw[s1o c e' e];exact h1) h3 h4)) h2 h3 h4
      have aft:∀ (F':Nat->Prop) (σ':Store),Mv b mb F F' σ3 σ'->σ' d=some (.cells [u8 hs[k]])∧(σ' c4=some (.cells (hs2.map u8)) ∧ ¬ F' c4):=fun F' σ' hm=>⟨(hm d _ (hle _ _ s2d) hFd db (.inr rfl)).1,hm c4 _ (hle _ _ s2c) hw.out.1 (cb _ _ harr) (.inr rfl)⟩
      subst hL;refine hG _ _ _ _ F σ3 pre post KF' (by simp;omega) (by omega) (by rw[List.length_append,hs2e,hz];exact hh.set hn6 hk') hw3 hu3 hW hI3 ⟨fun F' σ' h1 h2 h3=>?_,fun F' σ' h1 h2 h3=>?_⟩
      . obtain⟨q1,q2,q3⟩:=aft F' σ' h1
        exact hK true σ' q1 q2 (hR.1 F' _ (hmv3 F' σ' h1) (lk_unSet LK h2 (fun x hx=>by rw[q2] at hx;cases hx;rfl)) (Y.frame _ _ _ _ (fun c hc=>Store.set_ne _ _ (fun e=>q3 (e ▸ hc))) h3))
      . obtain⟨q1,q2,q3⟩:=aft F' σ' h1
        exact hK false σ' q1 q2 (hR.2 F' _ (hmv3 F' σ' h1) (lk_unSet LK h2 (fun x hx=>by rw[q2] at hx;cases hx;rfl)) (Y.frameE _ _ _ (fun c hc=>Store.set_ne _ _ (fun e=>q3 (e ▸ hc))) h3))
    have k1 : -9223372036854775808≤(k:Int)+1∧(k:Int)+1≤9223372036854775807:=by omega
    have hmax:(if many<(k:Int)+1 then (k:Int)+1 else many)=max many ((k:Int)+1):=by split <;> omega
    refine PendW.go lay [] ?_;simp[s2c,s2d,s2g,k1.1,k1.2,hmax]
    repeat' (first
              | apply And.intro
              | (refine os_slice3Sl lay rfl tt22 rfl tt3 (es:=way.map int) (sp:=sp) (l:=0) (h:=way.length) (by simp) (fun cap hcap=>⟨⟨⟨.i64,by simp⟩,by simpa using hcap⟩,⟨⟨.i64,by simp⟩,Nat.le_refl _⟩,rfl⟩) (by simp) fun a ha=>?_
                 have hta:Tok σ2 σ2 a 1 (way.map int):=by
                   rcases ha with rfl|⟨e,rfl⟩
                   . have:List.take (way.length-0) (List.drop 0 (way.map int))=way.map int:=by rw[List.drop_zero,List.take_of_length_le (by simp)]
                     rw[this];exact .exact _ _ _
                   . rw[e];exact .nil _ _
                 clear ha;refine PendW.go lay [] ?_;simp[s2c,s2d,s2g,k1.1,k1.2,hmax])
              | (refine os_append lay rfl rfl rfl tt22 rfl tt22 rfl tt3 (by decide) (by simp;omega) (σ0:=σ2) (es:=way.map int) (xs:=[int k]) (by simpa using hta) (.inr ⟨_,by simp;rfl⟩) fun a' σ3 ht'=>?_
                 obtain⟨sp',rfl⟩:∃ sp',a' = .sl 1 (way.map int ++ [int k]) sp':=by
                   rcases ht'.2 with ⟨_,e⟩|e|⟨_,_,_,e,_⟩
                   . simp at e
                   . exact⟨_,e⟩
                   . exact⟨_,e⟩
                 have s3g:=ht'.1 _ _ s2g;refine PendW.go lay [] ?_;simp[s3g,k1.1,k1.2,hmax])
              | (refine callFnC Tryz.func59 rfl rfl (by simp) (hgrow σ3 sp' _ ht'.1 fun v σ' q1 q2 q3=>?_)
                 refine PendW.go lay [] ?_;simp;refine Resume.run lay [] ?_;simp;exact hfin _ _ v (by simp) q1 q2 q3))
end
end Go.Proofs.YtibjfmfdjncniaaGreatDoor

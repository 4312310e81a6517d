/- Part 29 of the proof. -/
import Derived.Test.YtelgggdkahhhfaaGreatDoorC28
set_option linter.all false
namespace Go.Proofs.YtelgggdkahhhfaaGreatDoor
open Go.aZ Go.Conc
set_option maxHeartbeats 1000000
set_option maxRecDepth 4000
variable {m:Mo} {σ:aa} {KF:cV->aa->Prop}
structure FG (f:Fr) (l:List Int):Prop where
 mem:∀ n∈l,0≤n∧n<f.aB.length
 ne:l≠[]
 len:l.length≤1000000
def dT (f:Fr) (l:List Int):Bool:=l.any fun n=>decide ((bR f n).gL≠(bR f (l.getD 0 0)).gL)
theorem oa {f:Fr} {x:Int} (h:x.toNat<f.aB.length):bR f x=f.aB[x.toNat]:=by simp[bR,List.getD_eq_getElem?_getD,h]
theorem yH {b mb:Nat} {f:Fr} {l:List Int} (hl:FG f l) (h:KF (.val (bool (dT f l))) σ):ar Tryz.prog m 160 [.agg [],io b mb f 0,ints l] σ KF:=by
 obtain⟨h0,hne,hlen⟩:=hl;have hpos:0<l.length:=List.length_pos_iff.2 hne;obtain⟨z0,z1⟩:=h0 _ (List.getElem_mem hpos);have z2:l[0].toNat<f.aB.length:=by omega
 have hz:l.getD 0 0=l[0]:=by simp[List.getD_eq_getElem?_getD,hpos]
 unfold dT at h;rw[hz] at h;refine ar.start lay [] Ku 3 Tryz.func160 rfl rfl (by rfl) (by kernel_rfl) ?_
 simp[Tryz.f160];refine ab.loop l.length (fun k s => ∃ env,s=⟨env,σ,[],.no⟩∧env 1=io b mb f 0∧env 2=ints l∧env 9=ints l∧env 10=int l.length∧env 11=int k∧∀ n∈l.take k,(bR f n).gL=(bR f l[0]).gL) ⟨_,rfl,by simp⟩ ?_
 rintro c0 k _ hk ⟨env,rfl,h1,h2,h9,h10,h11,hall⟩ ih
 rcases Nat.lt_or_ge k l.length with g1|g1
 . obtain⟨y0,y1⟩:=h0 _ (List.getElem_mem g1)
   have y2:l[k].toNat<f.aB.length:=by omega
   have e1:=oa y2;have e2:=oa z2;refine ab.run lay [] ?_;simp[h1,h2,h9,h10,h11,g1,hpos,y0,y2,z0,z2];refine ab.run lay [] ?_;simp[h1,h2,h9,h10,h11]
   by_cases g2:f.aB[l[k].toNat].gL=f.aB[l[0].toNat].gL
   . simp[h1,h2,h9,h10,h11,g2]
     refine⟨by omega,ih _ g1 ⟨_,rfl,by simp[h1,h2,h9,h10,h11],by simp[h1,h2,h9,h10,h11],by simp[h1,h2,h9,h10,h11],by simp[h1,h2,h9,h10,h11],by simp,fun n hn=>?_⟩⟩
     rw[List.take_succ_eq_append_getElem g1,List.mem_append,List.mem_singleton] at hn
     rcases hn with hn|rfl
     . exact hall n hn
     . rw[e1,e2];exact g2
   . have g3:(f.aB[l[k].toNat].gL != f.aB[l[0].toNat].gL)=true:=by simp[g2]
     have:l.any (fun n=>decide ((bR f n).gL≠(bR f l[0]).gL))=true:=List.any_eq_true.2 ⟨_,List.getElem_mem g1,by rw[e1,e2];simp[g2]⟩
     rw[this] at h;simp[h1,h2,h9,h10,h11,g3];exact .done h
 . have:k=l.length:=by omega
   subst this;rw[List.take_length] at hall
   have:l.any (fun n=>decide ((bR f n).gL≠(bR f l[0]).gL))=false:=by
    rw[List.any_eq_false];intro n hn;simp[hall n hn]
   rw[this] at h;refine ab.run lay [] ?_;simp[h1,h2,h9,h10,h11];exact .done h
def cP (f:Fr) (l:List Int):Bool:=decide (c8 f l=[])
theorem yI {b mb:Nat} {f:Fr} {l:List Int} (hf:f.Good) (hl:FG f l) (h:KF (.val (bool (cP f l))) σ):ar Tryz.prog m 161 [.agg [],io b mb f 0,ints l] σ KF:=by
 refine ar.start lay [] [] 3 Tryz.func161 rfl rfl (by rfl) (by kernel_rfl) ?_
 simp[Tryz.f161];refine ap Tryz.func71 rfl rfl (rU hf hl.ne hl.len hl.mem ?_);refine ab.run lay [] ?_;simp;unfold cP at h;cases hh:c8 f l with
 | nil=>rw[hh] at h;exact .done h
 | cons a r=>
   rw[hh] at h;have e:((r.length:Int)+1 == 0)=false:=by rw[beq_eq_false_iff_ne];omega
   refine .done ?_;simpa[e] using h
def jQ (f:Fr) (x y:Int):Bool:=decide ((bR f y).hour-(bR f x).hour<rd f.roads (bR f x).place.toNat (bR f y).place.toNat+f.iM*bN (bS (bR f x).marks) (bS (bR f y).marks))
def bG (f:Fr) (l:List Int):Bool:=(List.range (l.length-1)).any fun i=>jQ f (l.getD i 0) (l.getD (i+1) 0)
theorem qr:∀ {l:List Int} {p:Option Int},nZ p l=0->∀ n∈l,0≤n∧n≤4
 | [],_,_,n,hn=>by simp at hn
 | a :: l,p,h,n,hn=>by
   unfold nZ at h;split at h
   . cases h
   next q1=>
   split at h
   . cases h
   next q2=>
   rcases List.mem_cons.1 hn with rfl|hn
   . simp[dD] at q1;omega
   . exact qr h n hn
theorem Bc:∀ a:Fin 32,∀ n:Fin 5,0≤bo (a.val:Int) (n.val:Int)∧bo (a.val:Int) (n.val:Int)<32:=by decide
theorem lH {l:List Int} (h:∀ n∈l,0≤n∧n≤4):0≤bS l∧bS l<32:=by
 have key:∀ (l:List Int) (a:Int),(∀ n∈l,0≤n∧n≤4)->0≤a∧a<32->0≤l.foldl bo a∧l.foldl bo a<32:=by
  intro l
  induction l with
  | nil=>intro a _ h;exact h
  | cons x l ih=>
    intro a hx ha;rw[List.foldl_cons];refine ih _ (fun n hn=>hx n (List.mem_cons_of_mem _ hn)) ?_
    obtain⟨x0,x1⟩:=hx x (List.mem_cons_self ..);have:=Bc ⟨a.toNat,by omega⟩ ⟨x.toNat,by omega⟩
    have e1:(a.toNat:Int)=a:=by omega
    have e2:(x.toNat:Int)=x:=by omega
    simpa only [e1,e2] using this
 exact key l 0 h (by omega)
theorem DW:∀ a:Fin 32,∀ b:Fin 32,n8 8 (rS (a.val:Int) (b.val:Int))=0∧0≤bN (a.val:Int) (b.val:Int)∧bN (a.val:Int) (b.val:Int)≤5:=by decide +kernel
theorem GK {a b:Int} (ha:0≤a∧a<32) (hb:0≤b∧b<32):n8 8 (rS a b)=0∧0≤bN a b∧bN a b≤5:=by
 have:=DW ⟨a.toNat,by omega⟩ ⟨b.toNat,by omega⟩
 have e1:(a.toNat:Int)=a:=by omega
 have e2:(b.toNat:Int)=b:=by omega
 simpa only [e1,e2] using this
theorem Fr.Good.row {f:Fr} (hf:f.Good) {i:Nat} (hi:i<f.roads.length):f.roads[i].length=f.roads.length∧∀ x∈f.roads[i],0≤x∧x≤9:=by
 have h:=hf.I5;unfold fW at h;split at h
 . cases h
 split at h
 . cases h
 split at h
 . next q=>exact absurd h q
 next q=>
 obtain⟨h1,h2⟩:=iN (by simpa using q) _ (List.getElem_mem hi)
 exact⟨h1,fun x hx=>fX (h2 x hx)⟩
theorem yJ {b mb:Nat} {f:Fr} {l:List Int} (hf:f.Good) (hl:FG f l) (h:KF (.val (bool (bG f l))) σ):ar Tryz.prog m 162 [.agg [],io b mb f 0,ints l] σ KF:=by
 obtain⟨h0,hne,hlen⟩:=hl;have hdye:=hf.iM;unfold bG at h;refine ar.start lay [] Kv 3 Tryz.func162 rfl rfl (by rfl) (by kernel_rfl) ?_
 simp[Tryz.f162];refine ab.loop (l.length-1) (fun k s => ∃ env σ',s=⟨env,σ',[],.no⟩∧σ.Le σ'∧env 1=io b mb f 0∧env 2=ints l∧env 7=int ((k:Int)+1)∧∀ i<k,jQ f (l.getD i 0) (l.getD (i+1) 0)=false) ⟨_,_,rfl,aa.le_refl _,by simp⟩ ?_
 rintro c0 k _ hk ⟨env,σ',rfl,hle,h1,h2,h7,hall⟩ ih
 rcases Nat.lt_or_ge (k+1) l.length with g1|g1
 . have g1':(k:Int)+1<l.length:=by omega
   have g0:k<l.length:=by omega
   obtain⟨x0,x1⟩:=h0 _ (List.getElem_mem g0);obtain⟨y0,y1⟩:=h0 _ (List.getElem_mem g1);have x2:l[k].toNat<f.aB.length:=by omega
   have y2:l[k+1].toNat<f.aB.length:=by omega
   have f1 : -9223372036854775808≤(k:Int)∧(k:Int)≤9223372036854775807:=by omega
   have f2:((k:Int)+1).toNat=k+1:=by omega
   have f3:(0:Int)≤(k:Int)+1:=by omega
   obtain⟨A,hA⟩:∃ A,A=f.aB[l[k].toNat]:=⟨_,rfl⟩;obtain⟨B,hB⟩:∃ B,B=f.aB[l[k+1].toNat]:=⟨_,rfl⟩;have eA:=oa x2;have eB:=oa y2;rw[← hA] at eA;rw[← hB] at eB;have bA:=tQ (hf.FF A (by rw[hA];exact List.getElem_mem x2))
   have bB:=tQ (hf.FF B (by rw[hB];exact List.getElem_mem y2))
   refine ab.run lay [] ?_;simp[h1,h2,h7,g1',g0,g1,x0,x2,y0,y2,f1.1,f1.2,f2,f3,← hA,← hB];have hc9:=fun {c:Nat} (hc:σ' c=none)=>hle.none hc
   have pA:A.place.toNat<f.roads.length:=by omega
   obtain⟨r1,r2⟩:=hf.row pA;have pB:B.place.toNat<f.roads[A.place.toNat].length:=by omega
   obtain⟨r3,r4⟩:=r2 _ (List.getElem_mem pB);have hrd:rd f.roads A.place.toNat B.place.toNat=f.roads[A.place.toNat][B.place.toNat]:=kl pA pB;have mA:=qr bA.2.2.2.2.2;have mB:=qr bB.2.2.2.2.2;have lA:=lH mA;have lB:=lH mB;obtain⟨c1,c2,c3⟩:=GK lA lB;obtain⟨ch,hch⟩:∃ ch,ch=bN (bS A.marks) (bS B.marks):=⟨_,rfl⟩;rw[← hch] at c2 c3
   have hmul:0≤f.iM*ch∧f.iM*ch≤30:=by
    constructor
    . exact Int.mul_nonneg (by omega) c2
    . calc f.iM*ch≤6*5:=Int.mul_le_mul hdye.2 c3 c2 (by omega)
       _=30:=by rfl
   have htoo:jQ f l[k] l[k+1]=decide (B.hour-A.hour<f.roads[A.place.toNat][B.place.toNat]+f.iM*ch):=by
    unfold jQ;rw[eA,eB,hrd,hch]
   have hk0:l.getD k 0=l[k]:=by simp[List.getD_eq_getElem?_getD,g0]
   have hk1:l.getD (k+1) 0=l[k+1]:=by simp[List.getD_eq_getElem?_getD,g1]
   have s1 : -9223372036854775808≤B.hour-A.hour∧B.hour-A.hour≤9223372036854775807:=by omega
   have s2 : -9223372036854775808≤f.iM*ch∧f.iM*ch≤9223372036854775807:=by omega
   have s3 : -9223372036854775808≤f.roads[A.place.toNat][B.place.toNat]+f.iM*ch∧f.roads[A.place.toNat][B.place.toNat]+f.iM*ch≤9223372036854775807:=by omega
   refine⟨x4.intro fun c hc=>?_,x4.intro fun c hc=>?_⟩
   . simp[h1,h2,h7]
     refine x4.intro fun d hd=>?_
     obtain⟨n1,n2,hd⟩:=aa.aR hd;have hc0:=hc9 hc;have hd0:=hc9 hd;simp[h1,h2,h7,n1,n2,aa.ak];refine ab.eP 8 (b:=c) (gM A) (by simp[n1,n2,aa.ak]) (by simp) rfl ?_
     refine ab.eP 9 (b:=d) (gM B) (by simp[n1,n2,aa.ak,aa.del]) (by simp) rfl ?_
     refine ab.run lay [] ?_;simp[h1,h2,h7,s1.1,s1.2,pA,pB];refine⟨by omega,by omega,?_⟩
     refine ap Tryz.func163 rfl rfl (kM (by have:=hf.fits.marks A (by rw[hA];exact List.getElem_mem x2);omega) (fun n hn=>(mA n hn).1) ?_)
     refine bk.go lay [] ?_;simp[h1,h2,h7];refine ap Tryz.func163 rfl rfl (kM (by have:=hf.fits.marks B (by rw[hB];exact List.getElem_mem y2);omega) (fun n hn=>(mB n hn).1) ?_)
     refine bk.go lay [] ?_;simp[h1,h2,h7];refine ap Tryz.func164 rfl rfl (rW c1 ?_);rw[← hch];refine bk.go lay [] ?_;simp[h1,h2,h7,s2.1,s2.2,s3.1,s3.2];refine ab.run lay [] ?_;simp[h1,h2,h7]
     by_cases g3:B.hour-A.hour<f.roads[A.place.toNat][B.place.toNat]+f.iM*ch
     . simp[h1,h2,h7,g3]
       have:(List.range (l.length-1)).any (fun i=>jQ f (l.getD i 0) (l.getD (i+1) 0))=true:=List.any_eq_true.2 ⟨k,List.mem_range.2 (by omega),by rw[hk0,hk1,htoo];simpa using g3⟩
       rw[this] at h;exact .less (by repeat (first|exact aa.le_refl _|assumption|refine aa.gE ?_ (by assumption) | refine aa.i8 ?_ (by assumption))) (.done h)
     . simp[h1,h2,h7,g3]
       refine⟨by omega,ih _ (by omega) ⟨_,_,rfl,(by repeat (first|exact aa.le_refl _|assumption|refine aa.gE ?_ (by assumption) | refine aa.i8 ?_ (by assumption))),by simp[h1,h2,h7],by simp[h1,h2,h7],by simp,fun i hi=>?_⟩⟩
       by_cases e:i=k
       . subst e;rw[hk0,hk1,htoo];simpa using g3
       . exact hall i (by omega)
   . simp[h1,h2,h7]
     refine x4.intro fun d hd=>?_
     obtain⟨n1,n2,hd⟩:=aa.aR hd;have hc0:=hc9 hc;have hd0:=hc9 hd;simp[h1,h2,h7,n1,n2,aa.ak];refine ab.eP 8 (b:=d) (gM A) (by simp[n1,n2,aa.ak]) (by simp) rfl ?_
     refine ab.eP 9 (b:=c) (gM B) (by simp[n1,n2,aa.ak,aa.del]) (by simp) rfl ?_
     refine ab.run lay [] ?_;simp[h1,h2,h7,s1.1,s1.2,pA,pB];refine⟨by omega,by omega,?_⟩
     refine ap Tryz.func163 rfl rfl (kM (by have:=hf.fits.marks A (by rw[hA];exact List.getElem_mem x2);omega) (fun n hn=>(mA n hn).1) ?_)
     refine bk.go lay [] ?_;simp[h1,h2,h7];refine ap Tryz.func163 rfl rfl (kM (by have:=hf.fits.marks B (by rw[hB];exact List.getElem_mem y2);omega) (fun n hn=>(mB n hn).1) ?_)
     refine bk.go lay [] ?_;simp[h1,h2,h7];refine ap Tryz.func164 rfl rfl (rW c1 ?_);rw[← hch];refine bk.go lay [] ?_;simp[h1,h2,h7,s2.1,s2.2,s3.1,s3.2];refine ab.run lay [] ?_;simp[h1,h2,h7]
     by_cases g3:B.hour-A.hour<f.roads[A.place.toNat][B.place.toNat]+f.iM*ch
     . simp[h1,h2,h7,g3]
       have:(List.range (l.length-1)).any (fun i=>jQ f (l.getD i 0) (l.getD (i+1) 0))=true:=List.any_eq_true.2 ⟨k,List.mem_range.2 (by omega),by rw[hk0,hk1,htoo];simpa using g3⟩
       rw[this] at h;exact .less (by repeat (first|exact aa.le_refl _|assumption|refine aa.gE ?_ (by assumption) | refine aa.i8 ?_ (by assumption))) (.done h)
     . simp[h1,h2,h7,g3]
       refine⟨by omega,ih _ (by omega) ⟨_,_,rfl,(by repeat (first|exact aa.le_refl _|assumption|refine aa.gE ?_ (by assumption) | refine aa.i8 ?_ (by assumption))),by simp[h1,h2,h7],by simp[h1,h2,h7],by simp,fun i hi=>?_⟩⟩
       by_cases e:i=k
       . subst e;rw[hk0,hk1,htoo];simpa using g3
       . exact hall i (by omega)
 . have g2 : ¬ (k:Int)+1<l.length:=by omega
   have:(List.range (l.length-1)).any (fun i=>jQ f (l.getD i 0) (l.getD (i+1) 0))=false:=by
    rw[List.any_eq_false];intro i hi;rw[hall i (by have:=List.mem_range.1 hi;omega)]
    simp
   rw[this] at h;refine ab.run lay [] ?_;simp[h1,h2,h7,g2];exact .less hle (.done h)
end Go.Proofs.YtelgggdkahhhfaaGreatDoor
namespace Go.Proofs.YtelgggdkahhhfaaGreatDoor
open Go.aZ Go.Conc
set_option maxHeartbeats 1000000
set_option maxRecDepth 4000
variable {m:Mo} {σ:aa} {KF:cV->aa->Prop}
theorem Ky:(((Tryz.prog.info? 141).bind fun i=>i.methods.find? (·.name ==  "palfrey/mark.breaks")).map fun mt=>(mt.path,mt.func))=some (#[],some (160,false)):=by kernel_rfl
theorem Kz:(((Tryz.prog.info? 142).bind fun i=>i.methods.find? (·.name ==  "palfrey/mark.breaks")).map fun mt=>(mt.path,mt.func))=some (#[],some (161,false)):=by kernel_rfl
theorem KA:(((Tryz.prog.info? 143).bind fun i=>i.methods.find? (·.name ==  "palfrey/mark.breaks")).map fun mt=>(mt.path,mt.func))=some (#[],some (162,false)):=by kernel_rfl
theorem Ig {a:AV}:qV Tryz.prog 141  "palfrey/mark.breaks" 160 a a:=by
 obtain⟨mt,hmt,e⟩:=Option.map_eq_some_iff.1 Ky;obtain⟨info,hi,hm⟩:=Option.bind_eq_some_iff.1 hmt;obtain⟨e1,e2⟩:=Prod.mk.inj e;exact m6 lay Kn hi hm (by rw[e1]) e2 rfl
theorem Ih {a:AV}:qV Tryz.prog 142  "palfrey/mark.breaks" 161 a a:=by
 obtain⟨mt,hmt,e⟩:=Option.map_eq_some_iff.1 Kz;obtain⟨info,hi,hm⟩:=Option.bind_eq_some_iff.1 hmt;obtain⟨e1,e2⟩:=Prod.mk.inj e;exact m6 lay Ko hi hm (by rw[e1]) e2 rfl
theorem Ii {a:AV}:qV Tryz.prog 143  "palfrey/mark.breaks" 162 a a:=by
 obtain⟨mt,hmt,e⟩:=Option.map_eq_some_iff.1 KA;obtain⟨info,hi,hm⟩:=Option.bind_eq_some_iff.1 hmt;obtain⟨e1,e2⟩:=Prod.mk.inj e;exact m6 lay Kr hi hm (by rw[e1]) e2 rfl
def aP (f:Fr) (l:List Int):List Int:=(dI (fun a b=>decide (pf f a b<0)) l).reverse
def iA (f:Fr) (l:List Int):Int:=if dT f (aP f l) then 1 else if cP f (aP f l) then 2 else if bG f (aP f l) then 3 else 0
abbrev KB (n:Int):AV:=if n=1 then .kZ 141 (.agg []) else if n=2 then .kZ 142 (.agg []) else if n=3 then .kZ 143 (.agg []) else .lit .nilIface
theorem FG.sort {f:Fr} {l:List Int} (h:FG f l):FG f (aP f l):=
 ⟨fun n hn=>h.mem n ((pe _ _ _).1 (by simpa[aP] using hn)),fun e=>h.ne (by
   have:(aP f l).length=l.length:=by simp[aP,iX]
   rw[e] at this;exact List.length_eq_zero_iff.1 this.symm),by simp[aP,iX,h.len]⟩
theorem DX {b mb:Nat} {f:Fr} {l:List Int} (hf:f.Good) (hl:FG f l) (h20:l.length<20) (h:KF (.val (KB (iA f l))) σ):ar Tryz.prog m 53 [io b mb f 0,ints l] σ KF:=by
 have hs:=hl.sort;refine ar.start lay [] [] 2 Tryz.func53 rfl rfl (by rfl) (by kernel_rfl) ?_
 simp[Tryz.f53];refine dL.intro fun c hc=>?_
 simp;refine ap Tryz.func82 rfl rfl (GH DV hl.mem h20 hl.ne ⟨rfl,rfl⟩ ?_);obtain⟨S,hS⟩:∃ S,S=(dI (fun a b=>decide (pf f a b<0)) l).reverse:=⟨_,rfl⟩
 have hS':aP f l=S:=hS.symm;rw[hS'] at hs;unfold iA at h;rw[hS'] at h;rw[← hS];refine ab.run lay [] ?_;simp;refine ab.loop 3 (fun k s => ∃ env σ',s=⟨env,σ',[],.no⟩∧σ.Le σ'∧env 1=ints S∧env 2 = .cp (io b mb f 0) 0∧env 19 = .sl 1 [.kZ 141 (.agg []),.kZ 142 (.agg []),.kZ 143 (.agg [])] .exact∧env 20=int 3∧env 21=int k∧(1≤k->dT f S=false)∧(2≤k->cP f S=false)∧(3≤k->bG f S=false)) ⟨_,_,rfl,aa.fQ (aa.le_refl _) hc,by simp,by simp,by simp,by simp,by simp,by simp,by simp,by simp⟩ ?_
 rintro c0 k _ hk ⟨env,σ',rfl,hle,h1,h2,h19,h20,h21,q1,q2,q3⟩ ih
 obtain rfl|rfl|rfl|rfl:k=0∨k=1∨k=2∨k=3:=by omega
 . refine ab.run lay [] ?_
   simp[h1,h2,h19,h20,h21];refine ab.invoke rfl rfl rfl (by simp) rfl Ig Tryz.func160 rfl rfl ?_
   refine yH hs ?_;refine ab.run lay [] ?_;simp[h1,h2,h19,h20,h21];cases hb:dT f S
   . simp[h1,h2,h19,h20,h21]
     exact ih _ (by omega) ⟨_,_,rfl,hle,by simp[h1,h2,h19,h20,h21],by simp[h1,h2,h19,h20,h21],by simp[h1,h2,h19,h20,h21],by simp[h1,h2,h19,h20,h21],by simp,fun _=>hb,fun q=>(by omega),fun q=>(by omega)⟩
   . simp[h1,h2,h19,h20,h21]
     simp[hb] at h;exact .less hle (.done h)
 . have e1:=q1 (by omega)
   refine ab.run lay [] ?_;simp[h1,h2,h19,h20,h21];refine ab.invoke rfl rfl rfl (by simp) rfl Ih Tryz.func161 rfl rfl ?_
   refine yI hf hs ?_;refine ab.run lay [] ?_;simp[h1,h2,h19,h20,h21];cases hb:cP f S
   . simp[h1,h2,h19,h20,h21]
     exact ih _ (by omega) ⟨_,_,rfl,hle,by simp[h1,h2,h19,h20,h21],by simp[h1,h2,h19,h20,h21],by simp[h1,h2,h19,h20,h21],by simp[h1,h2,h19,h20,h21],by simp,fun _=>e1,fun _=>hb,fun q=>(by omega)⟩
   . simp[h1,h2,h19,h20,h21]
     simp[hb,e1] at h;exact .less hle (.done h)
 . have e1:=q1 (by omega)
   have e2:=q2 (by omega)
   refine ab.run lay [] ?_;simp[h1,h2,h19,h20,h21];refine ab.invoke rfl rfl rfl (by simp) rfl Ii Tryz.func162 rfl rfl ?_
   refine yJ hf hs ?_;refine ab.run lay [] ?_;simp[h1,h2,h19,h20,h21];cases hb:bG f S
   . simp[h1,h2,h19,h20,h21]
     exact ih _ (by omega) ⟨_,_,rfl,hle,by simp[h1,h2,h19,h20,h21],by simp[h1,h2,h19,h20,h21],by simp[h1,h2,h19,h20,h21],by simp[h1,h2,h19,h20,h21],by simp,fun _=>e1,fun _=>e2,fun _=>hb⟩
   . simp[h1,h2,h19,h20,h21]
     simp[hb,e1,e2] at h;exact .less hle (.done h)
 . have e1:=q1 (by omega)
   have e2:=q2 (by omega)
   have e3:=q3 (by omega)
   simp[e1,e2,e3] at h;refine ab.run lay [] ?_;simp[h1,h2,h19,h20,h21];exact .less hle (.done h)
end Go.Proofs.YtelgggdkahhhfaaGreatDoor
namespace Go.Proofs.YtelgggdkahhhfaaGreatDoor
open Go Go.aZ
set_option maxRecDepth 100000
abbrev nn:tl:=⟨105,106,120,121,127,129,85,86,97,84,126,128,132,133,135,136,138,199,149,21⟩
theorem DY:∀ (fl:Fl) b o kind,aD Tryz.prog fl [0,5] (LD Tryz.prog nn b o kind) un=some (oO Tryz.prog nn b o kind):=by intro fl b o kind;kernel_rfl
theorem DZ:∀ (fl:Fl) b o kind,aD Tryz.prog fl [0] (oO Tryz.prog nn b o kind) tt=some (Hc Tryz.prog nn b o kind):=by intro fl b o kind;kernel_rfl
theorem D5:∀ (fl:Fl) b o kind,aD Tryz.prog fl [0,2,3,4,5,12] (oO Tryz.prog nn b o kind) ff=some (KT Tryz.prog nn b o kind):=by intro fl b o kind;kernel_rfl
theorem D9:∀ (fl:Fl) b o kind,aD Tryz.prog fl [8] (Hc Tryz.prog nn b o kind) un=some (IX Tryz.prog nn b o kind):=by intro fl b o kind;kernel_rfl
theorem Ea:∀ (fl:Fl) b o kind,aD Tryz.prog fl [9] (IX Tryz.prog nn b o kind) (pt b o)=some (Hd Tryz.prog nn b o kind):=by intro fl b o kind;kernel_rfl
theorem Eb:∀ (fl:Fl) b o kind,aD Tryz.prog fl [] (Hd Tryz.prog nn b o kind) un=some (BK nn kind):=by intro fl b o kind;kernel_rfl
theorem Bd:∀ (fl:Fl) b o kind L K S aw sv it,lx Tryz.prog fl [0,2,3,4,5,6] (HR Tryz.prog nn b o kind aw sv it) (.word L K S 0)=some (HD Tryz.prog nn b o kind L K S aw sv it):=by intro fl b o kind L K S aw sv it;kernel_rfl
theorem Be:∀ (fl:Fl) b o kind L K S aw sv it,lx Tryz.prog fl [0,2,3,4,5,6] (zl Tryz.prog nn b o kind aw sv it) (.word L K S 0)=some (HD Tryz.prog nn b o kind L K S aw sv it):=by intro fl b o kind L K S aw sv it;kernel_rfl
theorem Bf:∀ (fl:Fl) b o kind L K S aw sv it,lx Tryz.prog fl [0,2,3,4,5,6] (HS Tryz.prog nn b o kind aw sv it) (.word L K S 0)=some (HD Tryz.prog nn b o kind L K S aw sv it):=by intro fl b o kind L K S aw sv it;kernel_rfl
theorem Ec:∀ (fl:Fl) b o kind K aw sv it,JC Tryz.prog fl [0,2,3,4,5,6,17,18] (HD Tryz.prog nn b o kind true K false aw sv it)=SQ Tryz.prog nn b o kind K aw sv it:=by intro fl b o kind K aw sv it;cases K <;> cases aw <;> cases sv <;> kernel_rfl
theorem Ed:∀ (fl:Fl) b o kind L K S aw sv it,(L && !S)=false->(aw && !K)=false->JC Tryz.prog fl [0,2,3,4,5,6,77,78,79] (HD Tryz.prog nn b o kind L K S aw sv it)=wm Tryz.prog nn b o kind L K S aw sv it:=by intro fl b o kind L K S aw sv it h1 h2;cases L <;> cases K <;> cases S <;> cases aw <;> cases sv <;> first|exact absurd h1 (by decide) | exact absurd h2 (by decide) | kernel_rfl
theorem Bg:∀ (fl:Fl) b o kind it,aD Tryz.prog { fl with n0:=false } [0,2,3,4,5,33,36,37,39] (SQ Tryz.prog nn b o kind false false false it) tt=some (SW Tryz.prog nn b o kind it):=by intro fl b o kind it;kernel_rfl
theorem yK:∀ (fl:Fl) b o kind n0 K aw sv it,(!aw && !K && !n0)=false->aD Tryz.prog { fl with n0:=n0 } [0,2,3,4,5] (SQ Tryz.prog nn b o kind K aw sv it) tt=some (DS Tryz.prog nn b o kind aw sv it):=by intro fl b o kind n0 K aw sv it h;cases n0 <;> cases K <;> cases aw <;> cases sv <;> first|exact absurd h (by decide) | kernel_rfl
theorem Bh:∀ (fl:Fl) b o kind K aw sv it,(aw && !K)=false->aD Tryz.prog fl [0,2,3,4,5,6,77,78,79] (SQ Tryz.prog nn b o kind K aw sv it) ff=some (wm Tryz.prog nn b o kind true K false aw sv it):=by intro fl b o kind K aw sv it h;cases K <;> cases aw <;> cases sv <;> first|exact absurd h (by decide) | kernel_rfl
theorem Bi:∀ (fl:Fl) b o kind r it,aD Tryz.prog fl [0,2,3,4,5] (SW Tryz.prog nn b o kind it) (bl r)=some (DS Tryz.prog nn b o kind r false it):=by intro fl b o kind r it;cases r <;> kernel_rfl
theorem yL:∀ (fl:Fl) b o kind aw sv,aD Tryz.prog fl [0,2,3,4,5,47] (DS Tryz.prog nn b o kind aw sv 0) un=some (zl Tryz.prog nn b o kind aw sv 1):=by intro fl b o kind aw sv;kernel_rfl
theorem yM:∀ (fl:Fl) b o kind aw sv,aD Tryz.prog fl [0,2,3,4,5,47] (DS Tryz.prog nn b o kind aw sv 1) un=some (zl Tryz.prog nn b o kind aw sv 2):=by intro fl b o kind aw sv;kernel_rfl
theorem yN:∀ (fl:Fl) b o kind aw sv,aD Tryz.prog fl [0,2,3,4,5,47] (DS Tryz.prog nn b o kind aw sv 2) un=some (zl Tryz.prog nn b o kind aw sv 3):=by intro fl b o kind aw sv;kernel_rfl
theorem yO:∀ (fl:Fl) b o kind aw sv,aD Tryz.prog fl [0,2,3,4,5,47] (DS Tryz.prog nn b o kind aw sv 3) un=some (zl Tryz.prog nn b o kind aw sv 4):=by intro fl b o kind aw sv;kernel_rfl
theorem Bj:∀ (fl:Fl) b o kind K aw sv it,aD Tryz.prog fl [0] (wm Tryz.prog nn b o kind false K false aw sv it) tt=some (FC Tryz.prog nn b o kind):=by intro fl b o kind K aw sv it;cases K <;> kernel_rfl
theorem yP:∀ (fl:Fl) b o kind L K S aw sv it,(L || S)=true->aD Tryz.prog { fl with wz:=true } [0,3] (wm Tryz.prog nn b o kind L K S aw sv it) tt=some (T1 Tryz.prog nn b o kind sv):=by intro fl b o kind L K S aw sv it h;cases L <;> cases K <;> cases S <;> first|exact absurd h (by decide) | kernel_rfl
theorem yQ:∀ (fl:Fl) b o kind L K S aw sv it,(L || S)=true->aD Tryz.prog { fl with wz:=false } [0,2,3,91] (wm Tryz.prog nn b o kind L K S aw sv it) tt=some (PK Tryz.prog nn b o kind sv):=by intro fl b o kind L K S aw sv it h;cases L <;> cases K <;> cases S <;> first|exact absurd h (by decide) | kernel_rfl
theorem Bk:∀ (fl:Fl) b o kind L K S aw sv it,aD Tryz.prog fl [0,2,3,4,5,133] (wm Tryz.prog nn b o kind L K S aw sv it) ff=some (HS Tryz.prog nn b o kind aw sv it):=by intro fl b o kind L K S aw sv it;kernel_rfl
theorem Bl:∀ (fl:Fl) b o kind sv,aD Tryz.prog fl [0,2,3,91] (T1 Tryz.prog nn b o kind sv) .An=some (PK Tryz.prog nn b o kind sv):=by intro fl b o kind sv;kernel_rfl
theorem yR:∀ (fl:Fl) b o kind,aD Tryz.prog fl [0,2,3,103] (PK Tryz.prog nn b o kind true) un=some (UP Tryz.prog nn b o kind true):=by intro fl b o kind;kernel_rfl
theorem yS:∀ (fl:Fl) b o kind,aD Tryz.prog fl [0,2,95] (PK Tryz.prog nn b o kind false) un=some (TQ Tryz.prog nn b o kind):=by intro fl b o kind;kernel_rfl
theorem Bm:∀ (fl:Fl) b o kind x,aD Tryz.prog { fl with tb:=x } [0,2,3,103] (TQ Tryz.prog nn b o kind) .now=some (UP Tryz.prog nn b o kind x):=by intro fl b o kind x;cases x <;> kernel_rfl
theorem Bn:∀ (fl:Fl) b o kind sv n1,aD Tryz.prog { fl with n0:=false,n1:=n1 } [0,128,129] (UP Tryz.prog nn b o kind sv) (.word false false true 0)=some (AD Tryz.prog nn b o kind (if !sv || n1 then -11 else -7)):=by intro fl b o kind sv n1;cases sv <;> cases n1 <;> kernel_rfl
theorem Bo:∀ (fl:Fl) b o kind L K sv,lx Tryz.prog fl [0,2,3,4,5,6] (UP Tryz.prog nn b o kind sv) (.word L K false 0)=some (HD Tryz.prog nn b o kind L K false true sv 0):=by intro fl b o kind L K sv;cases L <;> cases K <;> kernel_rfl
theorem Bp:∀ (fl:Fl) b o kind d,aD Tryz.prog fl [0] (AD Tryz.prog nn b o kind d) .aO=some (FC Tryz.prog nn b o kind):=by intro fl b o kind d;kernel_rfl
theorem Bq:∀ (fl:Fl) b o kind,aD Tryz.prog fl [136] (FC Tryz.prog nn b o kind) un=some (IY Tryz.prog nn b o kind):=by intro fl b o kind;kernel_rfl
theorem Br:∀ (fl:Fl) b o kind,aD Tryz.prog fl [137] (IY Tryz.prog nn b o kind) (pt b o)=some (Hf Tryz.prog nn b o kind):=by intro fl b o kind;kernel_rfl
theorem Bs:∀ (fl:Fl) b o kind,aD Tryz.prog fl [] (Hf Tryz.prog nn b o kind) un=some (BK nn kind):=by intro fl b o kind;kernel_rfl
theorem Ee:∀ (fl:Fl) b o kind,aD Tryz.prog fl [0,7] (U0 Tryz.prog nn b o kind) .aO=some (IZ Tryz.prog nn b o kind):=by intro fl b o kind;kernel_rfl
theorem Ef:∀ (fl:Fl) b o kind,aD Tryz.prog fl [0,8] (IZ Tryz.prog nn b o kind) (pt b o)=some (UR Tryz.prog nn b o kind):=by intro fl b o kind;kernel_rfl
theorem Eg:∀ (fl:Fl) b o kind,aD Tryz.prog fl [0] (UR Tryz.prog nn b o kind) un=some (UD Tryz.prog nn b o kind):=by intro fl b o kind;kernel_rfl
theorem Eh:∀ (fl:Fl) b o kind,aD Tryz.prog fl [0,13] (UD Tryz.prog nn b o kind) un=some (mT Tryz.prog nn b o kind):=by intro fl b o kind;kernel_rfl
theorem Ei:∀ (fl:Fl) b o kind n0 K,(n0 || K)=true->aD Tryz.prog { fl with n0:=n0 } [] (mT Tryz.prog nn b o kind) (.word false K false 0)=some (UE Tryz.prog nn b o kind):=by intro fl b o kind n0 K h;cases n0 <;> cases K <;> first|exact absurd h (by decide) | kernel_rfl
theorem Bt:∀ (fl:Fl) b o kind n0 K,aD Tryz.prog { fl with n0:=n0 } [41] (mT Tryz.prog nn b o kind) (.word false K true 0)=some (G9 Tryz.prog nn b o kind):=by intro fl b o kind n0 K;cases n0 <;> cases K <;> kernel_rfl
theorem Bu:∀ (fl:Fl) b o kind,aD Tryz.prog { fl with n0:=false } [0,27,28,29] (mT Tryz.prog nn b o kind) (.word false false false 0)=some (UC Tryz.prog nn b o kind):=by intro fl b o kind;kernel_rfl
theorem Bv:∀ (fl:Fl) b o kind,aD Tryz.prog fl [33] (UC Tryz.prog nn b o kind) tt=some (G7 Tryz.prog nn b o kind):=by intro fl b o kind;kernel_rfl
theorem Bw:∀ (fl:Fl) b o kind,aD Tryz.prog fl [0,37] (UC Tryz.prog nn b o kind) ff=some (FD Tryz.prog nn b o kind):=by intro fl b o kind;kernel_rfl
theorem Ej:∀ (fl:Fl) b o kind n0 L K S,(n0 || L || K || S)=true->aD Tryz.prog { fl with n0:=n0 } [] (FD Tryz.prog nn b o kind) (.word L K S 0)=some (UE Tryz.prog nn b o kind):=by intro fl b o kind n0 L K S h;cases n0 <;> cases L <;> cases K <;> cases S <;> first|exact absurd h (by decide) | kernel_rfl
theorem Bx:∀ (fl:Fl) b o kind,aD Tryz.prog { fl with n0:=false } [0,27,28,29] (FD Tryz.prog nn b o kind) (.word false false false 0)=some (UC Tryz.prog nn b o kind):=by intro fl b o kind;kernel_rfl
theorem Ek:∀ (fl:Fl) b o kind,aD Tryz.prog fl [] (G7 Tryz.prog nn b o kind) un=some (UE Tryz.prog nn b o kind):=by intro fl b o kind;kernel_rfl
theorem El:∀ (fl:Fl) b o kind,aD Tryz.prog fl [] (G9 Tryz.prog nn b o kind) un=some (UE Tryz.prog nn b o kind):=by intro fl b o kind;kernel_rfl
theorem By:∀ (fl:Fl) b o kind,aD Tryz.prog fl [] (UE Tryz.prog nn b o kind) un=some (JK nn kind):=by intro fl b o kind;kernel_rfl
theorem Em:∀ b o kind,aH (LD Tryz.prog nn b o kind).1=some (nn.fR,[])∧(LD Tryz.prog nn b o kind).1.kind = .normal:=by intro b o kind;exact⟨by kernel_rfl,by kernel_rfl⟩
theorem En:∀ b o kind,aH (oO Tryz.prog nn b o kind).1=some (nn.im,[pt b o,i32 0,i32 1]):=by intro b o kind;kernel_rfl
theorem Eo:∀ b o kind,aH (Hc Tryz.prog nn b o kind).1=some (nn.en,[]):=by intro b o kind;kernel_rfl
theorem Ep:∀ b o kind,ir (IX Tryz.prog nn b o kind).1=some (nn.tM,nn.tU,pt b o):=by intro b o kind;kernel_rfl
theorem Eq:∀ b o kind,aH (Hd Tryz.prog nn b o kind).1=some (nn.acq,[pt b o]):=by intro b o kind;kernel_rfl
theorem Bz:∀ b o kind aw sv it,mf (HR Tryz.prog nn b o kind aw sv it).1=some (nn.tI,pt b o):=by intro b o kind aw sv it;kernel_rfl
theorem BA:∀ b o kind aw sv it,mf (zl Tryz.prog nn b o kind aw sv it).1=some (nn.tI,pt b o):=by intro b o kind aw sv it;kernel_rfl
theorem BB:∀ b o kind aw sv it,mf (HS Tryz.prog nn b o kind aw sv it).1=some (nn.tI,pt b o):=by intro b o kind aw sv it;kernel_rfl
theorem Er:∀ b o kind K aw sv it,aH (SQ Tryz.prog nn b o kind K aw sv it).1=some (nn.Ap,[i64 it]):=by intro b o kind K aw sv it;kernel_rfl
theorem Es:∀ b o kind it,aH (SW Tryz.prog nn b o kind it).1=some (nn.im,[pt b o,.word true false false 0,.word true true false 0]):=by intro b o kind it;kernel_rfl
theorem Et:∀ b o kind aw sv it,aH (DS Tryz.prog nn b o kind aw sv it).1=some (nn.oJ,[]):=by intro b o kind aw sv it;kernel_rfl
theorem BC:∀ b o kind L K S aw sv it,aH (wm Tryz.prog nn b o kind L K S aw sv it).1=some (nn.im,[pt b o,.word L K S 0,FZ L K S aw sv]):=by intro b o kind L K S aw sv it;kernel_rfl
theorem BD:∀ b o kind sv,aH (T1 Tryz.prog nn b o kind sv).1=some (nn.nano,[]):=by intro b o kind sv;kernel_rfl
theorem BE:∀ b o kind sv,aH (PK Tryz.prog nn b o kind sv).1=some (nn.yd,[pt b (o+1),.aO,i64 2]):=by intro b o kind sv;kernel_rfl
theorem BF:∀ b o kind,aH (TQ Tryz.prog nn b o kind).1=some (nn.nano,[]):=by intro b o kind;kernel_rfl
theorem BG:∀ b o kind sv,mf (UP Tryz.prog nn b o kind sv).1=some (nn.tI,pt b o):=by intro b o kind sv;kernel_rfl
theorem BH:∀ b o kind d,aH (AD Tryz.prog nn b o kind d).1=some (nn.add,[pt b o,i32 d]):=by intro b o kind d;kernel_rfl
theorem BI:∀ b o kind,aH (FC Tryz.prog nn b o kind).1=some (nn.en,[]):=by intro b o kind;kernel_rfl
theorem BJ:∀ b o kind,ir (IY Tryz.prog nn b o kind).1=some (nn.tM,nn.tU,pt b o):=by intro b o kind;kernel_rfl
theorem BL:∀ b o kind,aH (Hf Tryz.prog nn b o kind).1=some (nn.acq,[pt b o]):=by intro b o kind;kernel_rfl
theorem BM:∀ b o kind,mf (U0 Tryz.prog nn b o kind).1=some (nn.tI,pt b o)∧(U0 Tryz.prog nn b o kind).1.kind = .normal∧(U0 Tryz.prog nn b o kind).1.fn=nn.qh:=by intro b o kind;exact⟨by kernel_rfl,by kernel_rfl,by kernel_rfl⟩
theorem BN:∀ b o kind,ir (IZ Tryz.prog nn b o kind).1=some (nn.tM,nn.tU,pt b o):=by intro b o kind;kernel_rfl
theorem BO:∀ b o kind,aH (UR Tryz.prog nn b o kind).1=some (nn.rel,[pt b o]):=by intro b o kind;kernel_rfl
theorem BP:∀ b o kind,aH (UD Tryz.prog nn b o kind).1=some (nn.fR,[]):=by intro b o kind;kernel_rfl
theorem BQ:∀ b o kind,aH (mT Tryz.prog nn b o kind).1=some (nn.add,[pt b o,i32 (-1)]):=by intro b o kind;kernel_rfl
theorem BR:∀ b o kind,aH (UC Tryz.prog nn b o kind).1=some (nn.im,[pt b o,wf,.word false true false (-1)]):=by intro b o kind;kernel_rfl
theorem BS:∀ b o kind,aH (G7 Tryz.prog nn b o kind).1=some (nn.kC,[pt b (o+1),ff,i64 2]):=by intro b o kind;kernel_rfl
theorem BT:∀ b o kind,aH (G9 Tryz.prog nn b o kind).1=some (nn.kC,[pt b (o+1),tt,i64 2]):=by intro b o kind;kernel_rfl
theorem BU:∀ b o kind,mf (FD Tryz.prog nn b o kind).1=some (nn.tI,pt b o):=by intro b o kind;kernel_rfl
theorem BV:∀ b o kind,aH (UE Tryz.prog nn b o kind).1=some (nn.en,[]):=by intro b o kind;kernel_rfl
theorem Eu:∀ b o kind,(JH Tryz.prog nn b o kind).all (·.env.all plain)=true∧(LD Tryz.prog nn b o kind).1.env.all plain=true∧(LD Tryz.prog nn b o kind).2=JH Tryz.prog nn b o kind:=by intro b o kind;exact⟨by kernel_rfl,by kernel_rfl,by kernel_rfl⟩
theorem Ev:∀ b o kind,(KS Tryz.prog nn b o kind).all (·.env.all plain)=true:=by intro b o kind;kernel_rfl
theorem Ew:∀ b o kind,(JJ Tryz.prog nn b o kind).all (·.env.all plain)=true∧(U0 Tryz.prog nn b o kind).1.env.all plain=true∧(U0 Tryz.prog nn b o kind).2=JJ Tryz.prog nn b o kind:=by intro b o kind;exact⟨by kernel_rfl,by kernel_rfl,by kernel_rfl⟩
theorem Ey:∀ b o kind,(Lh Tryz.prog nn b o kind).all (·.env.all plain)=true:=by intro b o kind;kernel_rfl
theorem tW:fA Tryz.prog nn where
 e1:=DY
 e2:=DZ
 e3:=D5
 e4:=D9
 e5:=Ea
 e6:=Eb
 Mf:=Bd
 Mg:=Be
 Mh:=Bf
 e8:=Ec
 e9:=Ed
 ew:=Bg
 JL:=yK
 tp:=Bh
 Li:=Bi
 JM:=yL
 JN:=yM
 JO:=yN
 JP:=yO
 Mi:=Bj
 JQ:=yP
 JR:=yQ
 Mj:=Bk
 Mk:=Bl
 JS:=yR
 JT:=yS
 FE:=Bm
 Ml:=Bn
 Mm:=Bo
 Mn:=Bp
 Mp:=Bq
 Mq:=Br
 Mr:=Bs
 u1:=Ee
 u2:=Ef
 u3:=Eg
 u4:=Eh
 u5:=Ei
 Ms:=Bt
 Mt:=Bu
 Mw:=Bv
 Mx:=Bw
 u7:=Ej
 My:=Bx
 u8:=Ek
 u9:=El
 Mz:=By
 o1:=Em
 o2:=En
 o3:=Eo
 o4:=Ep
 o5:=Eq
 MA:=Bz
 MB:=BA
 MC:=BB
 o7:=Er
 o8:=Es
 o9:=Et
 Lj:=BC
 MD:=BD
 Lk:=BE
 ME:=BF
 MF:=BG
 MG:=BH
 MH:=BI
 MI:=BJ
 MJ:=BL
 Ll:=BM
 MK:=BN
 ML:=BO
 MM:=BP
 Lm:=BQ
 Ln:=BR
 Lp:=BS
 Lq:=BT
 MN:=BU
 MO:=BV
 p1:=Eu
 p2:=Ev
 p3:=Ew
 p4:=Ey
theorem tX:fB Tryz.prog nn where
 fR:=⟨_,rfl,rfl,rfl,rfl,rfl⟩
 en:=⟨_,rfl,rfl,rfl,rfl,rfl⟩
 acq:=⟨_,rfl,rfl,rfl,rfl,rfl⟩
 rel:=⟨_,rfl,rfl,rfl,rfl,rfl⟩
 im:=⟨_,rfl,rfl,rfl,rfl,rfl⟩
 add:=⟨_,rfl,rfl,rfl,rfl,rfl⟩
 Ap:=⟨_,rfl,rfl,rfl,rfl,rfl⟩
 oJ:=⟨_,rfl,rfl,rfl,rfl,rfl⟩
 nano:=⟨_,rfl,rfl,rfl,rfl,rfl⟩
 CX:=⟨_,rfl,rfl⟩
 yd:=⟨_,rfl,rfl,rfl,rfl,rfl⟩
 kC:=⟨_,rfl,rfl,rfl,rfl,rfl⟩
 JU:=by kernel_rfl
 MP:=⟨_,rfl,rfl,rfl⟩
 nS:=⟨_,rfl,rfl⟩
 nU:=⟨_,rfl,rfl⟩
 nV:=⟨_,rfl,rfl⟩
end Go.Proofs.YtelgggdkahhhfaaGreatDoor
namespace Go.Proofs.YtelgggdkahhhfaaGreatDoor
open Go.aZ Go.Conc
set_option maxHeartbeats 1000000
set_option maxRecDepth 4000
variable {m:Mo} {σ:aa} {KF:cV->aa->Prop}
def jm (f:Fr) (x:Int):Bool:=decide (iA f (bx x)=0)
def fE (f:Fr) (l:List (Int × AV)):Prop := ∀ n a,fu l n=some a->a=bool (jm f n)
theorem KC:Aj Tryz.prog 111 127 4 5 .u8:=.of (by kernel_rfl) (by kernel_rfl) (by kernel_rfl) (by kernel_rfl)
theorem GL (f:Fr) (l:List Int):iA f l=0∨iA f l=1∨iA f l=2∨iA f l=3:=by
 unfold iA;split
 . exact .inr (.inl rfl)
 split
 . exact .inr (.inr (.inl rfl))
 split
 . exact .inr (.inr (.inr rfl))
 . exact .inl rfl
theorem xu {f:Fr} {l:List Int} (h:iA f l≠0):∃ d a,KB (iA f l) = .kZ d a:=by
 rcases GL f l with e|e|e|e
 . exact absurd e h
 all_goals rw[e];exact⟨_,_,rfl⟩
theorem BW {f:Fr} {l:List (Int × AV)} {x n:Int} {a:AV} (hk:fE f l) (h:fu (l ++ [(x,bool (jm f x))]) n=some a):a=bool (jm f n):=by
 unfold fu at h;rw[List.find?_append] at h;cases e:l.find? (fun p=>n == p.1) with
 | some p=>
   rw[e] at h;simp only[Option.some_or,Option.map_some,Option.some.injEq] at h;subst h;exact hk n p.2 (by unfold fu;rw[e];rfl)
 | none=>
   rw[e] at h;simp only[Option.none_or,List.find?_cons,List.find?_nil] at h;split at h
   . next q=>
     simp only[Option.map_some,Option.some.injEq] at h;rw[beq_iff_eq] at q;subst h;rw[q]
   . cases h
theorem Ij {b mb:Nat} {f:Fr} {x:Int} {Un:aa->Prop} {Ld:aa->List (Int × AV)->Prop} (LK:Ch Tryz.prog m nn b 6 mb .u8 (fE f) Un Ld) (hf:f.Good) (hx:FG f (bx x)) (h20:(bx x).length<20) (hu:Un σ) (h:∀ σ',Un σ'->kj b mb σ σ'->KF (.val (bool (jm f x))) σ'):ar Tryz.prog m 76 [io b mb f 0,rX x] σ KF:=by
 refine ar.start lay [] L0 2 Tryz.func76 rfl rfl (by rfl) (by kernel_rfl) ?_
 simp[Tryz.f76];refine ap Tryz.func105 rfl rfl (LK.lock (tF _ _ _ _) hu fun σ1 l hl hk hk1 hk2'=>?_)
 refine ab.run lay [] ?_;simp;refine ab.defer rfl rfl rfl rfl (by simp) rfl ?_
 refine ab.run lay [] ?_;simp;refine x7 lay KC M6 rfl rfl NV rfl rfl (LK.map hl) ?_;refine bk.go lay [] ?_;simp
 have hfin:∀ (env:Env) (σ2:aa) l2,env 4=bool (jm f x)->Ld σ2 l2->fE f l2->(∀ c,c≠b->c≠mb->σ2 c=σ c)->qJ Tryz.prog m (.func 106) [] [AV.kp b [rQ f.aB,rows f.roads,int f.eQ,int f.m8,int f.iM,int f.most,.lit (.int .i32 0),.lit (.int .u32 0),.map mb] [6,7] 6] .ret σ2 (fun md' σ'=>Fy lay m [ResultVar.tmp 4] env (kU KF) [] md' σ'):=fun env σ2 l2 he hl2 hk2 hs2=>by
  refine qJ.func Tryz.func106 rfl rfl (LK.unlock (tF _ _ _ _) hl2 hk2 fun σ3 hu3 hs3=>?_)
  refine⟨[env 4],rfl,.done ?_⟩;rw[show oneOf [env 4]=env 4 from rfl,he]
  refine h σ3 hu3 fun c y hy h1 h2=>?_
  have vL:c≠mb:=fun e=>by
   subst e
   rcases h2 with h2|h2
   . exact h2 rfl
   . have:=hk2' y hy
     rw[h2] at this;cases this
  rw[hs3 c h1 vL,hs2 c h1 vL];exact hy
 cases hlk:fu l x with
 | some a=>
   have ha:=hk x a hlk;subst ha;simp;refine ab.run lay [] ?_;simp;exact hfin _ _ _ (by simp) hl hk hk1
 | none=>
   simp;refine ab.run lay [] ?_;simp;refine ap Tryz.func107 rfl rfl (DU ?_);refine ab.run lay [] ?_;simp;refine ap Tryz.func53 rfl rfl (DX hf hx h20 ?_);refine ab.run lay [] ?_;simp;have hcan:decide (iA f (bx x)=0)=jm f x:=rfl;refine lp lay rfl Kl rfl (isNil:=jm f x) ?_ (.inl ⟨rfl,rfl⟩) ?_
   . by_cases hw:iA f (bx x)=0
     . left
       refine⟨?_,by rw[← hcan];simp[hw]⟩
       simp[hw];rfl
     . right
       obtain⟨d,a,e⟩:=xu hw;refine⟨⟨d,a,?_⟩,by rw[← hcan];simp[hw]⟩
       rw[← e];simp
   refine ab.run lay [] ?_;simp;refine sB lay KC M6 rfl rfl rfl rfl rfl (LK.map hl) hlk ?_;refine bk.go lay [] ?_;simp;refine ab.run lay [] ?_;simp;refine hfin _ _ _ (by simp) (LK.put hl) (fun n a hn=>?_) (fun c h1 h2=>by rw[aa.ak _ _ h2];exact hk1 c h1 h2)
   exact BW hk (by simpa using hn)
end Go.Proofs.YtelgggdkahhhfaaGreatDoor
namespace Go.Proofs.YtelgggdkahhhfaaGreatDoor
open Go.aZ Go.Conc
set_option maxHeartbeats 1000000
set_option maxRecDepth 4000
variable {m:Mo} {σ:aa} {KF:cV->aa->Prop}
def fY (f:Fr) (begun:List Int):Nat->List Int->Int->List Int->List (List Int)
 | 0,bT,_,_=>[bT]
 | fuel+1,bT,many,hs=>(List.range (min (many+1) f.most).toNat).flatMap fun k:Nat=>
    if bT.length<begun.length∧begun.getD bT.length 0≠(k:Int) then []
    else if jm f (bo (hs.getD k 0) bT.length)=true then fY f begun fuel (bT ++ [(k:Int)]) (max many ((k:Int)+1)) (hs.set k (bo (hs.getD k 0) bT.length)) else []
def az (f:Fr) (begun:List Int):List (List Int):=fY f begun f.aB.length [] 0 [0,0,0,0,0,0]
def Mv (b mb:Nat) (F F':Nat->Prop) (σ σ':aa):Prop := ∀ c x,σ c=some x -> ¬ F c->c≠b->(c≠mb∨x.plain=true)->σ' c=some x ∧ ¬ F' c
theorem Mv.refl (b mb:Nat) (F:Nat->Prop) (σ:aa):Mv b mb F F σ σ:=fun _ _ h hF _ _=>⟨h,hF⟩
theorem Mv.trans {b mb:Nat} {F F' F'':Nat->Prop} {σ σ' σ'':aa} (h:Mv b mb F F' σ σ') (h':Mv b mb F' F'' σ' σ''):Mv b mb F F'' σ σ'':=fun c x h1 h2 h3 h4=>h' c x (h c x h1 h2 h3 h4).1 (h c x h1 h2 h3 h4).2 h3 h4
structure Ik (m:Mo) (y:AV) (W:List (List Int)) (I:Nat->(Nat->Prop)->aa->Prop) (E:(Nat->Prop)->aa->Prop):Prop where
 step:∀ (k:Nat) (F:Nat->Prop) (σ:aa) (KF:cV->aa->Prop) (hk:k<W.length),I k F σ->(∀ F' σ',zf F F' σ σ'->I (k+1) F' σ'->KF (.val (bool true)) σ')->(∀ F' σ',zf F F' σ σ'->E F' σ'->KF (.val (bool false)) σ')->cI Tryz.prog m y [ints W[k]] σ KF
 frame:∀ (k:Nat) (F:Nat->Prop) (σ σ':aa),(∀ c,F c->σ' c=σ c)->I k F σ->I k F σ'
 Il:∀ (F:Nat->Prop) (σ σ':aa),(∀ c,F c->σ' c=σ c)->E F σ->E F σ'
 Hv:∀ (k:Nat) (F:Nat->Prop) (σ:aa) (c:Nat),I k F σ->F c->∃ x,σ c=some x∧x.plain=true
theorem xv {b mb:Nat} {F F':Nat->Prop} {σ σ':aa} (h:zf F F' σ σ'):Mv b mb F F' σ σ':=fun c x h1 h2 _ _=>h c x h2 h1
theorem lI {b mb:Nat} {GI:List (Int × AV)->Prop} {Un:aa->Prop} {Ld:aa->List (Int × AV)->Prop} (LK:Ch Tryz.prog m nn b 6 mb .u8 GI Un Ld) {d:Nat} {y:iH} (hu:Un σ) (hd:∀ x,σ d=some x->x.plain=true):Un (σ.set d y):=
 LK.un (fun c _ ⟨x,h1,h2⟩=>aa.ak _ _ (fun e=>by subst e;rw[hd x h1] at h2;cases h2)) hu
theorem rY {b mb:Nat} {GI:List (Int × AV)->Prop} {Un:aa->Prop} {Ld:aa->List (Int × AV)->Prop} (LK:Ch Tryz.prog m nn b 6 mb .u8 GI Un Ld) {F F':Nat->Prop} {σ':aa} (hu:Un σ) (hk:zf F F' σ σ') (hd:∀ c,F c->∃ x,σ c=some x∧x.plain=true):Un σ':=
 LK.un (fun c _ ⟨x,h1,h2⟩=>by
  have hF : ¬ F c:=fun hF=>by
   obtain⟨x',h3,h4⟩:=hd c hF;rw[h1] at h3;cases h3;rw[h4] at h2;cases h2
  rw[(hk c x hF h1).1,h1]) hu
abbrev rZ (fp y:AV) (begun:List Int) (cp:Nat):AV:=.fn (.func 77) [] [.cp fp 0,.cp y 0,.cp (ints begun) 0,.ref cp 0]
abbrev aL (fp:AV) (c4 cg:Nat):AV:=.fn (.func 73) [] [.ref c4 0,.cp fp 0,.ref cg 0]
structure WS (b mb:Nat) (f:Fr) (y:AV) (begun:List Int) (c4 cg cp:Nat) (hs:List Int) (F:Nat->Prop) (σ:aa):Prop where
 arr:σ c4=some (.cells (hs.map u8))
 KG:σ cg=some (.cells [rZ (io b mb f 0) y begun cp])
 pt:σ cp=some (.cells [aL (io b mb f 0) c4 cg])
 out : ¬ F c4 ∧ ¬ F cg ∧ ¬ F cp
 ne:c4≠cg∧c4≠cp
theorem WS.mv {b mb:Nat} {f:Fr} {y:AV} {begun:List Int} {c4 cg cp:Nat} {hs:List Int} {F F':Nat->Prop} {σ σ':aa} (h:WS b mb f y begun c4 cg cp hs F σ) (hb:∃ x,σ b=some x∧x.plain=false) (hm:Mv b mb F F' σ σ'):WS b mb f y begun c4 cg cp hs F' σ':=by
 obtain⟨x,hx,hp⟩:=hb;have ne:∀ c l,σ c=some (.cells l)->c≠b:=fun c l hc e=>by subst e;rw[hx] at hc;cases hc;cases hp
 obtain⟨a1,a2⟩:=hm c4 _ h.arr h.out.1 (ne _ _ h.arr) (.inr rfl);obtain⟨b1,b2⟩:=hm cg _ h.KG h.out.2.1 (ne _ _ h.KG) (.inr rfl);obtain⟨d1,d2⟩:=hm cp _ h.pt h.out.2.2 (ne _ _ h.pt) (.inr rfl);exact⟨a1,b1,d1,⟨a2,b2,d2⟩,h.ne⟩
structure Hs (f:Fr) (n:Nat) (hs:List Int):Prop where
 vt:hs.length=6
 bits:∀ x∈hs,∀ e∈bx x,e<n
 small:∀ x∈hs,0≤x∧x<64
section
variable {b mb:Nat} {f:Fr} {begun:List Int} {y:AV} {W:List (List Int)} {I:Nat->(Nat->Prop)->aa->Prop} {E:(Nat->Prop)->aa->Prop} {Un:aa->Prop} {Ld:aa->List (Int × AV)->Prop} {c4 cg cp:Nat}
def Hw (b mb:Nat) (Un:aa->Prop) (I:Nat->(Nat->Prop)->aa->Prop) (E:(Nat->Prop)->aa->Prop) (a n:Nat) (F:Nat->Prop) (σ:aa) (KF:cV->aa->Prop):Prop:=
 (∀ F' σ',Mv b mb F F' σ σ'->Un σ'->I (a+n) F' σ'->KF (.val (bool true)) σ')∧(∀ F' σ',Mv b mb F F' σ σ'->Un σ'->E F' σ'->KF (.val (bool false)) σ')
def Ez (m:Mo) (b mb:Nat) (f:Fr) (begun:List Int) (y:AV) (W:List (List Int)) (I:Nat->(Nat->Prop)->aa->Prop) (E:(Nat->Prop)->aa->Prop) (Un:aa->Prop) (c4 cg cp:Nat) (fuel:Nat):Prop:=
 ∀ (bT:List Int) (many:Int) (hs:List Int) (sp:bK) (F:Nat->Prop) (σ:aa) (pre post:List (List Int)) (KF:cV->aa->Prop),bT.length+fuel=f.aB.length->0≤many∧many≤6->Hs f bT.length hs->WS b mb f y begun c4 cg cp hs F σ->Un σ ->
   W=pre ++ fY f begun fuel bT many hs ++ post->I pre.length F σ->Hw b mb Un I E pre.length (fY f begun fuel bT many hs).length F σ KF ->
   ar Tryz.prog m 77 [.sl 1 (bT.map int) sp,int many,.cp (io b mb f 0) 0,.cp y 0,.cp (ints begun) 0,.ref cp 0] σ KF
theorem GM:∀ x:Fin 64,∀ n:Fin 6,(0≤bo (x.val:Int) (n.val:Int)∧bo (x.val:Int) (n.val:Int)<64)∧(∀ e∈bx (bo (x.val:Int) (n.val:Int)),e=(n.val:Int)∨e∈bx (x.val:Int))∧(n.val:Int)∈bx (bo (x.val:Int) (n.val:Int)):=by decide +kernel
theorem EA {x:Int} {n:Nat} (hx:0≤x∧x<64) (hn:n<6):(0≤bo x n∧bo x n<64)∧(∀ e∈bx (bo x n),e=(n:Int)∨e∈bx x)∧(n:Int)∈bx (bo x n):=by
 have:=GM ⟨x.toNat,by omega⟩ ⟨n,hn⟩
 have e1:(x.toNat:Int)=x:=by omega
 simpa only [e1] using this
theorem EB {x e:Int} (h:e∈bx x):0≤e∧e<6:=by
 unfold bx at h;obtain⟨h1,_⟩:=List.mem_filter.1 h;obtain⟨i,hi,rfl⟩:=List.mem_map.1 h1;have:=List.mem_range.1 hi;omega
theorem xw (x:Int):(bx x).length<20:=by
 unfold bx;refine Nat.lt_of_le_of_lt (List.length_filter_le _ _) ?_;rw[List.length_map,List.length_range];omega
theorem Hs.set {n:Nat} {hs:List Int} (h:Hs f n hs) (hn:n<6) {k:Nat} (hk:k<hs.length):Hs f (n+1) (hs.set k (bo hs[k] n)):=by
 have h0:=EA (h.small _ (List.getElem_mem hk)) hn;refine⟨by rw[List.length_set];exact h.vt,fun x hx e he=>?_,fun x hx=>?_⟩
 . rcases List.mem_or_eq_of_mem_set hx with hx|rfl
   . have:=h.bits x hx e he;omega
   . rcases h0.2.1 e he with rfl|he
     . omega
     . have:=h.bits _ (List.getElem_mem hk) e he;omega
 . rcases List.mem_or_eq_of_mem_set hx with hx|rfl
   . exact h.small x hx
   . exact h0.1
theorem Hs.pN {n:Nat} {hs:List Int} (h:Hs f n hs) (hn:n<f.aB.length) (h6:f.aB.length≤6) {k:Nat} (hk:k<hs.length):FG f (bx (bo hs[k] n)):=by
 have h0:=EA (h.small _ (List.getElem_mem hk)) (n:=n) (by omega)
 refine⟨fun e he=>⟨(EB he).1,?_⟩,fun q=>?_,by have:=xw (bo hs[k] n);omega⟩
 . rcases h0.2.1 e he with rfl|he
   . omega
   . have:=h.bits _ (List.getElem_mem hk) e he;omega
 . have:=h0.2.2
   rw[q] at this;cases this
theorem GN {d:Nat} {k:Nat} {x:Int} {l:List Int} (hk:k<6) (hl:l.length=6) (hd:σ d=some (.cells [u8 x])) (h4:σ c4=some (.cells (l.map u8))) (h:KF (.val (.cB [])) (σ.set c4 (.cells ((l.set k x).map u8)))):ar Tryz.prog m 74 [.ref d 0,.ref c4 0,.cp (int k) 0] σ KF:=by
 have hk':(k:Int)<6:=by omega
 have hk5:k≤5:=by omega
 have hkl:k<l.length:=by omega
 refine ar.start lay [] [] 3 Tryz.func74 rfl rfl (by rfl) (by kernel_rfl) ?_
 simp[Tryz.f74,hd,h4,hk',hl,hk5,hkl];rw[qU (by simpa using hkl),← List.map_set (f:=u8)]
 exact .done h
theorem Im (LK : Ch Tryz.prog m nn b 6 mb .u8 (fE f) Un Ld) (hf:f.Good) (hbg:begun.length<1152921504606846976) (Y:Ik m y W I E) {fuel:Nat} (hG:Ez m b mb f begun y W I E Un c4 cg cp fuel) {bT:List Int} {many:Int} {k:Nat} {hs:List Int} {sp:bK} {F:Nat->Prop} {pre post:List (List Int)} (hlen:bT.length+(fuel+1)=f.aB.length) (hmany:0≤many∧many≤6) (hk:k<6)
 (hh:Hs f bT.length hs) (hw:WS b mb f y begun c4 cg cp hs F σ) (hu:Un σ) {L:List (List Int)} (hL:L=if jm f (bo (hs.getD k 0) bT.length)=true then fY f begun fuel (bT ++ [(k:Int)]) (max many ((k:Int)+1)) (hs.set k (bo (hs.getD k 0) bT.length)) else []) (hW:W=pre ++ L ++ post)
 (hI:I pre.length F σ) (hR:Hw b mb Un I E pre.length L.length F σ KF):ar Tryz.prog m 73 [.sl 1 (bT.map int) sp,int many,int k,.ref c4 0,.cp (io b mb f 0) 0,.ref cg 0] σ KF:=by
 have h6:=hf.vt;have hk':k<hs.length:=by rw[hh.vt];exact hk
 have hgd:hs.getD k 0=hs[k]:=by simp[List.getD_eq_getElem?_getD,hk']
 rw[hgd] at hL;have hki:(k:Int)<6:=by omega
 have harr:=hw.arr;have h6':=hh.vt;have hk5:k≤5:=by omega
 have e1:List.take 1 (List.drop k (List.map u8 hs))=[u8 hs[k]]:=by
  rw[← List.map_drop,List.drop_eq_getElem_cons hk'];rfl
 refine ar.start lay [] LY 6 Tryz.func73 rfl rfl (by rfl) (by kernel_rfl) ?_
 simp[Tryz.f73,harr,hki,hk',h6',hk5,e1];refine dL.intro fun d hd=>?_
 have d4:d≠c4:=fun e=>by subst e;rw[harr] at hd;cases hd
 have d4':=Ne.symm d4;simp[d4,d4',aa.ak];refine ab.defer rfl rfl rfl rfl (by simp) rfl ?_
 refine ab.run lay [] ?_;simp[d4,d4',aa.ak,harr,hki,hk',h6',hk5,e1];obtain⟨z,hz⟩:∃ z,z=bo hs[k] bT.length:=⟨_,rfl⟩;obtain⟨hs2,hs2e⟩:∃ hs2,hs2=hs.set k z:=⟨_,rfl⟩;have hk2:k<hs2.length:=by rw[hs2e,List.length_set];exact hk'
 have hs2k:hs2[k]=z:=by subst hs2e;simp
 have e2:List.take 1 (List.drop k (List.map u8 hs2))=[u8 z]:=by
  rw[← List.map_drop,List.drop_eq_getElem_cons hk2,hs2k];rfl
 have e3:bt (List.map u8 hs) k [u8 z]=List.map u8 hs2:=by
  rw[qU (by simpa using hk'),hs2e,List.map_set]
 have h6'':hs2.length=6:=by rw[hs2e,List.length_set];exact h6'
 refine ap Tryz.func75 rfl rfl (GG (by omega) ?_)
 rw[← hz];refine bk.go lay [] ?_;simp[d4,d4',aa.ak,harr,hki,hk',h6',hk5,e3];refine ab.run lay [] ?_;simp[d4,d4',aa.ak,hki,hk2,h6'',hk5,e2];have hn6:bT.length<6:=by omega
 have hnn:bT.length<f.aB.length:=by omega
 have hin:FG f (bx z):=by rw[hz];exact hh.pN hnn h6 hk'
 obtain⟨xb,hxb,hpb⟩:=LK.Ia hu;have cb:∀ c l,σ c=some (.cells l)->c≠b:=fun c l hc e=>by subst e;rw[hxb] at hc;cases hc;cases hpb
 have db:d≠b:=fun e=>by subst e;rw[hd] at hxb;cases hxb
 have hu1:Un ((σ.set d (.cells [u8 hs[k]])).set c4 (.cells (hs2.map u8))):=lI LK (lI LK hu (fun x hx=>by rw[hd] at hx;cases hx)) (fun x hx=>by rw[aa.ak _ _ d4',harr] at hx;cases hx;rfl)
 have s1c:((σ.set d (.cells [u8 hs[k]])).set c4 (.cells (hs2.map u8))) c4=some (.cells (hs2.map u8)):=aa.ao _ _ _;have s1d:((σ.set d (.cells [u8 hs[k]])).set c4 (.cells (hs2.map u8))) d=some (.cells [u8 hs[k]]):=by rw[aa.ak _ _ d4,aa.ao]
 have s1o:∀ c,c≠d->c≠c4->((σ.set d (.cells [u8 hs[k]])).set c4 (.cells (hs2.map u8))) c=σ c:=fun c h1 h2=>by rw[aa.ak _ _ h2,aa.ak _ _ h1]
 have hFd : ¬ F d:=fun hF=>by
  obtain⟨x,hx,_⟩:=Y.Hv _ _ _ _ hI hF;rw[hd] at hx;cases hx
 have hI1:I pre.length F ((σ.set d (.cells [u8 hs[k]])).set c4 (.cells (hs2.map u8))):=Y.frame _ _ _ _ (fun c hc=>s1o c (fun e=>hFd (e ▸ hc)) (fun e=>hw.out.1 (e ▸ hc))) hI
 generalize (σ.set d (.cells [u8 hs[k]])).set c4 (.cells (hs2.map u8))=σ1 at hu1 s1c s1d s1o hI1;refine ap Tryz.func76 rfl rfl (Ij LK hf hin (xw _) hu1 fun σ2 hu2 hk2'=>?_)
 have s2c:σ2 c4=some (.cells (hs2.map u8)):=hk2' _ _ s1c (cb _ _ harr) (.inr rfl);have s2d:σ2 d=some (.cells [u8 hs[k]]):=hk2' _ _ s1d db (.inr rfl);have gd:cg≠d:=fun e=>by have:=hw.KG;rw[e,hd] at this;cases this
 have s2g:σ2 cg=some (.cells [rZ (io b mb f 0) y begun cp]):=hk2' _ _ (by rw[s1o cg gd (Ne.symm hw.ne.1)];exact hw.KG) (cb _ _ hw.KG) (.inr rfl)
 have hback:hs2.set k hs[k]=hs:=by rw[hs2e];simp
 have hfin:∀ (env:Env) (σ3:aa) (v:Bool),env 9=bool v->σ3 d=some (.cells [u8 hs[k]])->σ3 c4=some (.cells (hs2.map u8))->KF (.val (bool v)) (σ3.set c4 (.cells (hs.map u8)))->qJ Tryz.prog m (.func 74) [.ref d 0,.ref c4 0,.cp (int k) 0] [] .ret σ3 (fun md' σ'=>Fy lay m [ResultVar.tmp 9] env (kU KF) [] md' σ'):=fun env σ3 v he hd3 hc3 hK=>by
  refine qJ.func Tryz.func74 rfl rfl (GN hk h6'' hd3 hc3 ?_);refine⟨[env 9],rfl,.done ?_⟩;rw[show oneOf [env 9]=env 9 from rfl,he,hback]
  exact hK
 have hmv2:Mv b mb F F σ (σ2.set c4 (.cells (hs.map u8))):=fun c x h1 h2 h3 h4=>by
  refine⟨?_,h2⟩
  by_cases e:c=c4
  . subst e;rw[aa.ao,← harr];exact h1
  . have e':c≠d:=fun e'=>by subst e';rw[hd] at h1;cases h1
    rw[aa.ak _ _ e];exact hk2' c x (by rw[s1o c e' e];exact h1) h3 h4
 have hI2:I pre.length F σ2:=Y.frame _ _ _ _ (fun c hc=>by
  obtain⟨x,h1,h2⟩:=Y.Hv _ _ _ _ hI1 hc
  have hcb:c≠b:=fun e=>by
   subst e;obtain⟨x',h3,h4⟩:=Y.Hv _ _ _ _ hI hc;rw[hxb] at h3;cases h3;rw[hpb] at h4;cases h4
  rw[h1];exact hk2' c x h1 hcb (.inr h2)) hI1
 rw[← hz,← hs2e] at hL;cases hcan:jm f z with
 | false=>
   rw[hcan] at hL;simp only[Bool.false_eq_true,if_false] at hL;subst hL;refine bk.go lay [] ?_;simp
   repeat' apply And.intro
   all_goals
    refine ab.run lay [] ?_;simp;refine hfin _ σ2 true (by simp) s2d s2c (hR.1 F _ hmv2 (lI LK hu2 (fun x hx=>by rw[s2c] at hx;cases hx;rfl)) ?_)
    exact Y.frame _ _ _ _ (fun c hc=>aa.ak _ _ (fun e=>hw.out.1 (e ▸ hc))) hI2
 | true=>
   rw[hcan,if_pos rfl] at hL
   have hgrow:∀ (σ3:aa) (sp':bK) (KF':cV->aa->Prop),σ2.Le σ3->(∀ (v:Bool) σ',σ' d=some (.cells [u8 hs[k]])->σ' c4=some (.cells (hs2.map u8))->KF (.val (bool v)) (σ'.set c4 (.cells (hs.map u8)))->KF' (.val (bool v)) σ') ->
    ar Tryz.prog m 77 [.sl 1 ((bT ++ [(k:Int)]).map int) sp',int (max many ((k:Int)+1)),.cp (io b mb f 0) 0,.cp y 0,.cp (ints begun) 0,.ref cp 0] σ3 KF':=fun σ3 sp' KF' hle hK=>by
    have s2p:σ2 cp=some (.cells [aL (io b mb f 0) c4 cg]):=by
     have pd:cp≠d:=fun e=>by have:=hw.pt;rw[e,hd] at this;cases this
     exact hk2' _ _ (by rw[s1o cp pd (Ne.symm hw.ne.2)];exact hw.pt) (cb _ _ hw.pt) (.inr rfl)
    have hu3:Un σ3:=LK.un (fun c _ ⟨x,h1,_⟩=>by rw[h1];exact hle _ _ h1) hu2
    have hw3:WS b mb f y begun c4 cg cp hs2 F σ3:=⟨hle _ _ s2c,hle _ _ s2g,hle _ _ s2p,hw.out,hw.ne⟩
    have hI3:I pre.length F σ3:=Y.frame _ _ _ _ (fun c hc=>by
     obtain⟨x,h1,_⟩:=Y.Hv _ _ _ _ hI2 hc;rw[h1];exact hle _ _ h1) hI2
    have hmv3:∀ (F':Nat->Prop) (σ':aa),Mv b mb F F' σ3 σ'->Mv b mb F F' σ (σ'.set c4 (.cells (hs.map u8))):=fun F' σ' hm c x h1 h2 h3 h4=>by
     by_cases e:c=c4
     . subst e
       obtain⟨q1,q2⟩:=hm c _ (hle _ _ s2c) h2 h3 (.inr rfl);exact⟨by rw[aa.ao,← harr];exact h1,q2⟩
     . have e':c≠d:=fun e'=>by subst e';rw[hd] at h1;cases h1
       rw[aa.ak _ _ e];exact hm c x (hle _ _ (hk2' c x (by rw[s1o c e' e];exact h1) h3 h4)) h2 h3 h4
    have aft:∀ (F':Nat->Prop) (σ':aa),Mv b mb F F' σ3 σ'->σ' d=some (.cells [u8 hs[k]])∧(σ' c4=some (.cells (hs2.map u8)) ∧ ¬ F' c4):=fun F' σ' hm=>⟨(hm d _ (hle _ _ s2d) hFd db (.inr rfl)).1,hm c4 _ (hle _ _ s2c) hw.out.1 (cb _ _ harr) (.inr rfl)⟩
    subst hL;refine hG _ _ _ _ F σ3 pre post KF' (by simp;omega) (by omega) (by rw[List.length_append,hs2e,hz];exact hh.set hn6 hk') hw3 hu3 hW hI3 ⟨fun F' σ' h1 h2 h3=>?_,fun F' σ' h1 h2 h3=>?_⟩
    . obtain⟨q1,q2,q3⟩:=aft F' σ' h1
      exact hK true σ' q1 q2 (hR.1 F' _ (hmv3 F' σ' h1) (lI LK h2 (fun x hx=>by rw[q2] at hx;cases hx;rfl)) (Y.frame _ _ _ _ (fun c hc=>aa.ak _ _ (fun e=>q3 (e ▸ hc))) h3))
    . obtain⟨q1,q2,q3⟩:=aft F' σ' h1
      exact hK false σ' q1 q2 (hR.2 F' _ (hmv3 F' σ' h1) (lI LK h2 (fun x hx=>by rw[q2] at hx;cases hx;rfl)) (Y.Il _ _ _ (fun c hc=>aa.ak _ _ (fun e=>q3 (e ▸ hc))) h3))
   have k1 : -9223372036854775808≤(k:Int)+1∧(k:Int)+1≤9223372036854775807:=by omega
   have hmax:(if many<(k:Int)+1 then (k:Int)+1 else many)=max many ((k:Int)+1):=by split <;> omega
   refine bk.go lay [] ?_;simp[s2c,s2d,s2g,k1.1,k1.2,hmax]
   repeat' (first
             | apply And.intro
             | (refine pE lay rfl dz rfl tO (es:=bT.map int) (sp:=sp) (l:=0) (h:=bT.length) (by simp) (fun cap hcap=>⟨⟨⟨.i64,by simp⟩,by simpa using hcap⟩,⟨⟨.i64,by simp⟩,Nat.le_refl _⟩,rfl⟩) (by simp) fun a ha=>?_
                have hta:Tok σ2 σ2 a 1 (bT.map int):=by
                 rcases ha with rfl|⟨e,rfl⟩
                 . have:List.take (bT.length-0) (List.drop 0 (bT.map int))=bT.map int:=by rw[List.drop_zero,List.take_of_length_le (by simp)]
                   rw[this];exact .exact _ _ _
                 . rw[e];exact .nil _ _
                clear ha;refine bk.go lay [] ?_;simp[s2c,s2d,s2g,k1.1,k1.2,hmax])
             | (refine aU lay rfl rfl rfl dz rfl dz rfl tO (by decide) (by simp;omega) (σ0:=σ2) (es:=bT.map int) (xs:=[int k]) (by simpa using hta) (.inr ⟨_,by simp;rfl⟩) fun a' σ3 ht'=>?_
                obtain⟨sp',rfl⟩:∃ sp',a' = .sl 1 (bT.map int ++ [int k]) sp':=by
                 rcases ht'.2 with ⟨_,e⟩|e|⟨_,_,_,e,_⟩
                 . simp at e
                 . exact⟨_,e⟩
                 . exact⟨_,e⟩
                have s3g:=ht'.1 _ _ s2g;refine bk.go lay [] ?_;simp[s3g,k1.1,k1.2,hmax])
             | (refine dW Tryz.func77 rfl rfl (by simp) (hgrow σ3 sp' _ ht'.1 fun v σ' q1 q2 q3=>?_)
                refine bk.go lay [] ?_;simp;refine ab.run lay [] ?_;simp;exact hfin _ _ v (by simp) q1 q2 q3))
end
end Go.Proofs.YtelgggdkahhhfaaGreatDoor

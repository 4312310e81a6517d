/- Part 31 of the proof. -/
import Derived.Test.YtalogdafegmilaaGreatDoorC30
set_option linter.all false
namespace Go.Proofs.YtalogdafegmilaaGreatDoor
open Go.aN Go.Conc
set_option maxHeartbeats 1000000
set_option maxRecDepth 4000
variable{m:Mo}{σ:aa}{KF:cL->aa->Prop}
structure JB(f:Fr)(l:List Int):Prop where
 mem:∀n∈l,0<=n/\n<f.az.length
 ne:l≠[]
 len:l.length<=1000000
def dF(f:Fr)(l:List Int):Bool:=l.any λn=>decide ((bT f n).cS≠(bT f (l.getD 0 0)).cS)
theorem rC{f:Fr}{x:Int}(h:x.toNat<f.az.length):bT f x=f.az[x.toNat]:=by simp[bT,List.getD_eq_getElem?_getD,h]
theorem CX{b mb:Nat}{f:Fr}{l:List Int}(hl:JB f l)(h:KF (.val (bool (dF f l))) σ):aA Tryz.prog m 172 [.agg [],iF b mb f 0,ints l] σ KF:=by
 obtain⟨h0,hne,hlen⟩:=hl;have hpos:0<l.length:=List.length_pos_iff.2 hne;obtain⟨z0,z1⟩:=h0 _ (List.getElem_mem hpos);have z2:l[0].toNat<f.az.length:=by omega
 have hz:l.getD 0 0=l[0]:=by simp[List.getD_eq_getElem?_getD,hpos]
 unfold dF at h;rw[hz]at h;refine aA.start lay [] OI 3 Tryz.func172 rfl rfl (by rfl) (by kernel_rfl) ?_
 simp[Tryz.f172];refine ab.loop l.length (λk s=>∃env,s=⟨env,σ,[],.no⟩/\env 1=iF b mb f 0/\env 2=ints l/\env 9=ints l/\env 10=int l.length/\env 11=int k/\∀n∈l.take k,(bT f n).cS=(bT f l[0]).cS) ⟨_,rfl,by simp⟩ ?_
 rintro c0 k _ hk ⟨env,rfl,h1,h2,h9,h10,h11,hall⟩ ih
 rcases Nat.lt_or_ge k l.length with g1|g1
 . obtain⟨y0,y1⟩:=h0 _ (List.getElem_mem g1)
   have y2:l[k].toNat<f.az.length:=by omega
   have e1:=rC y2;have e2:=rC z2;refine ab.run lay [] ?_;simp[h1,h2,h9,h10,h11,g1,hpos,y0,y2,z0,z2];refine ab.run lay [] ?_;simp[h1,h2,h9,h10,h11]
   by_cases g2:f.az[l[k].toNat].cS=f.az[l[0].toNat].cS
   . simp[h1,h2,h9,h10,h11,g2]
     refine⟨by omega,ih _ g1 ⟨_,rfl,by simp[h1,h2,h9,h10,h11],by simp[h1,h2,h9,h10,h11],by simp[h1,h2,h9,h10,h11],by simp[h1,h2,h9,h10,h11],by simp,λn hn=>?_⟩⟩
     rw[List.take_succ_eq_append_getElem g1,List.mem_append,List.mem_singleton]at hn
     rcases hn with hn|rfl
     . exact hall n hn
     . rw[e1,e2];exact g2
   . have g3:(f.az[l[k].toNat].cS !=f.az[l[0].toNat].cS)=true:=by simp[g2]
     have:l.any (λn=>decide ((bT f n).cS≠(bT f l[0]).cS))=true:=List.any_eq_true.2 ⟨_,List.getElem_mem g1,by rw[e1,e2];simp[g2]⟩
     rw[this]at h;simp[h1,h2,h9,h10,h11,g3];exact .done h
 . have:k=l.length:=by omega
   subst this;rw[List.take_length]at hall
   have:l.any (λn=>decide ((bT f n).cS≠(bT f l[0]).cS))=false:=by rw[List.any_eq_false];intro n hn;simp[hall n hn]
   rw[this]at h;refine ab.run lay [] ?_;simp[h1,h2,h9,h10,h11];exact .done h
def cG(f:Fr)(l:List Int):Bool:=decide (dS f l=[])
theorem CY{b mb:Nat}{f:Fr}{l:List Int}(hf:f.Good)(hl:JB f l)(h:KF (.val (bool (cG f l))) σ):aA Tryz.prog m 173 [.agg [],iF b mb f 0,ints l] σ KF:=by
 refine aA.start lay [] [] 3 Tryz.func173 rfl rfl (by rfl) (by kernel_rfl) ?_
 simp[Tryz.f173];refine aq Tryz.func85 rfl rfl (vN hf hl.ne hl.len hl.mem ?_);refine ab.run lay [] ?_;simp;unfold cG at h;cases hh:dS f l with
 |nil=>rw[hh]at h;exact .done h
 | cons a r=>
   rw[hh]at h;have e:((r.length:Int)+1==0)=false:=by rw[beq_eq_false_iff_ne];omega
   refine .done ?_;simpa[e]using h
def j7(f:Fr)(x y:Int):Bool:=decide ((bT f y).hour-(bT f x).hour<rd f.roads (bT f x).place.toNat (bT f y).place.toNat+f.dR*bQ (bH (bT f x).marks) (bH (bT f y).marks))
def cO(f:Fr)(l:List Int):Bool:=(List.range (l.length-1)).any λi=>j7 f (l.getD i 0) (l.getD (i+1) 0)
theorem oZ:∀{l:List Int}{p:Option Int},rv p l=0->∀n∈l,0<=n/\n<=4
 |[],_,_,n,hn=>by simp at hn
 | a::l,p,h,n,hn=>by
   unfold rv at h;split at h
   . cases h
   next q1=>
   split at h
   . cases h
   next q2=>
   rcases List.mem_cons.1 hn with rfl|hn
   . simp[dv]at q1;omega
   . exact oZ h n hn
theorem Fi:∀a:Fin 32,∀n:Fin 5,0<=bq (a.val:Int) (n.val:Int)/\bq (a.val:Int) (n.val:Int)<32:=by decide
theorem jP{l:List Int}(h:∀n∈l,0<=n/\n<=4):0<=bH l/\bH l<32:=by
 have key:∀(l:List Int) (a:Int),(∀n∈l,0<=n/\n<=4)->0<=a/\a<32->0<=l.foldl bq a/\l.foldl bq a<32:=by
  intro l;induction l with
  |nil=>intro a _ h;exact h
  | cons x l ih=>
    intro a hx ha;rw[List.foldl_cons];refine ih _ (λn hn=>hx n (List.mem_cons_of_mem _ hn)) ?_;obtain⟨x0,x1⟩:=hx x (List.mem_cons_self ..);have:=Fi ⟨a.toNat,by omega⟩ ⟨x.toNat,by omega⟩;have e1:(a.toNat:Int)=a:=by omega
    have e2:(x.toNat:Int)=x:=by omega
    simpa only[e1,e2]using this
 exact key l 0 h (by omega)
theorem H6:∀a:Fin 32,∀b:Fin 32,rA 8 (vL (a.val:Int) (b.val:Int))=0/\0<=bQ (a.val:Int) (b.val:Int)/\bQ (a.val:Int) (b.val:Int)<=5:=by decide +kernel
theorem Ed{a b:Int}(ha:0<=a/\a<32)(hb:0<=b/\b<32):rA 8 (vL a b)=0/\0<=bQ a b/\bQ a b<=5:=by
 have:=H6 ⟨a.toNat,by omega⟩ ⟨b.toNat,by omega⟩;have e1:(a.toNat:Int)=a:=by omega
 have e2:(b.toNat:Int)=b:=by omega
 simpa only[e1,e2]using this
theorem Fr.Good.row{f:Fr}(hf:f.Good){i:Nat}(hi:i<f.roads.length):f.roads[i].length=f.roads.length/\∀x∈f.roads[i],0<=x/\x<=9:=by
 have h:=hf.Lu;unfold i6 at h;split at h
 . cases h
 split at h
 . cases h
 split at h
 . next q=>exact absurd h q
 next q=>
 obtain⟨h1,h2⟩:=kj (by simpa using q) _ (List.getElem_mem hi);exact⟨h1,λx hx=>i8 (h2 x hx)⟩
theorem CZ{b mb:Nat}{f:Fr}{l:List Int}(hf:f.Good)(hl:JB f l)(h:KF (.val (bool (cO f l))) σ):aA Tryz.prog m 174 [.agg [],iF b mb f 0,ints l] σ KF:=by
 obtain⟨h0,hne,hlen⟩:=hl;have hdye:=hf.dR;unfold cO at h;refine aA.start lay [] OJ 3 Tryz.func174 rfl rfl (by rfl) (by kernel_rfl) ?_
 simp[Tryz.f174];refine ab.loop (l.length-1) (λk s=>∃env σ',s=⟨env,σ',[],.no⟩/\σ.Le σ'/\env 1=iF b mb f 0/\env 2=ints l/\env 7=int ((k:Int)+1)/\∀i<k,j7 f (l.getD i 0) (l.getD (i+1) 0)=false) ⟨_,_,rfl,aa.le_refl _,by simp⟩ ?_
 rintro c0 k _ hk ⟨env,σ',rfl,hle,h1,h2,h7,hall⟩ ih
 rcases Nat.lt_or_ge (k+1) l.length with g1|g1
 . have g1':(k:Int)+1<l.length:=by omega
   have g0:k<l.length:=by omega
   obtain⟨x0,x1⟩:=h0 _ (List.getElem_mem g0);obtain⟨y0,y1⟩:=h0 _ (List.getElem_mem g1);have x2:l[k].toNat<f.az.length:=by omega
   have y2:l[k+1].toNat<f.az.length:=by omega
   have f1:-9223372036854775808<=(k:Int)/\(k:Int)<=9223372036854775807:=by omega
   have f2:((k:Int)+1).toNat=k+1:=by omega
   have f3:(0:Int)<=(k:Int)+1:=by omega
   obtain⟨A,hA⟩:∃A,A=f.az[l[k].toNat]:=⟨_,rfl⟩;obtain⟨B,hB⟩:∃B,B=f.az[l[k+1].toNat]:=⟨_,rfl⟩;have eA:=rC x2;have eB:=rC y2;rw[<-hA]at eA;rw[<-hB]at eB;have bA:=tv (hf.Bp A (by rw[hA];exact List.getElem_mem x2))
   have bB:=tv (hf.Bp B (by rw[hB];exact List.getElem_mem y2))
   refine ab.run lay [] ?_;simp[h1,h2,h7,g1',g0,g1,x0,x2,y0,y2,f1.1,f1.2,f2,f3,<-hA,<-hB];have hc9:=λ{c:Nat}(hc:σ' c=none)=>hle.none hc
   have pA:A.place.toNat<f.roads.length:=by omega
   obtain⟨r1,r2⟩:=hf.row pA;have pB:B.place.toNat<f.roads[A.place.toNat].length:=by omega
   obtain⟨r3,r4⟩:=r2 _ (List.getElem_mem pB);have hrd:rd f.roads A.place.toNat B.place.toNat=f.roads[A.place.toNat][B.place.toNat]:=mI pA pB;have mA:=oZ bA.2.2.2.2.2;have mB:=oZ bB.2.2.2.2.2;have lA:=jP mA;have lB:=jP mB;obtain⟨c1,c2,c3⟩:=Ed lA lB;obtain⟨ch,hch⟩:∃ch,ch=bQ (bH A.marks) (bH B.marks):=⟨_,rfl⟩;rw[<-hch]at c2 c3
   have hmul:0<=f.dR*ch/\f.dR*ch<=30:=by
    constructor
    . exact Int.mul_nonneg (by omega) c2
    . calc f.dR*ch<=6*5:=Int.mul_le_mul hdye.2 c3 c2 (by omega)
       _=30:=by rfl
   have htoo:j7 f l[k] l[k+1]=decide (B.hour-A.hour<f.roads[A.place.toNat][B.place.toNat]+f.dR*ch):=by unfold j7;rw[eA,eB,hrd,hch]
   have hk0:l.getD k 0=l[k]:=by simp[List.getD_eq_getElem?_getD,g0]
   have hk1:l.getD (k+1) 0=l[k+1]:=by simp[List.getD_eq_getElem?_getD,g1]
   have s1:-9223372036854775808<=B.hour-A.hour/\B.hour-A.hour<=9223372036854775807:=by omega
   have s2:-9223372036854775808<=f.dR*ch/\f.dR*ch<=9223372036854775807:=by omega
   have s3:-9223372036854775808<=f.roads[A.place.toNat][B.place.toNat]+f.dR*ch/\f.roads[A.place.toNat][B.place.toNat]+f.dR*ch<=9223372036854775807:=by omega
   refine⟨z9.intro λc hc=>?_,z9.intro λc hc=>?_⟩
   . simp[h1,h2,h7]
     refine z9.intro λd hd=>?_
     obtain⟨n1,n2,hd⟩:=aa.aO hd;have hc0:=hc9 hc;have hd0:=hc9 hd;simp[h1,h2,h7,n1,n2,aa.ai];refine ab.cZ 8 (b:=c) (dt A) (by simp[n1,n2,aa.ai]) (by simp) rfl ?_
     refine ab.cZ 9 (b:=d) (dt B) (by simp[n1,n2,aa.ai,aa.del]) (by simp) rfl ?_
     refine ab.run lay [] ?_;simp[h1,h2,h7,s1.1,s1.2,pA,pB];refine⟨by omega,by omega,?_⟩
     refine aq Tryz.func175 rfl rfl (m9 (by have:=hf.fits.marks A (by rw[hA];exact List.getElem_mem x2);omega) (λn hn=>(mA n hn).1) ?_)
     refine bm.go lay [] ?_;simp[h1,h2,h7];refine aq Tryz.func175 rfl rfl (m9 (by have:=hf.fits.marks B (by rw[hB];exact List.getElem_mem y2);omega) (λn hn=>(mB n hn).1) ?_)
     refine bm.go lay [] ?_;simp[h1,h2,h7];refine aq Tryz.func176 rfl rfl (vO c1 ?_);rw[<-hch];refine bm.go lay [] ?_;simp[h1,h2,h7,s2.1,s2.2,s3.1,s3.2];refine ab.run lay [] ?_;simp[h1,h2,h7]
     by_cases g3:B.hour-A.hour<f.roads[A.place.toNat][B.place.toNat]+f.dR*ch
     . simp[h1,h2,h7,g3]
       have:(List.range (l.length-1)).any (λi=>j7 f (l.getD i 0) (l.getD (i+1) 0))=true:=List.any_eq_true.2 ⟨k,List.mem_range.2 (by omega),by rw[hk0,hk1,htoo];simpa using g3⟩
       rw[this]at h;exact .less (by repeat (first|exact aa.le_refl _|assumption|refine aa.ig ?_ (by assumption)|refine aa.jm ?_ (by assumption))) (.done h)
     . simp[h1,h2,h7,g3]
       refine⟨by omega,ih _ (by omega) ⟨_,_,rfl,(by repeat (first|exact aa.le_refl _|assumption|refine aa.ig ?_ (by assumption)|refine aa.jm ?_ (by assumption))),by simp[h1,h2,h7],by simp[h1,h2,h7],by simp,λi hi=>?_⟩⟩
       by_cases e:i=k
       . subst e;rw[hk0,hk1,htoo];simpa using g3
       . exact hall i (by omega)
   . simp[h1,h2,h7]
     refine z9.intro λd hd=>?_
     obtain⟨n1,n2,hd⟩:=aa.aO hd;have hc0:=hc9 hc;have hd0:=hc9 hd;simp[h1,h2,h7,n1,n2,aa.ai];refine ab.cZ 8 (b:=d) (dt A) (by simp[n1,n2,aa.ai]) (by simp) rfl ?_
     refine ab.cZ 9 (b:=c) (dt B) (by simp[n1,n2,aa.ai,aa.del]) (by simp) rfl ?_
     refine ab.run lay [] ?_;simp[h1,h2,h7,s1.1,s1.2,pA,pB];refine⟨by omega,by omega,?_⟩
     refine aq Tryz.func175 rfl rfl (m9 (by have:=hf.fits.marks A (by rw[hA];exact List.getElem_mem x2);omega) (λn hn=>(mA n hn).1) ?_)
     refine bm.go lay [] ?_;simp[h1,h2,h7];refine aq Tryz.func175 rfl rfl (m9 (by have:=hf.fits.marks B (by rw[hB];exact List.getElem_mem y2);omega) (λn hn=>(mB n hn).1) ?_)
     refine bm.go lay [] ?_;simp[h1,h2,h7];refine aq Tryz.func176 rfl rfl (vO c1 ?_);rw[<-hch];refine bm.go lay [] ?_;simp[h1,h2,h7,s2.1,s2.2,s3.1,s3.2];refine ab.run lay [] ?_;simp[h1,h2,h7]
     by_cases g3:B.hour-A.hour<f.roads[A.place.toNat][B.place.toNat]+f.dR*ch
     . simp[h1,h2,h7,g3]
       have:(List.range (l.length-1)).any (λi=>j7 f (l.getD i 0) (l.getD (i+1) 0))=true:=List.any_eq_true.2 ⟨k,List.mem_range.2 (by omega),by rw[hk0,hk1,htoo];simpa using g3⟩
       rw[this]at h;exact .less (by repeat (first|exact aa.le_refl _|assumption|refine aa.ig ?_ (by assumption)|refine aa.jm ?_ (by assumption))) (.done h)
     . simp[h1,h2,h7,g3]
       refine⟨by omega,ih _ (by omega) ⟨_,_,rfl,(by repeat (first|exact aa.le_refl _|assumption|refine aa.ig ?_ (by assumption)|refine aa.jm ?_ (by assumption))),by simp[h1,h2,h7],by simp[h1,h2,h7],by simp,λi hi=>?_⟩⟩
       by_cases e:i=k
       . subst e;rw[hk0,hk1,htoo];simpa using g3
       . exact hall i (by omega)
 . have g2:¬(k:Int)+1<l.length:=by omega
   have:(List.range (l.length-1)).any (λi=>j7 f (l.getD i 0) (l.getD (i+1) 0))=false:=by
    rw[List.any_eq_false];intro i hi;rw[hall i (by have:=List.mem_range.1 hi;omega)]
    simp
   rw[this]at h;refine ab.run lay [] ?_;simp[h1,h2,h7,g2];exact .less hle (.done h)
end Go.Proofs.YtalogdafegmilaaGreatDoor
namespace Go.Proofs.YtalogdafegmilaaGreatDoor
open Go.aN Go.Conc
set_option maxHeartbeats 1000000
set_option maxRecDepth 4000
variable{m:Mo}{σ:aa}{KF:cL->aa->Prop}
theorem OM:(((Tryz.prog.info? 150).bind λi=>i.methods.find? (·.name==  "palfrey/mark.breaks")).map λmt=>(mt.path,mt.func))=some (#[],some (172,false)):=by kernel_rfl
theorem ON:(((Tryz.prog.info? 151).bind λi=>i.methods.find? (·.name==  "palfrey/mark.breaks")).map λmt=>(mt.path,mt.func))=some (#[],some (173,false)):=by kernel_rfl
theorem OP:(((Tryz.prog.info? 152).bind λi=>i.methods.find? (·.name==  "palfrey/mark.breaks")).map λmt=>(mt.path,mt.func))=some (#[],some (174,false)):=by kernel_rfl
theorem Mk{a:AV}:uY Tryz.prog 150  "palfrey/mark.breaks" 172 a a:=by obtain⟨mt,hmt,e⟩:=Option.map_eq_some_iff.1 OM;obtain⟨info,hi,hm⟩:=Option.bind_eq_some_iff.1 hmt;obtain⟨e1,e2⟩:=Prod.mk.inj e;exact qr lay OC hi hm (by rw[e1]) e2 rfl
theorem Ml{a:AV}:uY Tryz.prog 151  "palfrey/mark.breaks" 173 a a:=by obtain⟨mt,hmt,e⟩:=Option.map_eq_some_iff.1 ON;obtain⟨info,hi,hm⟩:=Option.bind_eq_some_iff.1 hmt;obtain⟨e1,e2⟩:=Prod.mk.inj e;exact qr lay OD hi hm (by rw[e1]) e2 rfl
theorem Mm{a:AV}:uY Tryz.prog 152  "palfrey/mark.breaks" 174 a a:=by obtain⟨mt,hmt,e⟩:=Option.map_eq_some_iff.1 OP;obtain⟨info,hi,hm⟩:=Option.bind_eq_some_iff.1 hmt;obtain⟨e1,e2⟩:=Prod.mk.inj e;exact qr lay OE hi hm (by rw[e1]) e2 rfl
def aT(f:Fr)(l:List Int):List Int:=(eH (λa b=>decide (sD f a b<0)) l).reverse
def ii(f:Fr)(l:List Int):Int:=if dF f (aT f l)then 1 else if cG f (aT f l)then 2 else if cO f (aT f l)then 3 else 0
abbrev OQ(n:Int):AV:=if n=1 then .nI 150 (.agg [])else if n=2 then .nI 151 (.agg [])else if n=3 then .nI 152 (.agg [])else .lit .nilIface
theorem JB.sort{f:Fr}{l:List Int}(h:JB f l):JB f (aT f l):=
 ⟨fun n hn=>h.mem n ((sC _ _ _).1 (by simpa[aT]using hn)),λe=>h.ne (by
   have:(aT f l).length=l.length:=by simp[aT,kH]
   rw[e]at this;exact List.length_eq_zero_iff.1 this.symm),by simp[aT,kH,h.len]⟩
theorem H7{b mb:Nat}{f:Fr}{l:List Int}(hf:f.Good)(hl:JB f l)(h20:l.length<20)(h:KF (.val (OQ (ii f l))) σ):aA Tryz.prog m 64 [iF b mb f 0,ints l] σ KF:=by
 have hs:=hl.sort;refine aA.start lay [] [] 2 Tryz.func64 rfl rfl (by rfl) (by kernel_rfl) ?_;simp[Tryz.f64];refine cT.intro λc hc=>?_
 simp;refine aq Tryz.func97 rfl rfl (KJ H5 hl.mem h20 hl.ne ⟨rfl,rfl⟩ ?_);obtain⟨S,hS⟩:∃S,S=(eH (λa b=>decide (sD f a b<0)) l).reverse:=⟨_,rfl⟩;have hS':aT f l=S:=hS.symm;rw[hS']at hs;unfold ii at h;rw[hS']at h;rw[<-hS];refine ab.run lay [] ?_;simp;refine ab.loop 3 (λk s=>∃env σ',s=⟨env,σ',[],.no⟩/\σ.Le σ'/\env 1=ints S/\env 2=.cp (iF b mb f 0) 0/\env 19=.sl 1 [.nI 150 (.agg []),.nI 151 (.agg []),.nI 152 (.agg [])] .exact/\env 20=int 3/\env 21=int k/\(1<=k->dF f S=false)/\(2<=k->cG f S=false)/\(3<=k->cO f S=false)) ⟨_,_,rfl,aa.iU (aa.le_refl _) hc,by simp,by simp,by simp,by simp,by simp,by simp,by simp,by simp⟩ ?_;rintro c0 k _ hk ⟨env,σ',rfl,hle,h1,h2,h19,h20,h21,q1,q2,q3⟩ ih;obtain rfl|rfl|rfl|rfl:k=0\/k=1\/k=2\/k=3:=by omega
 . refine ab.run lay [] ?_
   simp[h1,h2,h19,h20,h21];refine ab.invoke rfl rfl rfl (by simp) rfl Mk Tryz.func172 rfl rfl ?_;refine CX hs ?_;refine ab.run lay [] ?_;simp[h1,h2,h19,h20,h21];cases hb:dF f S
   . simp[h1,h2,h19,h20,h21]
     exact ih _ (by omega) ⟨_,_,rfl,hle,by simp[h1,h2,h19,h20,h21],by simp[h1,h2,h19,h20,h21],by simp[h1,h2,h19,h20,h21],by simp[h1,h2,h19,h20,h21],by simp,λ_=>hb,λq=>(by omega),λq=>(by omega)⟩
   . simp[h1,h2,h19,h20,h21]
     simp[hb]at h;exact .less hle (.done h)
 . have e1:=q1 (by omega)
   refine ab.run lay [] ?_;simp[h1,h2,h19,h20,h21];refine ab.invoke rfl rfl rfl (by simp) rfl Ml Tryz.func173 rfl rfl ?_;refine CY hf hs ?_;refine ab.run lay [] ?_;simp[h1,h2,h19,h20,h21];cases hb:cG f S
   . simp[h1,h2,h19,h20,h21]
     exact ih _ (by omega) ⟨_,_,rfl,hle,by simp[h1,h2,h19,h20,h21],by simp[h1,h2,h19,h20,h21],by simp[h1,h2,h19,h20,h21],by simp[h1,h2,h19,h20,h21],by simp,λ_=>e1,λ_=>hb,λq=>(by omega)⟩
   . simp[h1,h2,h19,h20,h21]
     simp[hb,e1]at h;exact .less hle (.done h)
 . have e1:=q1 (by omega)
   have e2:=q2 (by omega);refine ab.run lay [] ?_;simp[h1,h2,h19,h20,h21];refine ab.invoke rfl rfl rfl (by simp) rfl Mm Tryz.func174 rfl rfl ?_;refine CZ hf hs ?_;refine ab.run lay [] ?_;simp[h1,h2,h19,h20,h21];cases hb:cO f S
   . simp[h1,h2,h19,h20,h21]
     exact ih _ (by omega) ⟨_,_,rfl,hle,by simp[h1,h2,h19,h20,h21],by simp[h1,h2,h19,h20,h21],by simp[h1,h2,h19,h20,h21],by simp[h1,h2,h19,h20,h21],by simp,λ_=>e1,λ_=>e2,λ_=>hb⟩
   . simp[h1,h2,h19,h20,h21]
     simp[hb,e1,e2]at h;exact .less hle (.done h)
 . have e1:=q1 (by omega)
   have e2:=q2 (by omega);have e3:=q3 (by omega);simp[e1,e2,e3]at h;refine ab.run lay [] ?_;simp[h1,h2,h19,h20,h21];exact .less hle (.done h)
end Go.Proofs.YtalogdafegmilaaGreatDoor
namespace Go.Proofs.YtalogdafegmilaaGreatDoor
open Go Go.aN
set_option maxRecDepth 100000
abbrev nn:xp:=⟨118,119,132,133,139,141,99,100,111,98,138,140,144,145,147,148,150,207,158,21⟩
theorem H8:∀(fl:Fl) b o kind,aH Tryz.prog fl [0,5] (LD Tryz.prog nn b o kind) un=some (sb Tryz.prog nn b o kind):=by intro fl b o kind;kernel_rfl
theorem H9:∀(fl:Fl) b o kind,aH Tryz.prog fl [0] (sb Tryz.prog nn b o kind) tt=some (K9 Tryz.prog nn b o kind):=by intro fl b o kind;kernel_rfl
theorem Ia:∀(fl:Fl) b o kind,aH Tryz.prog fl [0,2,3,4,5,12] (sb Tryz.prog nn b o kind) ff=some (Pa Tryz.prog nn b o kind):=by intro fl b o kind;kernel_rfl
theorem Ib:∀(fl:Fl) b o kind,aH Tryz.prog fl [8] (K9 Tryz.prog nn b o kind) un=some (M7 Tryz.prog nn b o kind):=by intro fl b o kind;kernel_rfl
theorem Ic:∀(fl:Fl) b o kind,aH Tryz.prog fl [9] (M7 Tryz.prog nn b o kind) (pt b o)=some (La Tryz.prog nn b o kind):=by intro fl b o kind;kernel_rfl
theorem Id:∀(fl:Fl) b o kind,aH Tryz.prog fl [] (La Tryz.prog nn b o kind) un=some (BK nn kind):=by intro fl b o kind;kernel_rfl
theorem Fj:∀(fl:Fl) b o kind L K S aw sv it,oa Tryz.prog fl [0,2,3,4,5,6] (LZ Tryz.prog nn b o kind aw sv it) (.word L K S 0)=some (HD Tryz.prog nn b o kind L K S aw sv it):=by intro fl b o kind L K S aw sv it;kernel_rfl
theorem Fk:∀(fl:Fl) b o kind L K S aw sv it,oa Tryz.prog fl [0,2,3,4,5,6] (Du Tryz.prog nn b o kind aw sv it) (.word L K S 0)=some (HD Tryz.prog nn b o kind L K S aw sv it):=by intro fl b o kind L K S aw sv it;kernel_rfl
theorem Fm:∀(fl:Fl) b o kind L K S aw sv it,oa Tryz.prog fl [0,2,3,4,5,6] (L0 Tryz.prog nn b o kind aw sv it) (.word L K S 0)=some (HD Tryz.prog nn b o kind L K S aw sv it):=by intro fl b o kind L K S aw sv it;kernel_rfl
theorem Ie:∀(fl:Fl) b o kind K aw sv it,NP Tryz.prog fl [0,2,3,4,5,6,17,18] (HD Tryz.prog nn b o kind true K false aw sv it)=SQ Tryz.prog nn b o kind K aw sv it:=by intro fl b o kind K aw sv it;cases K<;>cases aw<;>cases sv<;>kernel_rfl
theorem If:∀(fl:Fl) b o kind L K S aw sv it,(L && !S)=false->(aw && !K)=false->NP Tryz.prog fl [0,2,3,4,5,6,77,78,79] (HD Tryz.prog nn b o kind L K S aw sv it)=Ax Tryz.prog nn b o kind L K S aw sv it:=by intro fl b o kind L K S aw sv it h1 h2;cases L<;>cases K<;>cases S<;>cases aw<;>cases sv<;>first|exact absurd h1 (by decide)|exact absurd h2 (by decide)|kernel_rfl
theorem Fo:∀(fl:Fl) b o kind it,aH Tryz.prog {fl with n0:=false} [0,2,3,4,5,33,36,37,39] (SQ Tryz.prog nn b o kind false false false it) tt=some (SW Tryz.prog nn b o kind it):=by intro fl b o kind it;kernel_rfl
theorem C0:∀(fl:Fl) b o kind n0 K aw sv it,(!aw && !K && !n0)=false->aH Tryz.prog {fl with n0:=n0} [0,2,3,4,5] (SQ Tryz.prog nn b o kind K aw sv it) tt=some (DS Tryz.prog nn b o kind aw sv it):=by intro fl b o kind n0 K aw sv it h;cases n0<;>cases K<;>cases aw<;>cases sv<;>first|exact absurd h (by decide)|kernel_rfl
theorem Fp:∀(fl:Fl) b o kind K aw sv it,(aw && !K)=false->aH Tryz.prog fl [0,2,3,4,5,6,77,78,79] (SQ Tryz.prog nn b o kind K aw sv it) ff=some (Ax Tryz.prog nn b o kind true K false aw sv it):=by intro fl b o kind K aw sv it h;cases K<;>cases aw<;>cases sv<;>first|exact absurd h (by decide)|kernel_rfl
theorem Fq:∀(fl:Fl) b o kind r it,aH Tryz.prog fl [0,2,3,4,5] (SW Tryz.prog nn b o kind it) (bl r)=some (DS Tryz.prog nn b o kind r false it):=by intro fl b o kind r it;cases r<;>kernel_rfl
theorem C1:∀(fl:Fl) b o kind aw sv,aH Tryz.prog fl [0,2,3,4,5,47] (DS Tryz.prog nn b o kind aw sv 0) un=some (Du Tryz.prog nn b o kind aw sv 1):=by intro fl b o kind aw sv;kernel_rfl
theorem C2:∀(fl:Fl) b o kind aw sv,aH Tryz.prog fl [0,2,3,4,5,47] (DS Tryz.prog nn b o kind aw sv 1) un=some (Du Tryz.prog nn b o kind aw sv 2):=by intro fl b o kind aw sv;kernel_rfl
theorem C3:∀(fl:Fl) b o kind aw sv,aH Tryz.prog fl [0,2,3,4,5,47] (DS Tryz.prog nn b o kind aw sv 2) un=some (Du Tryz.prog nn b o kind aw sv 3):=by intro fl b o kind aw sv;kernel_rfl
theorem C4:∀(fl:Fl) b o kind aw sv,aH Tryz.prog fl [0,2,3,4,5,47] (DS Tryz.prog nn b o kind aw sv 3) un=some (Du Tryz.prog nn b o kind aw sv 4):=by intro fl b o kind aw sv;kernel_rfl
theorem Fs:∀(fl:Fl) b o kind K aw sv it,aH Tryz.prog fl [0] (Ax Tryz.prog nn b o kind false K false aw sv it) tt=some (Jy Tryz.prog nn b o kind):=by intro fl b o kind K aw sv it;cases K<;>kernel_rfl
theorem C5:∀(fl:Fl) b o kind L K S aw sv it,(L||S)=true->aH Tryz.prog {fl with wz:=true} [0,3] (Ax Tryz.prog nn b o kind L K S aw sv it) tt=some (T1 Tryz.prog nn b o kind sv):=by intro fl b o kind L K S aw sv it h;cases L<;>cases K<;>cases S<;>first|exact absurd h (by decide)|kernel_rfl
theorem C6:∀(fl:Fl) b o kind L K S aw sv it,(L||S)=true->aH Tryz.prog {fl with wz:=false} [0,2,3,91] (Ax Tryz.prog nn b o kind L K S aw sv it) tt=some (PK Tryz.prog nn b o kind sv):=by intro fl b o kind L K S aw sv it h;cases L<;>cases K<;>cases S<;>first|exact absurd h (by decide)|kernel_rfl
theorem Ft:∀(fl:Fl) b o kind L K S aw sv it,aH Tryz.prog fl [0,2,3,4,5,133] (Ax Tryz.prog nn b o kind L K S aw sv it) ff=some (L0 Tryz.prog nn b o kind aw sv it):=by intro fl b o kind L K S aw sv it;kernel_rfl
theorem Fu:∀(fl:Fl) b o kind sv,aH Tryz.prog fl [0,2,3,91] (T1 Tryz.prog nn b o kind sv) .EG=some (PK Tryz.prog nn b o kind sv):=by intro fl b o kind sv;kernel_rfl
theorem C7:∀(fl:Fl) b o kind,aH Tryz.prog fl [0,2,3,103] (PK Tryz.prog nn b o kind true) un=some (UP Tryz.prog nn b o kind true):=by intro fl b o kind;kernel_rfl
theorem C8:∀(fl:Fl) b o kind,aH Tryz.prog fl [0,2,95] (PK Tryz.prog nn b o kind false) un=some (TQ Tryz.prog nn b o kind):=by intro fl b o kind;kernel_rfl
theorem Fv:∀(fl:Fl) b o kind x,aH Tryz.prog {fl with tb:=x} [0,2,3,103] (TQ Tryz.prog nn b o kind) .now=some (UP Tryz.prog nn b o kind x):=by intro fl b o kind x;cases x<;>kernel_rfl
theorem Fw:∀(fl:Fl) b o kind sv n1,aH Tryz.prog {fl with n0:=false,n1:=n1} [0,128,129] (UP Tryz.prog nn b o kind sv) (.word false false true 0)=some (AD Tryz.prog nn b o kind (if !sv||n1 then -11 else -7)):=by intro fl b o kind sv n1;cases sv<;>cases n1<;>kernel_rfl
theorem Fx:∀(fl:Fl) b o kind L K sv,oa Tryz.prog fl [0,2,3,4,5,6] (UP Tryz.prog nn b o kind sv) (.word L K false 0)=some (HD Tryz.prog nn b o kind L K false true sv 0):=by intro fl b o kind L K sv;cases L<;>cases K<;>kernel_rfl
theorem Fy:∀(fl:Fl) b o kind d,aH Tryz.prog fl [0] (AD Tryz.prog nn b o kind d) .bL=some (Jy Tryz.prog nn b o kind):=by intro fl b o kind d;kernel_rfl
theorem FA:∀(fl:Fl) b o kind,aH Tryz.prog fl [136] (Jy Tryz.prog nn b o kind) un=some (M8 Tryz.prog nn b o kind):=by intro fl b o kind;kernel_rfl
theorem FB:∀(fl:Fl) b o kind,aH Tryz.prog fl [137] (M8 Tryz.prog nn b o kind) (pt b o)=some (Lc Tryz.prog nn b o kind):=by intro fl b o kind;kernel_rfl
theorem FC:∀(fl:Fl) b o kind,aH Tryz.prog fl [] (Lc Tryz.prog nn b o kind) un=some (BK nn kind):=by intro fl b o kind;kernel_rfl
theorem Ig:∀(fl:Fl) b o kind,aH Tryz.prog fl [0,7] (U0 Tryz.prog nn b o kind) .bL=some (M9 Tryz.prog nn b o kind):=by intro fl b o kind;kernel_rfl
theorem Ih:∀(fl:Fl) b o kind,aH Tryz.prog fl [0,8] (M9 Tryz.prog nn b o kind) (pt b o)=some (UR Tryz.prog nn b o kind):=by intro fl b o kind;kernel_rfl
theorem Ii:∀(fl:Fl) b o kind,aH Tryz.prog fl [0] (UR Tryz.prog nn b o kind) un=some (UD Tryz.prog nn b o kind):=by intro fl b o kind;kernel_rfl
theorem Ij:∀(fl:Fl) b o kind,aH Tryz.prog fl [0,13] (UD Tryz.prog nn b o kind) un=some (qe Tryz.prog nn b o kind):=by intro fl b o kind;kernel_rfl
theorem Ik:∀(fl:Fl) b o kind n0 K,(n0||K)=true->aH Tryz.prog {fl with n0:=n0} [] (qe Tryz.prog nn b o kind) (.word false K false 0)=some (UE Tryz.prog nn b o kind):=by intro fl b o kind n0 K h;cases n0<;>cases K<;>first|exact absurd h (by decide)|kernel_rfl
theorem FD:∀(fl:Fl) b o kind n0 K,aH Tryz.prog {fl with n0:=n0} [41] (qe Tryz.prog nn b o kind) (.word false K true 0)=some (G9 Tryz.prog nn b o kind):=by intro fl b o kind n0 K;cases n0<;>cases K<;>kernel_rfl
theorem FE:∀(fl:Fl) b o kind,aH Tryz.prog {fl with n0:=false} [0,27,28,29] (qe Tryz.prog nn b o kind) (.word false false false 0)=some (UC Tryz.prog nn b o kind):=by intro fl b o kind;kernel_rfl
theorem FF:∀(fl:Fl) b o kind,aH Tryz.prog fl [33] (UC Tryz.prog nn b o kind) tt=some (G7 Tryz.prog nn b o kind):=by intro fl b o kind;kernel_rfl
theorem FG:∀(fl:Fl) b o kind,aH Tryz.prog fl [0,37] (UC Tryz.prog nn b o kind) ff=some (Jz Tryz.prog nn b o kind):=by intro fl b o kind;kernel_rfl
theorem Il:∀(fl:Fl) b o kind n0 L K S,(n0||L||K||S)=true->aH Tryz.prog {fl with n0:=n0} [] (Jz Tryz.prog nn b o kind) (.word L K S 0)=some (UE Tryz.prog nn b o kind):=by intro fl b o kind n0 L K S h;cases n0<;>cases L<;>cases K<;>cases S<;>first|exact absurd h (by decide)|kernel_rfl
theorem FH:∀(fl:Fl) b o kind,aH Tryz.prog {fl with n0:=false} [0,27,28,29] (Jz Tryz.prog nn b o kind) (.word false false false 0)=some (UC Tryz.prog nn b o kind):=by intro fl b o kind;kernel_rfl
theorem Im:∀(fl:Fl) b o kind,aH Tryz.prog fl [] (G7 Tryz.prog nn b o kind) un=some (UE Tryz.prog nn b o kind):=by intro fl b o kind;kernel_rfl
theorem Io:∀(fl:Fl) b o kind,aH Tryz.prog fl [] (G9 Tryz.prog nn b o kind) un=some (UE Tryz.prog nn b o kind):=by intro fl b o kind;kernel_rfl
theorem FI:∀(fl:Fl) b o kind,aH Tryz.prog fl [] (UE Tryz.prog nn b o kind) un=some (NX nn kind):=by intro fl b o kind;kernel_rfl
theorem Ip:∀b o kind,aR (LD Tryz.prog nn b o kind).1=some (nn.iV,[])/\(LD Tryz.prog nn b o kind).1.kind=.normal:=by intro b o kind;exact⟨by kernel_rfl,by kernel_rfl⟩
theorem Iq:∀b o kind,aR (sb Tryz.prog nn b o kind).1=some (nn.jS,[pt b o,i32 0,i32 1]):=by intro b o kind;kernel_rfl
theorem Ir:∀b o kind,aR (K9 Tryz.prog nn b o kind).1=some (nn.en,[]):=by intro b o kind;kernel_rfl
theorem Is:∀b o kind,jU (M7 Tryz.prog nn b o kind).1=some (nn.tM,nn.tU,pt b o):=by intro b o kind;kernel_rfl
theorem It:∀b o kind,aR (La Tryz.prog nn b o kind).1=some (nn.acq,[pt b o]):=by intro b o kind;kernel_rfl
theorem FJ:∀b o kind aw sv it,pf (LZ Tryz.prog nn b o kind aw sv it).1=some (nn.tI,pt b o):=by intro b o kind aw sv it;kernel_rfl
theorem FK:∀b o kind aw sv it,pf (Du Tryz.prog nn b o kind aw sv it).1=some (nn.tI,pt b o):=by intro b o kind aw sv it;kernel_rfl
theorem FL:∀b o kind aw sv it,pf (L0 Tryz.prog nn b o kind aw sv it).1=some (nn.tI,pt b o):=by intro b o kind aw sv it;kernel_rfl
theorem Iu:∀b o kind K aw sv it,aR (SQ Tryz.prog nn b o kind K aw sv it).1=some (nn.EI,[i64 it]):=by intro b o kind K aw sv it;kernel_rfl
theorem Iv:∀b o kind it,aR (SW Tryz.prog nn b o kind it).1=some (nn.jS,[pt b o,.word true false false 0,.word true true false 0]):=by intro b o kind it;kernel_rfl
theorem Iw:∀b o kind aw sv it,aR (DS Tryz.prog nn b o kind aw sv it).1=some (nn.sa,[]):=by intro b o kind aw sv it;kernel_rfl
theorem FM:∀b o kind L K S aw sv it,aR (Ax Tryz.prog nn b o kind L K S aw sv it).1=some (nn.jS,[pt b o,.word L K S 0,J1 L K S aw sv]):=by intro b o kind L K S aw sv it;kernel_rfl
theorem FN:∀b o kind sv,aR (T1 Tryz.prog nn b o kind sv).1=some (nn.nano,[]):=by intro b o kind sv;kernel_rfl
theorem FO:∀b o kind sv,aR (PK Tryz.prog nn b o kind sv).1=some (nn.Cp,[pt b (o+1),.bL,i64 2]):=by intro b o kind sv;kernel_rfl
theorem FP:∀b o kind,aR (TQ Tryz.prog nn b o kind).1=some (nn.nano,[]):=by intro b o kind;kernel_rfl
theorem FQ:∀b o kind sv,pf (UP Tryz.prog nn b o kind sv).1=some (nn.tI,pt b o):=by intro b o kind sv;kernel_rfl
theorem FT:∀b o kind d,aR (AD Tryz.prog nn b o kind d).1=some (nn.add,[pt b o,i32 d]):=by intro b o kind d;kernel_rfl
theorem FU:∀b o kind,aR (Jy Tryz.prog nn b o kind).1=some (nn.en,[]):=by intro b o kind;kernel_rfl
theorem FV:∀b o kind,jU (M8 Tryz.prog nn b o kind).1=some (nn.tM,nn.tU,pt b o):=by intro b o kind;kernel_rfl
theorem FW:∀b o kind,aR (Lc Tryz.prog nn b o kind).1=some (nn.acq,[pt b o]):=by intro b o kind;kernel_rfl
theorem FX:∀b o kind,pf (U0 Tryz.prog nn b o kind).1=some (nn.tI,pt b o)/\(U0 Tryz.prog nn b o kind).1.kind=.normal/\(U0 Tryz.prog nn b o kind).1.fn=nn.tY:=by intro b o kind;exact⟨by kernel_rfl,by kernel_rfl,by kernel_rfl⟩
theorem FY:∀b o kind,jU (M9 Tryz.prog nn b o kind).1=some (nn.tM,nn.tU,pt b o):=by intro b o kind;kernel_rfl
theorem FZ:∀b o kind,aR (UR Tryz.prog nn b o kind).1=some (nn.rel,[pt b o]):=by intro b o kind;kernel_rfl
theorem F0:∀b o kind,aR (UD Tryz.prog nn b o kind).1=some (nn.iV,[]):=by intro b o kind;kernel_rfl
theorem F1:∀b o kind,aR (qe Tryz.prog nn b o kind).1=some (nn.add,[pt b o,i32 (-1)]):=by intro b o kind;kernel_rfl
theorem F3:∀b o kind,aR (UC Tryz.prog nn b o kind).1=some (nn.jS,[pt b o,wf,.word false true false (-1)]):=by intro b o kind;kernel_rfl
theorem F4:∀b o kind,aR (G7 Tryz.prog nn b o kind).1=some (nn.mU,[pt b (o+1),ff,i64 2]):=by intro b o kind;kernel_rfl
theorem F5:∀b o kind,aR (G9 Tryz.prog nn b o kind).1=some (nn.mU,[pt b (o+1),tt,i64 2]):=by intro b o kind;kernel_rfl
theorem F6:∀b o kind,pf (Jz Tryz.prog nn b o kind).1=some (nn.tI,pt b o):=by intro b o kind;kernel_rfl
theorem F7:∀b o kind,aR (UE Tryz.prog nn b o kind).1=some (nn.en,[]):=by intro b o kind;kernel_rfl
theorem Ix:∀b o kind,(NU Tryz.prog nn b o kind).all (·.env.all plain)=true/\(LD Tryz.prog nn b o kind).1.env.all plain=true/\(LD Tryz.prog nn b o kind).2=NU Tryz.prog nn b o kind:=by intro b o kind;exact⟨by kernel_rfl,by kernel_rfl,by kernel_rfl⟩
theorem Iy:∀b o kind,(O9 Tryz.prog nn b o kind).all (·.env.all plain)=true:=by intro b o kind;kernel_rfl
theorem Iz:∀b o kind,(NW Tryz.prog nn b o kind).all (·.env.all plain)=true/\(U0 Tryz.prog nn b o kind).1.env.all plain=true/\(U0 Tryz.prog nn b o kind).2=NW Tryz.prog nn b o kind:=by intro b o kind;exact⟨by kernel_rfl,by kernel_rfl,by kernel_rfl⟩
theorem IA:∀b o kind,(PA Tryz.prog nn b o kind).all (·.env.all plain)=true:=by intro b o kind;kernel_rfl
theorem nk:iy Tryz.prog nn where
 e1:=H8
 e2:=H9
 e3:=Ia
 e4:=Ib
 e5:=Ic
 e6:=Id
 Qv:=Fj
 Qw:=Fk
 Qx:=Fm
 e8:=Ie
 e9:=If
 aJ:=Fo
 NY:=C0
 aI:=Fp
 bh:=Fq
 Cr:=C1
 Cs:=C2
 NZ:=C3
 N1:=C4
 eM:=Fs
 N2:=C5
 N3:=C6
 je:=Ft
 Al:=Fu
 N4:=C7
 N5:=C8
 JA:=Fv
 Qy:=Fw
 tW:=Fx
 v5:=Fy
 Qz:=FA
 QA:=FB
 Ad:=FC
 u1:=Ig
 u2:=Ih
 u3:=Ii
 u4:=Ij
 u5:=Ik
 QB:=FD
 QC:=FE
 QD:=FF
 QE:=FG
 u7:=Il
 QF:=FH
 u8:=Im
 u9:=Io
 QG:=FI
 o1:=Ip
 o2:=Iq
 o3:=Ir
 o4:=Is
 o5:=It
 QH:=FJ
 QI:=FK
 QJ:=FL
 o7:=Iu
 o8:=Iv
 o9:=Iw
 PB:=FM
 QK:=FN
 PC:=FO
 QL:=FP
 QM:=FQ
 QN:=FT
 QO:=FU
 QP:=FV
 QQ:=FW
 PD:=FX
 QR:=FY
 QS:=FZ
 QT:=F0
 PE:=F1
 PF:=F3
 PG:=F4
 PH:=F5
 QU:=F6
 QV:=F7
 p1:=Ix
 p2:=Iy
 p3:=Iz
 p4:=IA
theorem np:iz Tryz.prog nn where
 iV:=⟨_,rfl,rfl,rfl,rfl,rfl⟩
 en:=⟨_,rfl,rfl,rfl,rfl,rfl⟩
 acq:=⟨_,rfl,rfl,rfl,rfl,rfl⟩
 rel:=⟨_,rfl,rfl,rfl,rfl,rfl⟩
 jS:=⟨_,rfl,rfl,rfl,rfl,rfl⟩
 add:=⟨_,rfl,rfl,rfl,rfl,rfl⟩
 EI:=⟨_,rfl,rfl,rfl,rfl,rfl⟩
 sa:=⟨_,rfl,rfl,rfl,rfl,rfl⟩
 nano:=⟨_,rfl,rfl,rfl,rfl,rfl⟩
 G8:=⟨_,rfl,rfl⟩
 Cp:=⟨_,rfl,rfl,rfl,rfl,rfl⟩
 mU:=⟨_,rfl,rfl,rfl,rfl,rfl⟩
 N6:=by kernel_rfl
 QW:=⟨_,rfl,rfl,rfl⟩
 nS:=⟨_,rfl,rfl⟩
 nU:=⟨_,rfl,rfl⟩
 nV:=⟨_,rfl,rfl⟩
end Go.Proofs.YtalogdafegmilaaGreatDoor
namespace Go.Proofs.YtalogdafegmilaaGreatDoor
open Go.aN Go.Conc
set_option maxHeartbeats 1000000
set_option maxRecDepth 4000
variable{m:Mo}{σ:aa}{KF:cL->aa->Prop}
def gO(f:Fr)(x:Int):Bool:=decide (ii f (bU x)=0)
def dm(f:Fr)(l:List (Int × AV)):Prop:=∀n a,iu l n=some a->a=bool (gO f n)
theorem OR:EC Tryz.prog 121 136 4 5 .u8:=.of (by kernel_rfl) (by kernel_rfl) (by kernel_rfl) (by kernel_rfl)
theorem KL(f:Fr)(l:List Int):ii f l=0\/ii f l=1\/ii f l=2\/ii f l=3:=by
 unfold ii;split
 . exact .inr (.inl rfl)
 split
 . exact .inr (.inr (.inl rfl))
 split
 . exact .inr (.inr (.inr rfl))
 . exact .inl rfl
theorem Bt{f:Fr}{l:List Int}(h:ii f l≠0):∃d a,OQ (ii f l)=.nI d a:=by
 rcases KL f l with e|e|e|e
 . exact absurd e h
 all_goals rw[e];exact⟨_,_,rfl⟩
theorem F8{f:Fr}{l:List (Int × AV)}{x n:Int}{a:AV}(hk:dm f l)(h:iu (l++[(x,bool (gO f x))]) n=some a):a=bool (gO f n):=by
 unfold iu at h;rw[List.find?_append]at h;cases e:l.find? (λp=>n==p.1)with
 |some p=>rw[e]at h;simp only[Option.some_or,Option.map_some,Option.some.injEq]at h;subst h;exact hk n p.2 (by unfold iu;rw[e];rfl)
 | none=>
   rw[e]at h;simp only[Option.none_or,List.find?_cons,List.find?_nil]at h;split at h
   . next q=>simp only[Option.map_some,Option.some.injEq]at h;rw[beq_iff_eq]at q;subst h;rw[q]
   . cases h
theorem Mn{b mb:Nat}{f:Fr}{x:Int}{Un:aa->Prop}{Ld:aa->List (Int × AV)->Prop}(LK:Dj Tryz.prog m nn b 6 mb .u8 (dm f) Un Ld)(hf:f.Good)(hx:JB f (bU x))(h20:(bU x).length<20)(hu:Un σ)(h:∀σ',Un σ'->j8 b mb σ σ'->KF (.val (bool (gO f x))) σ'):aA Tryz.prog m 90 [iF b mb f 0,vP x] σ KF:=by
 refine aA.start lay [] Qh 2 Tryz.func90 rfl rfl (by rfl) (by kernel_rfl) ?_;simp[Tryz.f90];refine aq Tryz.func118 rfl rfl (LK.lock (xC _ _ _ _) hu λσ1 l hl hk hk1 hk2'=>?_);refine ab.run lay [] ?_;simp;refine ab.defer rfl rfl rfl rfl (by simp) rfl ?_;refine ab.run lay [] ?_;simp;refine Cj lay OR Q8 rfl rfl R6 rfl rfl (LK.map hl) ?_;refine bm.go lay [] ?_;simp
 have hfin:∀(env:Env) (σ2:aa) l2,env 4=bool (gO f x)->Ld σ2 l2->dm f l2->(∀c,c≠b->c≠mb->σ2 c=σ c)->uw Tryz.prog m (.func 119) [] [AV.kp b [ru f.az,rows f.roads,int f.bM,int f.jn,int f.dR,int f.most,.lit (.int .i32 0),.lit (.int .u32 0),.map mb] [6,7] 6] .ret σ2 (λmd' σ'=>Jv lay m [ResultVar.tmp 4] env (nB KF) [] md' σ'):=λenv σ2 l2 he hl2 hk2 hs2=>by
  refine uw.func Tryz.func119 rfl rfl (LK.unlock (xC _ _ _ _) hl2 hk2 λσ3 hu3 hs3=>?_);refine⟨[env 4],rfl,.done ?_⟩;rw[show oneOf [env 4]=env 4 from rfl,he];refine h σ3 hu3 λc y hy h1 h2=>?_
  have zy:c≠mb:=λe=>by
   subst e;rcases h2 with h2|h2
   . exact h2 rfl
   . have:=hk2' y hy
     rw[h2]at this;cases this
  rw[hs3 c h1 zy,hs2 c h1 zy];exact hy
 cases hlk:iu l x with
 |some a=>have ha:=hk x a hlk;subst ha;simp;refine ab.run lay [] ?_;simp;exact hfin _ _ _ (by simp) hl hk hk1
 | none=>
   simp;refine ab.run lay [] ?_;simp;refine aq Tryz.func120 rfl rfl (H4 ?_);refine ab.run lay [] ?_;simp;refine aq Tryz.func64 rfl rfl (H7 hf hx h20 ?_);refine ab.run lay [] ?_;simp;have hcan:decide (ii f (bU x)=0)=gO f x:=rfl;refine nY lay rfl OA rfl (isNil:=gO f x) ?_ (.inl ⟨rfl,rfl⟩) ?_
   . by_cases hw:ii f (bU x)=0
     . left
       refine⟨?_,by rw[<-hcan];simp[hw]⟩;simp[hw];rfl
     . right
       obtain⟨d,a,e⟩:=Bt hw;refine⟨⟨d,a,?_⟩,by rw[<-hcan];simp[hw]⟩;rw[<-e];simp
   refine ab.run lay [] ?_;simp;refine wn lay OR Q8 rfl rfl rfl rfl rfl (LK.map hl) hlk ?_;refine bm.go lay [] ?_;simp;refine ab.run lay [] ?_;simp;refine hfin _ _ _ (by simp) (LK.put hl) (λn a hn=>?_) (λc h1 h2=>by rw[aa.ai _ _ h2];exact hk1 c h1 h2);exact F8 hk (by simpa using hn)
end Go.Proofs.YtalogdafegmilaaGreatDoor
namespace Go.Proofs.YtalogdafegmilaaGreatDoor
open Go.aN Go.Conc
set_option maxHeartbeats 1000000
set_option maxRecDepth 4000
variable{m:Mo}{σ:aa}{KF:cL->aa->Prop}
def cV(f:Fr)(begun:List Int):Nat->List Int->Int->List Int->List (List Int)
 |0,cd,_,_=>[cd]
 | fuel+1,cd,many,hs=>(List.range (min (many+1) f.most).toNat).flatMap λk:Nat=>
    if cd.length<begun.length/\begun.getD cd.length 0≠(k:Int)then[]
    else if gO f (bq (hs.getD k 0) cd.length)=true then cV f begun fuel (cd++[(k:Int)]) (max many ((k:Int)+1)) (hs.set k (bq (hs.getD k 0) cd.length))else[]
def ak(f:Fr)(begun:List Int):List (List Int):=cV f begun f.az.length [] 0 [0,0,0,0,0,0]
def Mv(b mb:Nat)(F F':Nat->Prop)(σ σ':aa):Prop:=∀c x,σ c=some x -> ¬F c->c≠b->(c≠mb\/x.plain=true)->σ' c=some x/\¬F' c
theorem Mv.refl(b mb:Nat)(F:Nat->Prop)(σ:aa):Mv b mb F F σ σ:=λ_ _ h hF _ _=>⟨h,hF⟩
theorem Mv.trans{b mb:Nat}{F F' F'':Nat->Prop}{σ σ' σ'':aa}(h:Mv b mb F F' σ σ')(h':Mv b mb F' F'' σ' σ''):Mv b mb F F'' σ σ'':=λc x h1 h2 h3 h4=>h' c x (h c x h1 h2 h3 h4).1 (h c x h1 h2 h3 h4).2 h3 h4
structure JM(m:Mo)(y:AV)(W:List (List Int))(I:Nat->(Nat->Prop)->aa->Prop)(E:(Nat->Prop)->aa->Prop):Prop where
 step:∀(k:Nat) (F:Nat->Prop) (σ:aa) (KF:cL->aa->Prop) (hk:k<W.length),I k F σ->(∀F' σ',Dp F F' σ σ'->I (k+1) F' σ'->KF (.val (bool true)) σ')->(∀F' σ',Dp F F' σ σ'->E F' σ'->KF (.val (bool false)) σ')->dC Tryz.prog m y [ints W[k]] σ KF
 frame:∀(k:Nat) (F:Nat->Prop) (σ σ':aa),(∀c,F c->σ' c=σ c)->I k F σ->I k F σ'
 Mp:∀(F:Nat->Prop) (σ σ':aa),(∀c,F c->σ' c=σ c)->E F σ->E F σ'
 Lv:∀(k:Nat) (F:Nat->Prop) (σ:aa) (c:Nat),I k F σ->F c->∃x,σ c=some x/\x.plain=true
theorem Bu{b mb:Nat}{F F':Nat->Prop}{σ σ':aa}(h:Dp F F' σ σ'):Mv b mb F F' σ σ':=λc x h1 h2 _ _=>h c x h2 h1
theorem ol{b mb:Nat}{GI:List (Int × AV)->Prop}{Un:aa->Prop}{Ld:aa->List (Int × AV)->Prop}(LK:Dj Tryz.prog m nn b 6 mb .u8 GI Un Ld){d:Nat}{y:jy}(hu:Un σ)(hd:∀x,σ d=some x->x.plain=true):Un (σ.set d y):=LK.un (λc _ ⟨x,h1,h2⟩=>aa.ai _ _ (λe=>by subst e;rw[hd x h1]at h2;cases h2)) hu
theorem vQ{b mb:Nat}{GI:List (Int × AV)->Prop}{Un:aa->Prop}{Ld:aa->List (Int × AV)->Prop}(LK:Dj Tryz.prog m nn b 6 mb .u8 GI Un Ld){F F':Nat->Prop}{σ':aa}(hu:Un σ)(hk:Dp F F' σ σ')(hd:∀c,F c->∃x,σ c=some x/\x.plain=true):Un σ':=
 LK.un (λc _ ⟨x,h1,h2⟩=>by
  have hF:¬F c:=λhF=>by obtain⟨x',h3,h4⟩:=hd c hF;rw[h1]at h3;cases h3;rw[h4]at h2;cases h2
  rw[(hk c x hF h1).1,h1]) hu
abbrev vR(fp y:AV)(begun:List Int)(cp:Nat):AV:=.fn (.func 91) [] [.cp fp 0,.cp y 0,.cp (ints begun) 0,.ref cp 0]
abbrev bd(fp:AV)(c4 cg:Nat):AV:=.fn (.func 87) [] [.ref c4 0,.cp fp 0,.ref cg 0]
structure WS(b mb:Nat)(f:Fr)(y:AV)(begun:List Int)(c4 cg cp:Nat)(hs:List Int)(F:Nat->Prop)(σ:aa):Prop where
 arr:σ c4=some (.cells (hs.map u8))
 OS:σ cg=some (.cells [vR (iF b mb f 0) y begun cp])
 pt:σ cp=some (.cells [bd (iF b mb f 0) c4 cg])
 out:¬F c4/\¬F cg/\¬F cp
 ne:c4≠cg/\c4≠cp
theorem WS.mv{b mb:Nat}{f:Fr}{y:AV}{begun:List Int}{c4 cg cp:Nat}{hs:List Int}{F F':Nat->Prop}{σ σ':aa}(h:WS b mb f y begun c4 cg cp hs F σ)(hb:∃x,σ b=some x/\x.plain=false)(hm:Mv b mb F F' σ σ'):WS b mb f y begun c4 cg cp hs F' σ':=by
 obtain⟨x,hx,hp⟩:=hb;have ne:∀c l,σ c=some (.cells l)->c≠b:=λc l hc e=>by subst e;rw[hx]at hc;cases hc;cases hp
 obtain⟨a1,a2⟩:=hm c4 _ h.arr h.out.1 (ne _ _ h.arr) (.inr rfl);obtain⟨b1,b2⟩:=hm cg _ h.OS h.out.2.1 (ne _ _ h.OS) (.inr rfl);obtain⟨d1,d2⟩:=hm cp _ h.pt h.out.2.2 (ne _ _ h.pt) (.inr rfl);exact⟨a1,b1,d1,⟨a2,b2,d2⟩,h.ne⟩
structure Hs(f:Fr)(n:Nat)(hs:List Int):Prop where
 pi:hs.length=6
 bits:∀x∈hs,∀e∈bU x,e<n
 small:∀x∈hs,0<=x/\x<64
section
variable{b mb:Nat}{f:Fr}{begun:List Int}{y:AV}{W:List (List Int)}{I:Nat->(Nat->Prop)->aa->Prop}{E:(Nat->Prop)->aa->Prop}{Un:aa->Prop}{Ld:aa->List (Int × AV)->Prop}{c4 cg cp:Nat}
def Lw(b mb:Nat)(Un:aa->Prop)(I:Nat->(Nat->Prop)->aa->Prop)(E:(Nat->Prop)->aa->Prop)(a n:Nat)(F:Nat->Prop)(σ:aa)(KF:cL->aa->Prop):Prop:=(∀F' σ',Mv b mb F F' σ σ'->Un σ'->I (a+n) F' σ'->KF (.val (bool true)) σ')/\(∀F' σ',Mv b mb F F' σ σ'->Un σ'->E F' σ'->KF (.val (bool false)) σ')
def IB(m:Mo)(b mb:Nat)(f:Fr)(begun:List Int)(y:AV)(W:List (List Int))(I:Nat->(Nat->Prop)->aa->Prop)(E:(Nat->Prop)->aa->Prop)(Un:aa->Prop)(c4 cg cp:Nat)(fuel:Nat):Prop:=
 ∀ (cd:List Int) (many:Int) (hs:List Int) (sp:cM) (F:Nat->Prop) (σ:aa) (pre post:List (List Int)) (KF:cL->aa->Prop),cd.length+fuel=f.az.length->0<=many/\many<=6->Hs f cd.length hs->WS b mb f y begun c4 cg cp hs F σ->Un σ ->
   W=pre++cV f begun fuel cd many hs++post->I pre.length F σ->Lw b mb Un I E pre.length (cV f begun fuel cd many hs).length F σ KF ->
   aA Tryz.prog m 91 [.sl 1 (cd.map int) sp,int many,.cp (iF b mb f 0) 0,.cp y 0,.cp (ints begun) 0,.ref cp 0] σ KF
theorem KM:∀x:Fin 64,∀n:Fin 6,(0<=bq (x.val:Int) (n.val:Int)/\bq (x.val:Int) (n.val:Int)<64)/\(∀e∈bU (bq (x.val:Int) (n.val:Int)),e=(n.val:Int)\/e∈bU (x.val:Int))/\(n.val:Int)∈bU (bq (x.val:Int) (n.val:Int)):=by decide +kernel
theorem IC{x:Int}{n:Nat}(hx:0<=x/\x<64)(hn:n<6):(0<=bq x n/\bq x n<64)/\(∀e∈bU (bq x n),e=(n:Int)\/e∈bU x)/\(n:Int)∈bU (bq x n):=by
 have:=KM ⟨x.toNat,by omega⟩ ⟨n,hn⟩;have e1:(x.toNat:Int)=x:=by omega
 simpa only[e1]using this
theorem ID{x e:Int}(h:e∈bU x):0<=e/\e<6:=by unfold bU at h;obtain⟨h1,_⟩:=List.mem_filter.1 h;obtain⟨i,hi,rfl⟩:=List.mem_map.1 h1;have:=List.mem_range.1 hi;omega
theorem Bv(x:Int):(bU x).length<20:=by unfold bU;refine Nat.lt_of_le_of_lt (List.length_filter_le _ _) ?_;rw[List.length_map,List.length_range];omega
theorem Hs.set{n:Nat}{hs:List Int}(h:Hs f n hs)(hn:n<6){k:Nat}(hk:k<hs.length):Hs f (n+1) (hs.set k (bq hs[k] n)):=by
 have h0:=IC (h.small _ (List.getElem_mem hk)) hn;refine⟨by rw[List.length_set];exact h.pi,λx hx e he=>?_,λx hx=>?_⟩
 . rcases List.mem_or_eq_of_mem_set hx with hx|rfl
   . have:=h.bits x hx e he;omega
   . rcases h0.2.1 e he with rfl|he
     . omega
     . have:=h.bits _ (List.getElem_mem hk) e he;omega
 . rcases List.mem_or_eq_of_mem_set hx with hx|rfl
   . exact h.small x hx
   . exact h0.1
theorem Hs.ti{n:Nat}{hs:List Int}(h:Hs f n hs)(hn:n<f.az.length)(h6:f.az.length<=6){k:Nat}(hk:k<hs.length):JB f (bU (bq hs[k] n)):=by
 have h0:=IC (h.small _ (List.getElem_mem hk)) (n:=n) (by omega);refine⟨λe he=>⟨(ID he).1,?_⟩,λq=>?_,by have:=Bv (bq hs[k] n);omega⟩
 . rcases h0.2.1 e he with rfl|he
   . omega
   . have:=h.bits _ (List.getElem_mem hk) e he;omega
 . have:=h0.2.2
   rw[q]at this;cases this
theorem KN{d:Nat}{k:Nat}{x:Int}{l:List Int}(hk:k<6)(hl:l.length=6)(hd:σ d=some (.cells [u8 x]))(h4:σ c4=some (.cells (l.map u8)))(h:KF (.val (.c9 [])) (σ.set c4 (.cells ((l.set k x).map u8)))):aA Tryz.prog m 88 [.ref d 0,.ref c4 0,.cp (int k) 0] σ KF:=by
 have hk':(k:Int)<6:=by omega
 have hk5:k<=5:=by omega
 have hkl:k<l.length:=by omega
 refine aA.start lay [] [] 3 Tryz.func88 rfl rfl (by rfl) (by kernel_rfl) ?_;simp[Tryz.f88,hd,h4,hk',hl,hk5,hkl];rw[uX (by simpa using hkl),<-List.map_set (f:=u8)];exact .done h
theorem Mq(LK : Dj Tryz.prog m nn b 6 mb .u8 (dm f) Un Ld)(hf:f.Good)(hbg:begun.length<1152921504606846976)(Y:JM m y W I E){fuel:Nat}(hG:IB m b mb f begun y W I E Un c4 cg cp fuel){cd:List Int}{many:Int}{k:Nat}{hs:List Int}{sp:cM}{F:Nat->Prop}{pre post:List (List Int)}(hlen:cd.length+(fuel+1)=f.az.length)(hmany:0<=many/\many<=6)(hk:k<6)
 (hh:Hs f cd.length hs) (hw:WS b mb f y begun c4 cg cp hs F σ) (hu:Un σ){L:List (List Int)}(hL:L=if gO f (bq (hs.getD k 0) cd.length)=true then cV f begun fuel (cd++[(k:Int)]) (max many ((k:Int)+1)) (hs.set k (bq (hs.getD k 0) cd.length))else[]) (hW:W=pre++L++post)
 (hI:I pre.length F σ) (hR:Lw b mb Un I E pre.length L.length F σ KF):aA Tryz.prog m 87 [.sl 1 (cd.map int) sp,int many,int k,.ref c4 0,.cp (iF b mb f 0) 0,.ref cg 0] σ KF:=by
 have h6:=hf.pi;have hk':k<hs.length:=by rw[hh.pi];exact hk
 have hgd:hs.getD k 0=hs[k]:=by simp[List.getD_eq_getElem?_getD,hk']
 rw[hgd]at hL;have hki:(k:Int)<6:=by omega
 have harr:=hw.arr;have h6':=hh.pi;have hk5:k<=5:=by omega
 have e1:List.take 1 (List.drop k (List.map u8 hs))=[u8 hs[k]]:=by rw[<-List.map_drop,List.drop_eq_getElem_cons hk'];rfl
 refine aA.start lay [] Qf 6 Tryz.func87 rfl rfl (by rfl) (by kernel_rfl) ?_
 simp[Tryz.f87,harr,hki,hk',h6',hk5,e1];refine cT.intro λd hd=>?_
 have d4:d≠c4:=λe=>by subst e;rw[harr]at hd;cases hd
 have d4':=Ne.symm d4;simp[d4,d4',aa.ai];refine ab.defer rfl rfl rfl rfl (by simp) rfl ?_
 refine ab.run lay [] ?_;simp[d4,d4',aa.ai,harr,hki,hk',h6',hk5,e1];obtain⟨z,hz⟩:∃z,z=bq hs[k] cd.length:=⟨_,rfl⟩;obtain⟨hs2,hs2e⟩:∃hs2,hs2=hs.set k z:=⟨_,rfl⟩;have hk2:k<hs2.length:=by rw[hs2e,List.length_set];exact hk'
 have hs2k:hs2[k]=z:=by subst hs2e;simp
 have e2:List.take 1 (List.drop k (List.map u8 hs2))=[u8 z]:=by rw[<-List.map_drop,List.drop_eq_getElem_cons hk2,hs2k];rfl
 have e3:aS (List.map u8 hs) k [u8 z]=List.map u8 hs2:=by rw[uX (by simpa using hk'),hs2e,List.map_set]
 have h6'':hs2.length=6:=by rw[hs2e,List.length_set];exact h6'
 refine aq Tryz.func89 rfl rfl (KI (by omega) ?_)
 rw[<-hz];refine bm.go lay [] ?_;simp[d4,d4',aa.ai,harr,hki,hk',h6',hk5,e3];refine ab.run lay [] ?_;simp[d4,d4',aa.ai,hki,hk2,h6'',hk5,e2];have hn6:cd.length<6:=by omega
 have hnn:cd.length<f.az.length:=by omega
 have hin:JB f (bU z):=by rw[hz];exact hh.ti hnn h6 hk'
 obtain⟨xb,hxb,hpb⟩:=LK.JN hu;have cb:∀c l,σ c=some (.cells l)->c≠b:=λc l hc e=>by subst e;rw[hxb]at hc;cases hc;cases hpb
 have db:d≠b:=λe=>by subst e;rw[hd]at hxb;cases hxb
 have hu1:Un ((σ.set d (.cells [u8 hs[k]])).set c4 (.cells (hs2.map u8))):=ol LK (ol LK hu (λx hx=>by rw[hd]at hx;cases hx)) (λx hx=>by rw[aa.ai _ _ d4',harr]at hx;cases hx;rfl)
 have s1c:((σ.set d (.cells [u8 hs[k]])).set c4 (.cells (hs2.map u8))) c4=some (.cells (hs2.map u8)):=aa.ao _ _ _;have s1d:((σ.set d (.cells [u8 hs[k]])).set c4 (.cells (hs2.map u8))) d=some (.cells [u8 hs[k]]):=by rw[aa.ai _ _ d4,aa.ao]
 have s1o:∀c,c≠d->c≠c4->((σ.set d (.cells [u8 hs[k]])).set c4 (.cells (hs2.map u8))) c=σ c:=λc h1 h2=>by rw[aa.ai _ _ h2,aa.ai _ _ h1]
 have hFd:¬F d:=λhF=>by obtain⟨x,hx,_⟩:=Y.Lv _ _ _ _ hI hF;rw[hd]at hx;cases hx
 have hI1:I pre.length F ((σ.set d (.cells [u8 hs[k]])).set c4 (.cells (hs2.map u8))):=Y.frame _ _ _ _ (λc hc=>s1o c (λe=>hFd (e ▸ hc)) (λe=>hw.out.1 (e ▸ hc))) hI
 generalize (σ.set d (.cells [u8 hs[k]])).set c4 (.cells (hs2.map u8))=σ1 at hu1 s1c s1d s1o hI1;refine aq Tryz.func90 rfl rfl (Mn LK hf hin (Bv _) hu1 λσ2 hu2 hk2'=>?_)
 have s2c:σ2 c4=some (.cells (hs2.map u8)):=hk2' _ _ s1c (cb _ _ harr) (.inr rfl);have s2d:σ2 d=some (.cells [u8 hs[k]]):=hk2' _ _ s1d db (.inr rfl);have gd:cg≠d:=λe=>by have:=hw.OS;rw[e,hd]at this;cases this
 have s2g:σ2 cg=some (.cells [vR (iF b mb f 0) y begun cp]):=hk2' _ _ (by rw[s1o cg gd (Ne.symm hw.ne.1)];exact hw.OS) (cb _ _ hw.OS) (.inr rfl)
 have hback:hs2.set k hs[k]=hs:=by rw[hs2e];simp
 have hfin:∀(env:Env) (σ3:aa) (v:Bool),env 9=bool v->σ3 d=some (.cells [u8 hs[k]])->σ3 c4=some (.cells (hs2.map u8))->KF (.val (bool v)) (σ3.set c4 (.cells (hs.map u8)))->uw Tryz.prog m (.func 88) [.ref d 0,.ref c4 0,.cp (int k) 0] [] .ret σ3 (λmd' σ'=>Jv lay m [ResultVar.tmp 9] env (nB KF) [] md' σ'):=λenv σ3 v he hd3 hc3 hK=>by
  refine uw.func Tryz.func88 rfl rfl (KN hk h6'' hd3 hc3 ?_);refine⟨[env 9],rfl,.done ?_⟩;rw[show oneOf [env 9]=env 9 from rfl,he,hback]
  exact hK
 have hmv2:Mv b mb F F σ (σ2.set c4 (.cells (hs.map u8))):=λc x h1 h2 h3 h4=>by
  refine⟨?_,h2⟩
  by_cases e:c=c4
  . subst e;rw[aa.ao,<-harr];exact h1
  . have e':c≠d:=λe'=>by subst e';rw[hd]at h1;cases h1
    rw[aa.ai _ _ e];exact hk2' c x (by rw[s1o c e' e];exact h1) h3 h4
 have hI2:I pre.length F σ2:=Y.frame _ _ _ _ (λc hc=>by
  obtain⟨x,h1,h2⟩:=Y.Lv _ _ _ _ hI1 hc
  have hcb:c≠b:=λe=>by subst e;obtain⟨x',h3,h4⟩:=Y.Lv _ _ _ _ hI hc;rw[hxb]at h3;cases h3;rw[hpb]at h4;cases h4
  rw[h1];exact hk2' c x h1 hcb (.inr h2)) hI1
 rw[<-hz,<-hs2e]at hL;cases hcan:gO f z with
 | false=>
   rw[hcan]at hL;simp only[Bool.false_eq_true,if_false]at hL;subst hL;refine bm.go lay [] ?_;simp
   repeat' apply And.intro
   all_goals
    refine ab.run lay [] ?_;simp;refine hfin _ σ2 true (by simp) s2d s2c (hR.1 F _ hmv2 (ol LK hu2 (λx hx=>by rw[s2c]at hx;cases hx;rfl)) ?_)
    exact Y.frame _ _ _ _ (λc hc=>aa.ai _ _ (λe=>hw.out.1 (e ▸ hc))) hI2
 | true=>
   rw[hcan,if_pos rfl]at hL
   have hgrow:∀(σ3:aa) (sp':cM) (KF':cL->aa->Prop),σ2.Le σ3->(∀(v:Bool) σ',σ' d=some (.cells [u8 hs[k]])->σ' c4=some (.cells (hs2.map u8))->KF (.val (bool v)) (σ'.set c4 (.cells (hs.map u8)))->KF' (.val (bool v)) σ') ->
    aA Tryz.prog m 91 [.sl 1 ((cd++[(k:Int)]).map int) sp',int (max many ((k:Int)+1)),.cp (iF b mb f 0) 0,.cp y 0,.cp (ints begun) 0,.ref cp 0] σ3 KF':=λσ3 sp' KF' hle hK=>by
    have s2p:σ2 cp=some (.cells [bd (iF b mb f 0) c4 cg]):=by
     have pd:cp≠d:=λe=>by have:=hw.pt;rw[e,hd]at this;cases this
     exact hk2' _ _ (by rw[s1o cp pd (Ne.symm hw.ne.2)];exact hw.pt) (cb _ _ hw.pt) (.inr rfl)
    have hu3:Un σ3:=LK.un (λc _ ⟨x,h1,_⟩=>by rw[h1];exact hle _ _ h1) hu2
    have hw3:WS b mb f y begun c4 cg cp hs2 F σ3:=⟨hle _ _ s2c,hle _ _ s2g,hle _ _ s2p,hw.out,hw.ne⟩
    have hI3:I pre.length F σ3:=Y.frame _ _ _ _ (λc hc=>by obtain⟨x,h1,_⟩:=Y.Lv _ _ _ _ hI2 hc;rw[h1];exact hle _ _ h1) hI2
    have hmv3:∀(F':Nat->Prop) (σ':aa),Mv b mb F F' σ3 σ'->Mv b mb F F' σ (σ'.set c4 (.cells (hs.map u8))):=λF' σ' hm c x h1 h2 h3 h4=>by
     by_cases e:c=c4
     . subst e
       obtain⟨q1,q2⟩:=hm c _ (hle _ _ s2c) h2 h3 (.inr rfl);exact⟨by rw[aa.ao,<-harr];exact h1,q2⟩
     . have e':c≠d:=λe'=>by subst e';rw[hd]at h1;cases h1
       rw[aa.ai _ _ e];exact hm c x (hle _ _ (hk2' c x (by rw[s1o c e' e];exact h1) h3 h4)) h2 h3 h4
    have aft:∀(F':Nat->Prop) (σ':aa),Mv b mb F F' σ3 σ'->σ' d=some (.cells [u8 hs[k]])/\(σ' c4=some (.cells (hs2.map u8))/\¬F' c4):=λF' σ' hm=>⟨(hm d _ (hle _ _ s2d) hFd db (.inr rfl)).1,hm c4 _ (hle _ _ s2c) hw.out.1 (cb _ _ harr) (.inr rfl)⟩
    subst hL;refine hG _ _ _ _ F σ3 pre post KF' (by simp;omega) (by omega) (by rw[List.length_append,hs2e,hz];exact hh.set hn6 hk') hw3 hu3 hW hI3 ⟨λF' σ' h1 h2 h3=>?_,λF' σ' h1 h2 h3=>?_⟩
    . obtain⟨q1,q2,q3⟩:=aft F' σ' h1
      exact hK true σ' q1 q2 (hR.1 F' _ (hmv3 F' σ' h1) (ol LK h2 (λx hx=>by rw[q2]at hx;cases hx;rfl)) (Y.frame _ _ _ _ (λc hc=>aa.ai _ _ (λe=>q3 (e ▸ hc))) h3))
    . obtain⟨q1,q2,q3⟩:=aft F' σ' h1
      exact hK false σ' q1 q2 (hR.2 F' _ (hmv3 F' σ' h1) (ol LK h2 (λx hx=>by rw[q2]at hx;cases hx;rfl)) (Y.Mp _ _ _ (λc hc=>aa.ai _ _ (λe=>q3 (e ▸ hc))) h3))
   have k1:-9223372036854775808<=(k:Int)+1/\(k:Int)+1<=9223372036854775807:=by omega
   have hmax:(if many<(k:Int)+1 then(k:Int)+1 else many)=max many ((k:Int)+1):=by split<;>omega
   refine bm.go lay [] ?_;simp[s2c,s2d,s2g,k1.1,k1.2,hmax]
   repeat' (first
             |apply And.intro
             | (refine sS lay rfl cA rfl pQ (es:=cd.map int) (sp:=sp) (l:=0) (h:=cd.length) (by simp) (λcap hcap=>⟨⟨⟨.i64,by simp⟩,by simpa using hcap⟩,⟨⟨.i64,by simp⟩,Nat.le_refl _⟩,rfl⟩) (by simp) λa ha=>?_
                have hta:Tok σ2 σ2 a 1 (cd.map int):=by
                 rcases ha with rfl|⟨e,rfl⟩
                 . have:List.take (cd.length-0) (List.drop 0 (cd.map int))=cd.map int:=by rw[List.drop_zero,List.take_of_length_le (by simp)]
                   rw[this];exact .exact _ _ _
                 . rw[e];exact .nil _ _
                clear ha;refine bm.go lay [] ?_;simp[s2c,s2d,s2g,k1.1,k1.2,hmax])
             | (refine aM lay rfl rfl rfl cA rfl cA rfl pQ (by decide) (by simp;omega) (σ0:=σ2) (es:=cd.map int) (xs:=[int k]) (by simpa using hta) (.inr ⟨_,by simp;rfl⟩) λa' σ3 ht'=>?_
                obtain⟨sp',rfl⟩:∃sp',a'=.sl 1 (cd.map int++[int k]) sp':=by
                 rcases ht'.2 with⟨_,e⟩|e|⟨_,_,_,e,_⟩
                 . simp at e
                 . exact⟨_,e⟩
                 . exact⟨_,e⟩
                have s3g:=ht'.1 _ _ s2g;refine bm.go lay [] ?_;simp[s3g,k1.1,k1.2,hmax])
             | (refine dJ Tryz.func91 rfl rfl (by simp) (hgrow σ3 sp' _ ht'.1 λv σ' q1 q2 q3=>?_)
                refine bm.go lay [] ?_;simp;refine ab.run lay [] ?_;simp;exact hfin _ _ v (by simp) q1 q2 q3))
end
end Go.Proofs.YtalogdafegmilaaGreatDoor

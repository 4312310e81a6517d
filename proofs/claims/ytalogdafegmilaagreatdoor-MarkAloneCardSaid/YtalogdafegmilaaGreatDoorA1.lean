/- Part 1 of the proof. -/
import Derived.Test.YtalogdafegmilaaGreatDoorC36
set_option linter.all false
namespace Go.Proofs.YtalogdafegmilaaGreatDoor
open Go.aN Go.Conc
set_option maxHeartbeats 1000000
set_option maxRecDepth 4000
variable{m:Mo}{σ:aa}{KF:cL->aa->Prop}
theorem bw(w:List Int)(k:Int)(i:Nat)(h:i<w.length):au (w.take (i+1)) k=au (w.take i) k++if w[i]=k then[(i:Int)]else[]:=by rw[List.take_succ_eq_append_getElem h,bo,List.length_take,Nat.min_eq_left (by omega)]
theorem bg(w:List Int)(k:Int):(au w k).length<=w.length:=by unfold au;rw[List.length_map];refine Nat.le_trans (List.length_filter_le _ _) ?_;simp
end Go.Proofs.YtalogdafegmilaaGreatDoor
namespace Go.Proofs.YtalogdafegmilaaGreatDoor
open Go.aN Go.Conc
set_option maxHeartbeats 1000000
set_option maxRecDepth 4000
variable{m:Mo}{σ:aa}{KF:cL->aa->Prop}
def cB(x:Int)(w:List Int):Bool:=decide ((au w (w.getD x.toNat 0)).length=1)
theorem rJ{w:List Int}{x:Int}(hw:w.length<1000000)(hx:0<=x/\x.toNat<w.length)(h:KF (.val (bool (cB x w))) σ):aA Tryz.prog m 67 [ints w,.cp (int x) 0] σ KF:=by
 have e1:w.getD x.toNat 0=w[x.toNat]:=by simp[List.getD_eq_getElem?_getD,hx.2]
 unfold cB at h;rw[e1]at h;obtain⟨v,hv⟩:∃v,v=w[x.toNat]:=⟨_,rfl⟩;rw[<-hv]at h;refine aA.start lay [] [] 2 Tryz.func67 rfl rfl (by rfl) (by kernel_rfl) ?_;simp[Tryz.f67];refine ab.loop w.length (λi s=>∃env,s=⟨env,σ,[],.no⟩/\env 0=ints w/\env 1=.cp (int x) 0/\env 4=int ((au (w.take i) v).length:Int)/\env 7=ints w/\env 8=int w.length/\env 9=int i) ⟨_,rfl,by simp,by simp,by simp[au],by simp,by simp,by simp⟩ ?_;rintro c0 i _ hi ⟨env,rfl,e0,e1,e4,e7,e8,e9⟩ ih;rcases Nat.lt_or_ge i w.length with g1|g1
 . have g1':(i:Int)<w.length:=by omega
   have hlk:=bg (w.take i) v;rw[List.length_take]at hlk;have f1:-9223372036854775808<=(i:Int)+1/\(i:Int)+1<=9223372036854775807:=by omega
   have f2:-9223372036854775808<=((au (w.take i) v).length:Int)+1/\((au (w.take i) v).length:Int)+1<=9223372036854775807:=by omega
   have hsucc:=bw w v i g1;by_cases q:w[i]=v
   . rw[if_pos q]at hsucc
     have hq:(w[i]==v)=true:=beq_iff_eq.2 q;refine ab.run lay [] ?_;simp[e0,e1,e4,e7,e8,e9,g1,hx.1,hx.2,<-hv,hq,f1.1,f1.2,f2.1,f2.2];refine ih _ g1 ⟨_,rfl,by simp[e0,e1,e4,e7,e8,e9],by simp[e0,e1,e4,e7,e8,e9],by simp[hsucc],by simp[e0,e1,e4,e7,e8,e9],by simp[e0,e1,e4,e7,e8,e9],by simp⟩
   . rw[if_neg q,List.append_nil]at hsucc
     have hq:(w[i]==v)=false:=beq_eq_false_iff_ne.2 q;refine ab.run lay [] ?_;simp[e0,e1,e4,e7,e8,e9,g1,hx.1,hx.2,<-hv,hq,f1.1,f1.2];refine ih _ g1 ⟨_,rfl,by simp[e0,e1,e4,e7,e8,e9],by simp[e0,e1,e4,e7,e8,e9],by simp[hsucc,e4],by simp[e0,e1,e4,e7,e8,e9],by simp[e0,e1,e4,e7,e8,e9],by simp⟩
 . have hie:i=w.length:=by omega
   subst hie;rw[List.take_length]at e4;refine ab.run lay [] ?_;simp[e0,e1,e4,e7,e8,e9]
   have hb:(((au w v).length:Int)==1)=decide ((au w v).length=1):=by
    by_cases q:(au w v).length=1
    . simp[q]
    . simp[q];omega
   rw[hb];exact .done h
theorem uf(hs:m.solo=true){f:Fr}{x:Int}(hf:f.Fits)(hc:check f=0)(hx:0<=x/\x<f.az.length)(hway:ak f []≠[])(hlen:(ak f []).length<1152921504606846976)(h:KF (.val (.c9 [int (aL (((ak f []).filter (cB x)).length:Int) (ak f []).length),int 0])) σ):aA Tryz.prog m 29 [aF f,int x] σ KF:=by
 have hg:=Fr.jw hf hc;have h6:=hg.pi;have hw:∀w∈ak f [],w.length=f.az.length:=λw hw=>by have:=dA f [] _ _ _ _ w hw;simpa using this
 refine aA.start lay [] [] 2 Tryz.func29 rfl rfl (by rfl) (by kernel_rfl) ?_
 simp[Tryz.f29];refine aq Tryz.func56 rfl rfl (im (l:=[x]) (sp:=.exact) hs hf hc (λn hn=>by simp at hn;subst hn;exact hx) (by simp) hway λb mb σ' hne hu hfr hle=>?_)
 refine ab.run lay [] ?_;simp;refine aq Tryz.func66 rfl rfl (mM (fQ nk np tB hs hne) hg (p:=cB x) ⟨rfl,rfl⟩ (λw hwm σ KF hK=>dJ Tryz.func67 rfl rfl rfl (rJ (by rw[hw w hwm];omega) ⟨hx.1,by rw[hw w hwm];omega⟩ hK)) hlen hu λσ2 q1 q2=>?_)
 refine ab.run lay [] ?_;simp;refine aq Tryz.func65 rfl rfl (pG ?_);refine ab.run lay [] ?_;simp;refine .less (λc y hy=>?_) (.done h)
 have c1:c≠b:=λe=>by subst e;rw[hfr.1]at hy;cases hy
 have c2:c≠mb:=λe=>by subst e;rw[hfr.2]at hy;cases hy
 exact q2 c y (hle c y hy) c1 (.inl c2)
def toldOf(n all:Int):Int:=if n=0 then 2 else if n=all then 1 else 3
theorem bx{n all:Int}(h0:0<=n)(h1:n<=all)(h2:0<all):aL n all=toldOf n all:=by
 unfold aL toldOf;by_cases a:n=0
 . subst a;rw[if_neg (by omega),if_neg (by omega),if_pos rfl]
 . rw[if_neg a]
   by_cases b:n=all
   . subst b;rw[if_neg (by omega),if_pos rfl,if_pos rfl]
   . rw[if_pos (by omega),if_neg b]
end Go.Proofs.YtalogdafegmilaaGreatDoor
namespace Go.Proofs.YtalogdafegmilaaGreatDoor
open Go.aN Go.Conc
set_option maxHeartbeats 1000000
set_option maxRecDepth 4000
theorem wG{w:List Int}{x y:Nat}(hx:x<w.length)(hy:y<w.length):aC x y w=true↔w[x]=w[y]:=by simp[aC,List.getD_eq_getElem?_getD,hx,hy]
theorem rK{w:List Int}{x:Nat}(hx:x<w.length):cB x w=true↔∀y:Nat,y<w.length->y≠x->aC x y w=false:=by
 have hin:(x:Int)∈au w (w.getD x 0):=fR hx rfl;unfold cB;rw[Int.toNat_natCast,decide_eq_true_eq];constructor
 . intro h y hy hne
   obtain⟨a,ha⟩:=List.length_eq_one_iff.1 h;rw[<-Bool.not_eq_true];intro hs;have hyin:(y:Int)∈au w (w.getD x 0):=fR hy (by have:=(wG hx hy).1 hs;simp[List.getD_eq_getElem?_getD,hx,hy,this]);rw[ha]at hin hyin;simp at hin hyin;omega
 . intro h
   have hall:∀z∈au w (w.getD x 0),z=(x:Int):=λz hz=>by
    obtain⟨h0,h1,h2⟩:=cr hz;rcases Decidable.em (z.toNat=x)with e|e
    . omega
    . have h1':z.toNat<w.length:=by omega
      have:=h z.toNat h1' e;rw[<-Bool.not_eq_true]at this;refine absurd ((wG hx h1').2 ?_) this;simp only[List.getD_eq_getElem?_getD,List.getElem?_eq_getElem hx,List.getElem?_eq_getElem h1',Option.getD_some]at h2;exact h2.symm
   have hasc:=(io (w.getD x 0) w 0).1;rw[show(((w.zipIdx 0).filter λp=>decide (p.1=w.getD x 0)).map λp=>(p.2:Int))=au w (w.getD x 0)from rfl]at hasc;revert hin hall hasc;cases au w (w.getD x 0)with
   |nil=>intro hin;simp at hin
   | cons a r=>
     intro _ hall hasc;cases r with
     |nil=>rfl
     | cons b r=>
       have h1:=hall a (by simp);have h2:=hall b (by simp);have:=(List.pairwise_cons.1 hasc).1 b (by simp);omega
theorem jj{n all:Int}(h:0<all):toldOf n all=2↔n=0:=by
 unfold toldOf;by_cases a:n=0
 . simp[a]
 . by_cases b:n=all
   . simp[a,b]
   . simp[a,b]
theorem kq{n all:Int}(h:0<all):toldOf n all=1↔n=all:=by
 unfold toldOf;by_cases a:n=0
 . subst a;simp;omega
 . by_cases b:n=all
   . rw[if_neg a,if_pos b];simp[b]
   . simp[a,b]
theorem iH{α:Type}(p:α->Bool):∀l:List α,(l.filter p).length=l.length↔∀x∈l,p x=true
 |[]=>by simp
 | a ::l=>by
   have ih:=iH p l;have:=List.length_filter_le p l;rw[List.filter_cons];by_cases q:p a=true
   . rw[if_pos q,List.length_cons,List.length_cons]
     simp only[List.mem_cons,forall_eq_or_imp,q,true_and,<-ih];omega
   . rw[if_neg q,List.length_cons]
     simp only[List.mem_cons,forall_eq_or_imp];constructor
     . intro h;omega
     . intro h;exact absurd h.1 q
theorem kr{α:Type}(p:α->Bool)(l:List α):(l.filter p).length=0↔∀x∈l,p x=false:=by rw[List.length_eq_zero_iff,List.filter_eq_nil_iff];simp
section
variable{L:List (List Int)}{n:Nat}
def fy(L:List (List Int))(x y:Nat):Int:=aL ((L.filter (aC x y)).length:Int) L.length
def BJ(L:List (List Int))(x:Nat):Int:=aL ((L.filter (cB x)).length:Int) L.length
theorem eZ(hL:0<L.length){x y:Nat}:fy L x y=2↔∀w∈L,aC x y w=false:=by
 have:=List.length_filter_le (aC (x:Int) y) L;unfold fy;rw[bx (by omega) (by omega) (by omega),jj (by omega),<-kr];omega
theorem ku(hL:0<L.length){x y:Nat}:fy L x y=1↔∀w∈L,aC x y w=true:=by
 have:=List.length_filter_le (aC (x:Int) y) L;unfold fy;rw[bx (by omega) (by omega) (by omega),kq (by omega),<-iH];omega
theorem BL(hL:0<L.length){x:Nat}:BJ L x=2↔∀w∈L,cB x w=false:=by
 have:=List.length_filter_le (cB (x:Int)) L;unfold BJ;rw[bx (by omega) (by omega) (by omega),jj (by omega),<-kr];omega
theorem El(hL:0<L.length){x:Nat}:BJ L x=1↔∀w∈L,cB x w=true:=by
 have:=List.length_filter_le (cB (x:Int)) L;unfold BJ;rw[bx (by omega) (by omega) (by omega),kq (by omega),<-iH];omega
theorem Em(hL:0<L.length)(hw:∀w∈L,w.length=n){x y:Nat}(hx:x<n)(hy:y<n)(hne:x≠y)(h:fy L x y=1):BJ L x=2:=by
 rw[BL hL];intro w hm;rw[<-Bool.not_eq_true];intro ha;have h1:=(ku hL).1 h w hm;have h2:=(rK (by rw[hw w hm];exact hx)).1 ha y (by rw[hw w hm];exact hy) (Ne.symm hne);rw[h1]at h2;cases h2
def nr(L:List (List Int))(x n:Nat):Bool:=(List.range n).any λy=>decide (x≠y) && decide (fy L x y≠2)
theorem BM(hL:0<L.length)(hw:∀w∈L,w.length=n){x:Nat}(hx:x<n):nr L x n=decide (BJ L x≠1):=by
 rw[Bool.eq_iff_iff,decide_eq_true_eq,Ne,El hL,nr,List.any_eq_true];constructor
 . rintro⟨y,hy,h⟩ hall
   rw[Bool.and_eq_true,decide_eq_true_eq,decide_eq_true_eq]at h;refine h.2 ((eZ hL).2 λw hm=>?_);exact(rK (by rw[hw w hm];exact hx)).1 (hall w hm) y (by rw[hw w hm];exact List.mem_range.1 hy) (Ne.symm h.1)
 . intro h
   apply Decidable.byContradiction;intro hno;refine h λw hm=>(rK (by rw[hw w hm];exact hx)).2 λy hy hne=>?_
   rw[hw w hm]at hy;refine(eZ hL).1 (Decidable.byContradiction λq=>hno ⟨y,List.mem_range.2 hy,?_⟩) w hm;rw[Bool.and_eq_true,decide_eq_true_eq,decide_eq_true_eq];exact⟨Ne.symm hne,q⟩
theorem BN(L:List (List Int))(x y:Nat):nr L x (y+1)=(nr L x y||(decide (x≠y) && decide (fy L x y≠2))):=by unfold nr;rw[List.range_succ,List.any_append];simp
end
end Go.Proofs.YtalogdafegmilaaGreatDoor
namespace Go.Proofs.YtalogdafegmilaaGreatDoor
open Go.aN Go.Conc
set_option maxHeartbeats 2000000
set_option maxRecDepth 4000
variable{m:Mo}{σ:aa}{KF:cL->aa->Prop}
theorem x4(hs:m.solo=true){nums:List Int}(hn:nums.length<1152921504606846976)(h:KF (.val (bool true)) σ):gq Tryz.prog lay m 7 [ints nums] σ KF:=by
 refine gq.start lay [] [] 1 Tryz.func7 rfl rfl (by rfl) (by kernel_rfl) ?_
 simp[Tryz.f7];refine aq Tryz.func13 rfl rfl (kv λc σ1 hc hb hsame=>?_)
 refine ab.run lay [] ?_;simp;refine aq Tryz.func25 rfl rfl (lX (by omega) hn ⟨by omega,by omega⟩ hb λf ks σ2 hf hd=>?_)
 refine ab.run lay [] ?_;simp;refine cT.intro λd hd3=>?_
 simp;have hle:σ.Le ((σ2.set d (.cells (eP f))).del d):=qv hc hsame hd.2 hd3;have hg:=hf.jw;have hfit:=hg.fits;have hchk:=hg.Ng;have h6:=hg.pi;have hway:=hf.ways;have hlen:=fa hg [];have hL:0<(ak f []).length:=List.length_pos_iff.2 hway;have hwl:∀w∈ak f [],w.length=f.az.length:=λw hw=>by have:=dA f [] _ _ _ _ w hw;simpa using this
 refine ab.cZ 3 (b:=d) (aF f) (by simp) (by simp) rfl ?_
 refine ab.weaken (σ:=σ) ?_ hle;refine ab.loop f.az.length (λx s=>∃env,s=⟨env,σ,[],.no⟩/\env 3=.cp (aF f) 0/\env 5=int x) ⟨_,rfl,by simp,by simp⟩ ?_
 rintro c0 x _ hx ⟨env,rfl,e3,e5⟩ ihx
 rcases Nat.lt_or_ge x f.az.length with g1|g1
 . have g1':(x:Int)<f.az.length:=by omega
   have f1:-9223372036854775808<=(x:Int)+1/\(x:Int)+1<=9223372036854775807:=by omega
   refine ab.run lay [] ?_;simp[e3,e5,g1'];refine aq Tryz.func29 rfl rfl (uf hs hfit hchk ⟨by omega,by omega⟩ hway (by omega) ?_)
   obtain⟨v,hv⟩:∃v,v=BJ (ak f []) x:=⟨_,rfl⟩;rw[show aL (((ak f []).filter (cB x)).length:Int) (ak f []).length=v from hv.symm]
   refine ab.run lay [] ?_;simp[e3,e5];refine ab.loop f.az.length (λy s=>∃env,s=⟨env,σ,[],.no⟩/\env 3=.cp (aF f) 0/\env 5=int x/\env 6=int v/\env 8=bool (nr (ak f []) x y)/\env 9=int y) ⟨_,rfl,by simp[e3],by simp[e5],by simp,by simp[nr],by simp⟩ ?_
   clear e3 e5
   rintro c1 y _ hy ⟨env,rfl,e3,e5,e6,e8,e9⟩ ihy
   rcases Nat.lt_or_ge y f.az.length with g2|g2
   . have ns:(y:Int)<f.az.length:=by omega
     have f2:-9223372036854775808<=(y:Int)+1/\(y:Int)+1<=9223372036854775807:=by omega
     have hsu:=BN (ak f []) x y;have hal:=Em hL hwl g1 g2;obtain⟨w,hw⟩:∃w,w=fy (ak f []) x y:=⟨_,rfl⟩;rw[<-hw,<-hv]at hal;rw[<-hw]at hsu;generalize nr (ak f []) x y=b at e8 hsu;refine ab.run lay [] ?_;simp[e3,e5,e6,e8,e9,ns];refine aq Tryz.func27 rfl rfl (jr hs hfit hchk ⟨by omega,by omega⟩ ⟨by omega,by omega⟩ hway (by omega) ?_)
     rw[show aL (((ak f []).filter (aC x y)).length:Int) (ak f []).length=w from hw.symm]
     by_cases hxy:x=y
     . have q1:((x:Int) !=(y:Int))=false:=by simp[hxy]
       have hsu':nr (ak f []) x (y+1)=b:=by rw[hsu];simp[hxy]
       cases b
       . refine ab.run lay [] ?_
         simp[e3,e5,e6,e8,e9,q1,f2.1,f2.2];exact ihy _ g2 ⟨_,rfl,by simp[e3,e5,e6,e8,e9],by simp[e3,e5,e6,e8,e9],by simp[e3,e5,e6,e8,e9],by simp[hsu',e8],by simp⟩
       . refine ab.run lay [] ?_
         simp[e3,e5,e6,e8,e9,q1,f2.1,f2.2];exact ihy _ g2 ⟨_,rfl,by simp[e3,e5,e6,e8,e9],by simp[e3,e5,e6,e8,e9],by simp[e3,e5,e6,e8,e9],by simp[hsu',e8],by simp⟩
     . have q1:((x:Int) !=(y:Int))=true:=by rw[bne_iff_ne];omega
       by_cases w1:w=1
       . have v2:=hal hxy w1
         have q2:(w==1)=true:=by simp[w1]
         have q3:(w !=2)=true:=by simp[w1]
         have q4:(v !=2)=false:=by simp[v2]
         have hsu':nr (ak f []) x (y+1)=true:=by rw[hsu];simp[hxy,w1]
         cases b
         . refine ab.run lay [] ?_
           simp[e3,e5,e6,e8,e9,q1,q2,q3,q4,f2.1,f2.2];exact ihy _ g2 ⟨_,rfl,by simp[e3,e5,e6,e8,e9],by simp[e3,e5,e6,e8,e9],by simp[e3,e5,e6,e8,e9],by simp[hsu'],by simp⟩
         . refine ab.run lay [] ?_
           simp[e3,e5,e6,e8,e9,q1,q2,q3,q4,f2.1,f2.2];exact ihy _ g2 ⟨_,rfl,by simp[e3,e5,e6,e8,e9],by simp[e3,e5,e6,e8,e9],by simp[e3,e5,e6,e8,e9],by simp[hsu',e8],by simp⟩
       . have q2:(w==1)=false:=by simp[w1]
         by_cases w2:w=2
         . have q3:(w !=2)=false:=by simp[w2]
           have hsu':nr (ak f []) x (y+1)=b:=by rw[hsu];simp[w2]
           cases b
           . refine ab.run lay [] ?_
             simp[e3,e5,e6,e8,e9,q1,q2,q3,f2.1,f2.2];exact ihy _ g2 ⟨_,rfl,by simp[e3,e5,e6,e8,e9],by simp[e3,e5,e6,e8,e9],by simp[e3,e5,e6,e8,e9],by simp[hsu'],by simp⟩
           . refine ab.run lay [] ?_
             simp[e3,e5,e6,e8,e9,q1,q2,q3,f2.1,f2.2];exact ihy _ g2 ⟨_,rfl,by simp[e3,e5,e6,e8,e9],by simp[e3,e5,e6,e8,e9],by simp[e3,e5,e6,e8,e9],by simp[hsu',e8],by simp⟩
         . have q3:(w !=2)=true:=by simp[w2]
           have hsu':nr (ak f []) x (y+1)=true:=by rw[hsu];simp[hxy,w2]
           cases b
           . refine ab.run lay [] ?_
             simp[e3,e5,e6,e8,e9,q1,q2,q3,f2.1,f2.2];exact ihy _ g2 ⟨_,rfl,by simp[e3,e5,e6,e8,e9],by simp[e3,e5,e6,e8,e9],by simp[e3,e5,e6,e8,e9],by simp[hsu'],by simp⟩
           . refine ab.run lay [] ?_
             simp[e3,e5,e6,e8,e9,q1,q2,q3,f2.1,f2.2];exact ihy _ g2 ⟨_,rfl,by simp[e3,e5,e6,e8,e9],by simp[e3,e5,e6,e8,e9],by simp[e3,e5,e6,e8,e9],by simp[hsu',e8],by simp⟩
   . have hye:y=f.az.length:=by omega
     subst hye;rw[BM hL hwl g1,<-hv]at e8
     by_cases v1:v=1
     . have q1:(v !=1)=false:=by simp[v1]
       have e8':env 8=bool false:=by rw[e8];simp[v1]
       refine ab.run lay [] ?_;simp[e3,e5,e6,e8',e9,q1,f1.1,f1.2];exact ihx _ g1 ⟨_,rfl,by simp[e3,e5,e6,e8',e9],by simp⟩
     . have q1:(v !=1)=true:=by simp[v1]
       have e8':env 8=bool true:=by rw[e8];simp[v1]
       refine ab.run lay [] ?_;simp[e3,e5,e6,e8',e9,q1,f1.1,f1.2];exact ihx _ g1 ⟨_,rfl,by simp[e3,e5,e6,e8',e9],by simp⟩
 . have hxe:x=f.az.length:=by omega
   subst hxe;refine ab.run lay [] ?_;simp[e3,e5];refine aq Tryz.func20 rfl rfl (ip hs ?_);refine ab.run lay [] ?_;simp[e3,e5];exact .done h
end Go.Proofs.YtalogdafegmilaaGreatDoor

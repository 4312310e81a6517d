/- Part 3 of the proof. -/
import Derived.Test.YtalogdafegmilaaGreatDoorO2
set_option linter.all false
namespace Go.Proofs.YtalogdafegmilaaGreatDoor
open Go.aN
abbrev T7:List Entry:=[⟨10,.take [0,1,2,3,4,5] false (.one 6 (.one 7 (.take [8,9] true (.done))))⟩]
abbrev T9:List Entry:=[⟨6,.take [0,1,2,3,4,5,6,7,8,9] false (.one 10 (.take [11] true (.done)))⟩]
abbrev Ua:List Entry:=[⟨4,.take [0,1,2,3,4,5,6,7] false (.one 8 (.take [9] true (.done)))⟩]
end Go.Proofs.YtalogdafegmilaaGreatDoor
namespace Go.Proofs.YtalogdafegmilaaGreatDoor
open Go.aN Go.Conc
set_option maxHeartbeats 2000000
set_option maxRecDepth 4000
theorem uJ{f:Fr}(hf:f.Good)(e:lP):bO f e≠[]:=by
 unfold bO gN;have:=hf.le;by_cases h0:e.iS=0
 . simp[h0]
 . have hp:(f.jn-f.bM+1).toNat=(f.jn-f.bM).toNat+1:=by omega
   rw[if_pos h0,hp,List.range_succ_eq_map];split<;>simp
end Go.Proofs.YtalogdafegmilaaGreatDoor
namespace Go.Proofs.YtalogdafegmilaaGreatDoor
open Go.aN Go.Conc
set_option maxHeartbeats 1000000
set_option maxRecDepth 4000
section
variable{k:Int->Int}
end
theorem B8{f:Fr}(hg:f.Good)(n:Int):ii f [n]=0:=by
 have e:aT f [n]=[n]:=by simp[aT,eH,eI]
 refine nR.2 ?_;rw[e];refine⟨by simp[dF],?_,rfl⟩;unfold cG;simp only[decide_eq_false_iff_not];obtain⟨x,hx⟩:=List.exists_mem_of_ne_nil _ (uJ hg (bT f n));exact List.ne_nil_of_mem ((qN (by simp)).2 (λj hj=>by simp at hj;subst hj;exact hx))
theorem dV(f:Fr)(begun:List Int):∀(fuel:Nat) (cd:List Int) (many:Int) (hs:List Int),begun.length<=cd.length->cV f begun fuel cd many hs=cV f [] fuel cd many hs
 |0,_,_,_,_=>rfl
 | fuel+1,cd,many,hs,h=>by
   unfold cV;congr 1;funext k;have e1:¬(cd.length<begun.length/\begun.getD cd.length 0≠(k:Int)):=by omega
   have e2:¬(cd.length<([]:List Int).length/\([]:List Int).getD cd.length 0≠(k:Int)):=by simp
   rw[if_neg e1,if_neg e2];split
   . exact dV f begun fuel _ _ _ (by simp;omega)
   . rfl
theorem pT{f:Fr}(hg:f.Good)(h2:2<=f.az.length):ak f []=ak f [0,0]++ak f [0,1]:=by
 obtain⟨n,hn⟩:∃n,f.az.length=n+2:=⟨f.az.length-2,by omega⟩;have hm:=hg.most;have e1:(min ((0:Int)+1) f.most).toNat=1:=by omega
 unfold ak;rw[hn];unfold cV;rw[e1];simp only[List.range_succ,List.range_zero,List.nil_append,List.flatMap_cons,List.flatMap_nil,List.append_nil];simp;by_cases c0:gO f (bq 0 0)=true
 . simp only[c0,if_true]
   unfold cV;have e2:(min (max (0:Int) 1+1) f.most).toNat=1\/(min (max (0:Int) 1+1) f.most).toNat=2:=by omega
   rcases e2 with e2|e2
   . rw[e2]
     simp only[List.range_succ,List.range_zero,List.nil_append,List.flatMap_cons,List.flatMap_nil,List.append_nil];simp;rw[dV f [0,0] n [0,0] _ _ (by simp)]
   . rw[e2]
     simp only[List.range_succ,List.range_zero,List.nil_append,List.flatMap_cons,List.flatMap_nil,List.append_nil];simp;rw[dV f [0,0] n [0,0] _ _ (by simp),dV f [0,1] n [0,1] _ _ (by simp)]
 . simp[c0]
theorem pU{f:Fr}(hg:f.Good)(h2:2<=f.az.length):fK f=((ak f []).length:Int):=by
 unfold fK;rw[if_neg (by omega),pT hg h2,List.length_append];omega
theorem nT:∀(i:Nat),∀l∈aU i,∀k:Nat,(k:Int)<am l->au l k≠[]
 |0,l,h,k,hk=>by simp[aU]at h;subst h;rw[show am []=0 from rfl]at hk;omega
 | i + 1,l,h,k,hk=>by
   unfold aU at h;obtain⟨p,hp,hq⟩:=List.mem_flatMap.1 h;unfold aV at hq;obtain⟨k',hk1,rfl⟩:=List.mem_map.1 hq;have hk1:=List.mem_range.1 hk1;have:=bP p;rw[bn]at hk;rw[bo];by_cases e:k'=k
   . subst e;simp
   . have:=nT i p hp k (by omega)
     rw[if_neg (by omega),List.append_nil];exact this
end Go.Proofs.YtalogdafegmilaaGreatDoor
namespace Go.Proofs.YtalogdafegmilaaGreatDoor
open Go.aN Go.Conc
set_option maxHeartbeats 1000000
set_option maxRecDepth 4000
variable{m:Mo}{σ:aa}{KF:cL->aa->Prop}
abbrev Ti:List AV:=[.lit (.slice none 0 0),.lit (.slice none 0 0),int 0,int 0,int 0,int 0]
end Go.Proofs.YtalogdafegmilaaGreatDoor
namespace Go.Proofs.YtalogdafegmilaaGreatDoor
open Go.aN Go.Conc
set_option maxHeartbeats 1000000
set_option maxRecDepth 4000
variable{m:Mo}{σ:aa}{KF:cL->aa->Prop}
def toldOf(n all:Int):Int:=if n=0 then 2 else if n=all then 1 else 3
theorem bx{n all:Int}(h0:0<=n)(h1:n<=all)(h2:0<all):aL n all=toldOf n all:=by
 unfold aL toldOf;by_cases a:n=0
 . subst a;rw[if_neg (by omega),if_neg (by omega),if_pos rfl]
 . rw[if_neg a]
   by_cases b:n=all
   . subst b;rw[if_neg (by omega),if_pos rfl,if_pos rfl]
   . rw[if_pos (by omega),if_neg b]
end Go.Proofs.YtalogdafegmilaaGreatDoor
namespace Go.Proofs.YtalogdafegmilaaGreatDoor
open Go.aN Go.Conc
set_option maxHeartbeats 1000000
set_option maxRecDepth 4000
theorem jj{n all:Int}(h:0<all):toldOf n all=2↔n=0:=by
 unfold toldOf;by_cases a:n=0
 . simp[a]
 . by_cases b:n=all
   . simp[a,b]
   . simp[a,b]
theorem kq{n all:Int}(h:0<all):toldOf n all=1↔n=all:=by
 unfold toldOf;by_cases a:n=0
 . subst a;simp;omega
 . by_cases b:n=all
   . rw[if_neg a,if_pos b];simp[b]
   . simp[a,b]
theorem iH{α:Type}(p:α->Bool):∀l:List α,(l.filter p).length=l.length↔∀x∈l,p x=true
 |[]=>by simp
 | a ::l=>by
   have ih:=iH p l;have:=List.length_filter_le p l;rw[List.filter_cons];by_cases q:p a=true
   . rw[if_pos q,List.length_cons,List.length_cons]
     simp only[List.mem_cons,forall_eq_or_imp,q,true_and,<-ih];omega
   . rw[if_neg q,List.length_cons]
     simp only[List.mem_cons,forall_eq_or_imp];constructor
     . intro h;omega
     . intro h;exact absurd h.1 q
theorem kr{α:Type}(p:α->Bool)(l:List α):(l.filter p).length=0↔∀x∈l,p x=false:=by rw[List.length_eq_zero_iff,List.filter_eq_nil_iff];simp
section
variable{L:List (List Int)}{n:Nat}
def fy(L:List (List Int))(x y:Nat):Int:=aL ((L.filter (aC x y)).length:Int) L.length
theorem eZ(hL:0<L.length){x y:Nat}:fy L x y=2↔∀w∈L,aC x y w=false:=by
 have:=List.length_filter_le (aC (x:Int) y) L;unfold fy;rw[bx (by omega) (by omega) (by omega),jj (by omega),<-kr];omega
theorem ku(hL:0<L.length){x y:Nat}:fy L x y=1↔∀w∈L,aC x y w=true:=by
 have:=List.length_filter_le (aC (x:Int) y) L;unfold fy;rw[bx (by omega) (by omega) (by omega),kq (by omega),<-iH];omega
end
section
variable{L:List (List Int)}{n:Nat}
end
theorem jD{b mb:Nat}{f:Fr}{σ σ':aa}(h:v4 b 6 mb .u8 (dm f) σ)(h1:σ' b=σ b)(h2:σ' mb=σ mb):v4 b 6 mb .u8 (dm f) σ':=by unfold v4 at h ⊢;rw[h1,h2];exact h
end Go.Proofs.YtalogdafegmilaaGreatDoor
namespace Go.Proofs.YtalogdafegmilaaGreatDoor
open Go.aN Go.Conc
set_option maxHeartbeats 2000000
set_option maxRecDepth 4000
variable{m:Mo}{σ:aa}{KF:cL->aa->Prop}
theorem K1:zW Tryz.prog 28 3:=.of (by kernel_rfl) (by kernel_rfl) (by kernel_rfl) (by kernel_rfl)
theorem rV{f:Fr}(hg:f.Good):fK f=((ak f []).length:Int):=by
 by_cases h2:2<=f.az.length
 . exact pU hg h2
 have e:fK f=1:=by unfold fK;rw[if_pos (by omega)]
 rw[e];have hm:=hg.most;have e1:(min ((0:Int)+1) f.most).toNat=1:=by omega
 have hc:gO f (bq 0 0)=true:=by
  have:bU (bq 0 0)=[0]:=by decide +kernel
  unfold gO;rw[this,decide_eq_true_eq];exact B8 hg 0
 rcases(show f.az.length=0\/f.az.length=1 by omega)with hn|hn
 . unfold ak;rw[hn];simp[cV]
 . unfold ak;rw[hn]
   unfold cV;rw[e1];simp only[List.range_succ,List.range_zero,List.nil_append,List.flatMap_cons,List.flatMap_nil,List.append_nil];simp[hc,cV]
namespace MA
end MA
end Go.Proofs.YtalogdafegmilaaGreatDoor
namespace Go.Proofs.YtalogdafegmilaaGreatDoor
open Go.aN Go.Conc
set_option maxHeartbeats 1000000
set_option maxRecDepth 4000
theorem Tc(lt:Int->Int->Bool)(x:Int):∀r:List Int,(eI lt x r).Perm (x::r)
 |[]=>List.Perm.refl _
 | y::r=>by
   unfold eI;split
   . exact((Tc lt x r).cons y).trans (List.Perm.swap x y r)
   . exact List.Perm.refl _
theorem Tj(lt:Int->Int->Bool)(l:List Int):(eH lt l).Perm l:=by
 have key:∀(l r:List Int),(l.foldl (λr x=>eI lt x r) r).Perm (l++r):=by
  intro l;induction l with
  |nil=>intro r;exact List.Perm.refl _
  |cons a l ih=>intro r;rw[List.foldl_cons];refine(ih _).trans (((Tc lt a r).append_left l).trans ?_);exact List.perm_middle
 simpa[eH]using key l []
theorem Ta(f:Fr)(l:List Int):(aT f l).Perm l:=(List.reverse_perm _).trans (Tj _ _)
theorem Tf(f:Fr)(l:List Int):(aT f l).Pairwise λa b=>(bT f a).hour<=(bT f b).hour:=by
 rw[oo,List.pairwise_reverse]
 have key:∀(l r:List Int),Dn (λn=>(bT f n).hour) r->Dn (λn=>(bT f n).hour) (l.foldl (λr x=>eI (zo λn=>(bT f n).hour) x r) r):=by
  intro l;induction l with
  |nil=>intro r h;exact h
  |cons a l ih=>intro r h;exact ih _ (zp a h)
 exact key l [] List.Pairwise.nil
theorem S8{R:Int->Int->Prop}:∀{l:List Int},l.Pairwise R->∀a∈l,∀b∈l,a≠b->R a b\/R b a
 |[],_,a,ha,_,_,_=>by cases ha
 | c ::l,h,a,ha,b,hb,hne=>by
   obtain⟨h1,h2⟩:=List.pairwise_cons.1 h;rcases List.mem_cons.1 ha with rfl|ha'
   . rcases List.mem_cons.1 hb with rfl|hb'
     . exact absurd rfl hne
     . exact .inl (h1 b hb')
   . rcases List.mem_cons.1 hb with rfl|hb'
     . exact .inr (h1 a ha')
     . exact S8 h2 a ha' b hb' hne
theorem TG:∀a:Fin 32,∀b:Fin 32,bQ (a.val:Int) (b.val:Int)=bQ (b.val:Int) (a.val:Int):=by decide +kernel
theorem Fr.Good.symm{f:Fr}(hg:f.Good){i j:Nat}(hi:i<f.roads.length)(hj:j<f.roads.length):rd f.roads i j=rd f.roads j i:=by
 have h:=hg.Lu;unfold i6 at h;split at h
 . cases h
 split at h
 . cases h
 split at h
 . next q=>exact absurd h q
 split at h
 . cases h
 next q=>
 simp only[List.any_eq_true,List.mem_range,not_exists,not_and]at q;have h1:=q i hi j hj;unfold dZ at h1;simp only[Bool.or_eq_true,not_or,bne_iff_ne,ne_eq,Decidable.not_not]at h1;exact h1.1.2
theorem Tx{f:Fr}(hg:f.Good){a b:Int}(ha:0<=a/\a<f.az.length)(hb:0<=b/\b<f.az.length)(hh:(bT f a).hour<=(bT f b).hour)(h:Fit f b a):Fit f a b:=by
 have ea:=tv (hg.Bp _ (oq ha));have eb:=tv (hg.Bp _ (oq hb));have hd:=hg.dR;obtain⟨A,hA⟩:=sE ea.2.2.2.2.2;obtain⟨B,hB⟩:=sE eb.2.2.2.2.2;have pa:=ea.2.1;have pb:=eb.2.1;have t1:=TG A B;have t2:=hg.symm (i:=(bT f a).place.toNat) (j:=(bT f b).place.toNat) (by omega) (by omega);unfold Fit j7 at h ⊢;rw[hB,hA]at h;rw[hA,hB];simp only[decide_eq_false_iff_not]at h ⊢;rw[t1,t2];omega
structure TU(f:Fr)(l:List Int):Prop where
 cS:∀a∈l,∀b∈l,(bT f a).cS=(bT f b).cS
 LH:∃h,∀j∈l,h∈bO f (bT f j)
 fit:∀a∈l,∀b∈l,a≠b->Fit f a b\/Fit f b a
theorem Tl{f:Fr}(hg:f.Good){l:List Int}(hne:l≠[])(hnd:l.Nodup)(hl:∀n∈l,0<=n/\n<f.az.length):ii f l=0↔TU f l:=by
 have hp:=Ta f l;have hS:∀n,n∈aT f l↔n∈l:=λn=>hp.mem_iff
 have hup:=Tf f l;have hndS:(aT f l).Nodup:=hp.nodup_iff.2 hnd;have hneS:aT f l≠[]:=λe=>by rw[e]at hp;exact hne (List.nil_perm.1 hp)
 rw[nR];generalize aT f l=S at *
 have hz:S.getD 0 0∈S:=by
  match S,hneS with
  |a::r,_=>simp
 constructor
 . rintro⟨h1,h2,h3⟩
   unfold dF at h1;rw[List.any_eq_false]at h1;have h1':∀x∈S,(bT f x).cS=(bT f (S.getD 0 0)).cS:=λx hx=>by simpa using h1 x hx
   refine⟨λa ha b hb=>by rw[h1' a ((hS a).2 ha),h1' b ((hS b).2 hb)],?_,λa ha b hb hab=>S8 (xW hg (λn hn=>hl n ((hS n).1 hn)) h3) a ((hS a).2 ha) b ((hS b).2 hb) hab⟩
   unfold cG at h2;simp only[decide_eq_false_iff_not]at h2;obtain⟨x,hx⟩:=List.exists_mem_of_ne_nil _ h2;exact⟨x,λj hj=>(qN hneS).1 hx j ((hS j).2 hj)⟩
 . intro h
   refine⟨?_,?_,sF ?_⟩
   . unfold dF
     rw[List.any_eq_false];intro x hx;rw[h.cS x ((hS x).1 hx) _ ((hS _).1 hz)];simp
   . unfold cG
     simp only[decide_eq_false_iff_not];obtain⟨x,hx⟩:=h.LH;have:x∈dS f S:=(qN hneS).2 λj hj=>hx j ((hS j).1 hj)
     exact List.ne_nil_of_mem this
   . refine(hup.and hndS).imp_of_mem λ{a b} ha hb hab=>?_
     have ha:=(hS a).1 ha;have hb:=(hS b).1 hb
     rcases h.fit a ha b hb hab.2 with q|q
     . exact q
     . exact Tx hg (hl a ha) (hl b hb) hab.1 q
theorem S7(w:List Int)(k:Int):(au w k).Nodup:=(io k w 0).1.imp λh=>by omega
def S6(f:Fr)(n:lP):Fr:={f with az:=f.az++[n]}
theorem TF{f:Fr}(hg:f.Good){n:lP}(hn:cI f.roads.length n=0)(hm:n.marks.length<1152921504606846976)(h6:f.az.length<6):(S6 f n).Good:=
 ⟨⟨by have:=h6;simp[S6];omega,hg.fits.roads,hg.fits.row,λe he=>by
    rcases List.mem_append.1 he with he|he
    . exact hg.fits.marks e he
    . simp at he;subst he;exact hm⟩,hg.fr,hg.to,hg.le,hg.dR,hg.most,by simp[S6];omega,λe he=>by
    rcases List.mem_append.1 he with he|he
    . exact hg.Bp e he
    . simp at he;subst he;exact hn,hg.Lu⟩
theorem T3{f:Fr}{n:lP}{i:Int}(h:0<=i/\i<f.az.length):bT (S6 f n) i=bT f i:=by
 have:i.toNat<f.az.length:=by omega
 unfold bT S6;simp[List.getD_eq_getElem?_getD,List.getElem?_append_left this]
theorem T4{f:Fr}{n:lP}{l:List Int}(hl:∀i∈l,0<=i/\i<f.az.length)(h:TU (S6 f n) l):TU f l:=by
 have he:∀i∈l,bT (S6 f n) i=bT f i:=λi hi=>T3 (hl i hi)
 refine⟨λa ha b hb=>?_,?_,λa ha b hb hab=>?_⟩
 . rw[<-he a ha,<-he b hb];exact h.cS a ha b hb
 . obtain⟨x,hx⟩:=h.LH
   exact⟨x,λj hj=>by have:=hx j hj;rw[he j hj]at this;exact this⟩
 . have:=h.fit a ha b hb hab
   unfold Fit j7 at this ⊢;rw[he a ha,he b hb]at this;exact this
theorem Ty{f:Fr}(hg:f.Good){n:lP}(hg':(S6 f n).Good){w:List Int}(hw:w∈ak (S6 f n) []):w.take f.az.length∈ak f []:=by
 rw[<-pX hg',List.mem_filter]at hw;rw[<-pX hg,List.mem_filter];have hl:(S6 f n).az.length=f.az.length+1:=by simp[S6]
 rw[hl]at hw;obtain⟨h1,h2⟩:=hw;have hlen:=(ir _ _ h1).1;unfold aU at h1;obtain⟨p,hp,hq⟩:=List.mem_flatMap.1 h1;unfold aV at hq;obtain⟨k,hk,rfl⟩:=List.mem_map.1 hq;have hpl:=(ir _ _ hp).1;rw[List.take_append_of_le_length (by omega),List.take_of_length_le (by omega)]
 refine⟨hp,?_⟩;have hh:=ko p [(k:Int)];have hnn:=bP p;unfold de;rw[Bool.and_eq_true,List.all_eq_true];have h3:=h2;unfold de at h3;rw[Bool.and_eq_true,decide_eq_true_eq]at h3;refine⟨decide_eq_true (Int.le_trans hh h3.1),λj hj=>decide_eq_true ?_⟩
 have hj:=List.mem_range.1 hj;have hne:=nT _ _ hp j (by omega)
 have hr:∀i∈au p j,0<=i/\i<f.az.length:=λi hi=>by have:=cr hi;rw[hpl]at this;exact⟨this.1,this.2.1⟩
 have:=Jn hg' (by rw[hlen,hl]) (k:=j) (by omega) hne h2
 rw[Tl hg hne (S7 p j) hr];refine T4 hr ((Tl hg' hne (S7 p j) λi hi=>?_).1 this)
 have:=hr i hi;rw[hl];omega
theorem Td{w:List Int}{n i j:Nat}(hi:i<n)(hj:j<n):aC i j (w.take n)=aC i j w:=by simp only[aC,List.getD_eq_getElem?_getD,Int.toNat_natCast];rw[List.getElem?_take_of_lt hi,List.getElem?_take_of_lt hj]
theorem TZ(L:List (List Int))(x y:Nat)(hL:0<L.length):fy L x y=1\/fy L x y=2\/fy L x y=3:=by
 have:=List.length_filter_le (aC (x:Int) y) L;unfold fy;rw[bx (by omega) (by omega) (by omega)];unfold toldOf;split
 . exact .inr (.inl rfl)
 . split
   . exact .inl rfl
   . exact .inr (.inr rfl)
theorem T0{f:Fr}(hg:f.Good){n:lP}(hg':(S6 f n).Good)(hL':0<(ak (S6 f n) []).length){i k:Nat}(hi:i<f.az.length)(hk:k<f.az.length)(h:fy (ak f []) i k≠3):fy (ak (S6 f n) []) i k=fy (ak f []) i k:=by
 have hL:0<(ak f []).length:=by obtain⟨w,hw⟩:=List.exists_mem_of_length_pos hL';exact List.length_pos_of_mem (Ty hg hg' hw)
 rcases TZ (ak f []) i k hL with q|q|q
 . rw[q,ku hL']
   intro w hw;rw[<-Td hi hk];exact(ku hL).1 q _ (Ty hg hg' hw)
 . rw[q,eZ hL']
   intro w hw;rw[<-Td hi hk];exact(eZ hL).1 q _ (Ty hg hg' hw)
 . exact absurd q h
end Go.Proofs.YtalogdafegmilaaGreatDoor
namespace Go.Proofs.YtalogdafegmilaaGreatDoor
open Go.aN Go.Conc
set_option maxHeartbeats 2000000
set_option maxRecDepth 4000
variable{m:Mo}{σ:aa}{KF:cL->aa->Prop}
theorem TP{l:List Int}(hl:l.length<=1000000000)(h:KF (.val (ints l)) σ):aA Tryz.prog m 72 [ints l] σ KF:=by
 by_cases hne:l=[]
 . subst hne
   refine aA.thaw ?_;refine aA.start lay [] [] 1 Tryz.func72 rfl rfl (by rfl) (by kernel_rfl) ?_;simp[Tryz.f72];refine TK (es:=[]) (sp:=.any) (kk:=1) lay rfl cA rfl rfl ?_ (.inl rfl) (λ_=>?_) ?_
   . simp
   . have q1:(BinOp.eql==BinOp.eql)=true:=rfl
     refine ab.run lay [] ?_;simp[q1];exact .done (.nC (fT 1) (.done h))
   . have q1:(BinOp.eql==BinOp.neq)=false:=rfl
     refine ab.run lay [] ?_;simp[q1];refine gf lay rfl rfl rfl cA rfl cA rfl pQ (by decide) (by simp) (σ0:=σ) (es:=[]) (xs:=([]:List Int).map int) (.empty σ 1) (.inl (.inr ⟨_,by simp;rfl⟩)) (by simp) λa' σ' ht=>?_
     refine ab.run lay [] ?_;simp;exact .done ((show bG σ σ' a' 1 (([]:List Int).map int)by simpa using ht).thaw h)
 . exact(Fh hne hl λa σ' ht=>ht.thaw h).thaw
theorem T5{σ0 σ:aa}{a:AV}{kk:Nat}{es:List AV}(h:Tok σ0 σ a kk es)(hne:es≠[]):∃sp,a=.sl kk es sp:=by
 rcases h.2 with⟨_,q⟩|q|⟨b,e,_,q,_⟩
 . exact absurd q hne
 . exact⟨_,q⟩
 . exact⟨_,q⟩
def Te(f:Fr)(n:lP):List AV:=if ak (S6 f n) []≠[]then[aF (S6 f n),int 0]else[.agg Ti,int 9]
namespace AD
abbrev Ub:List Entry:=[⟨17,.take [0,2,5,9,13] false (.both 1 (.both 3 (.take [4] false (.both 6 (.take [7] false (.both 8 (.one 10 (.one 11 (.take [12] true (.done)))) (.one 10 (.one 8 (.one 11 (.take [12] true (.done))))))) (.one 10 (.one 6 (.take [7] false (.one 8 (.one 11 (.take [12] true (.done))))))))) (.both 6 (.take [7] false (.both 3 (.take [4] false (.both 8 (.one 10 (.one 11 (.take [12] true (.done)))) (.one 10 (.one 8 (.one 11 (.take [12] true (.done))))))) (.one 10 (.one 3 (.take [4] false (.one 8 (.one 11 (.take [12] true (.done))))))))) (.one 10 (.both 3 (.take [4] false (.one 6 (.take [7] false (.one 8 (.one 11 (.take [12] true (.done))))))) (.one 6 (.take [7] false (.one 3 (.take [4] false (.one 8 (.one 11 (.take [12] true (.done)))))))))))) (.both 3 (.take [4] false (.both 1 (.both 6 (.take [7] false (.both 8 (.one 10 (.one 11 (.take [12] true (.done)))) (.one 10 (.one 8 (.one 11 (.take [12] true (.done))))))) (.one 10 (.one 6 (.take [7] false (.one 8 (.one 11 (.take [12] true (.done)))))))) (.both 6 (.take [7] false (.both 1 (.both 8 (.one 10 (.one 11 (.take [12] true (.done)))) (.one 10 (.one 8 (.one 11 (.take [12] true (.done)))))) (.one 10 (.one 1 (.one 8 (.one 11 (.take [12] true (.done)))))))) (.one 10 (.both 1 (.one 6 (.take [7] false (.one 8 (.one 11 (.take [12] true (.done)))))) (.one 6 (.take [7] false (.one 1 (.one 8 (.one 11 (.take [12] true (.done)))))))))))) (.both 6 (.take [7] false (.both 1 (.both 3 (.take [4] false (.both 8 (.one 10 (.one 11 (.take [12] true (.done)))) (.one 10 (.one 8 (.one 11 (.take [12] true (.done))))))) (.one 10 (.one 3 (.take [4] false (.one 8 (.one 11 (.take [12] true (.done)))))))) (.both 3 (.take [4] false (.both 1 (.both 8 (.one 10 (.one 11 (.take [12] true (.done)))) (.one 10 (.one 8 (.one 11 (.take [12] true (.done)))))) (.one 10 (.one 1 (.one 8 (.one 11 (.take [12] true (.done)))))))) (.one 10 (.both 1 (.one 3 (.take [4] false (.one 8 (.one 11 (.take [12] true (.done)))))) (.one 3 (.take [4] false (.one 1 (.one 8 (.one 11 (.take [12] true (.done)))))))))))) (.one 10 (.both 1 (.both 3 (.take [4] false (.one 6 (.take [7] false (.one 8 (.one 11 (.take [12] true (.done))))))) (.one 6 (.take [7] false (.one 3 (.take [4] false (.one 8 (.one 11 (.take [12] true (.done))))))))) (.both 3 (.take [4] false (.both 1 (.one 6 (.take [7] false (.one 8 (.one 11 (.take [12] true (.done)))))) (.one 6 (.take [7] false (.one 1 (.one 8 (.one 11 (.take [12] true (.done))))))))) (.one 6 (.take [7] false (.both 1 (.one 3 (.take [4] false (.one 8 (.one 11 (.take [12] true (.done)))))) (.one 3 (.take [4] false (.one 1 (.one 8 (.one 11 (.take [12] true (.done))))))))))))))))⟩]
theorem T6(hs : m.solo=true){f:Fr}{n:lP}(hf:f.Fits)(hc:check f=0)(h5:f.az.length<6)(hn:cI f.roads.length n=0)(hm:n.marks.length<=1000)(hmk:∀e∈f.az,e.marks.length<=1000)(hrow:∀r∈f.roads,r.length<=1000000000)(hrn:f.roads.length<=1000)(hway:ak f []≠[])(h:KF (.val (.c9 (Te f n))) σ):aA Tryz.prog m 40 [aF f,dt n] σ KF:=by
 have hg:=Fr.jw hf hc;have ho:=tx hc;have hrl:=hf.roads;have hg':=TF hg hn (by omega) h5
 refine aA.start lay [2] Ub 2 Tryz.func40 rfl rfl (by rfl) (by kernel_rfl) ?_
 simp[Tryz.f40];refine cT.intro λc2 h2=>?_
 simp;refine cT.intro λc4 h4=>?_
 obtain⟨z1,z2,h4⟩:=aa.aO h4;simp[z1,z2,aa.ai];generalize hσb:(σ.set c2 (.cells (eP f))).set c4 (.cells Ti)=σb;have hle:σ.Le σb:=by subst hσb;exact aa.iU (aa.iU (aa.le_refl _) h2) (by rw[aa.ai _ _ z1];exact h4)
 have b2:σb c2=some (.cells (eP f)):=by subst hσb;simp[aa.ai,aa.ao,z1,z2]
 have b4:σb c4=some (.cells Ti):=by subst hσb;simp[aa.ao]
 have hW:Wl [AV.agg (eP f),AV.lit (.slice none 0 0)] [aF f,ints []]:=.cons (.refl _) (.cons (fT 1) .nil);refine bs Tryz.func47 rfl rfl hW (tV hf (by simp) (λq=>absurd ho q) λ_ b mb σ' hnf=>?_)
 have hu:v4 b 6 mb .u8 (dm f) σ':=by rw[hnf.eq];exact⟨aa.ao _ _ _,[],(aa.ai _ _ (Ne.symm hnf.ne)).trans (aa.ao _ _ _),λn a h=>by simp[iu]at h⟩
 have k2:=hnf.le _ _ b2;have k4:=hnf.le _ _ b4;have nb2:c2≠b:=λe=>by rw[e,hnf.hb]at b2;cases b2
 have nm2:c2≠mb:=λe=>by rw[e,hnf.zy]at b2;cases b2
 have nb4:c4≠b:=λe=>by rw[e,hnf.hb]at b4;cases b4
 have nm4:c4≠mb:=λe=>by rw[e,hnf.zy]at b4;cases b4
 have hle':σ.Le σ':=aa.le_trans hle λy x hy=>hnf.le y x hy
 have q6:((f.az.length:Int)==6)=false:=by rw[beq_eq_false_iff_ne];omega
 refine ab.run lay [2] ?_;simp[k2,q6];refine aq Tryz.func71 rfl rfl (wA ⟨by omega,by omega⟩ (by omega) ?_)
 rw[hn];refine ab.run lay [2] ?_;simp[k2];refine ab.loop f.roads.length (λk s=>∃env σ'',s=⟨env,σ'',[],.no⟩/\env 2=.ref c2 0/\env 3=.cp (dt n) 0/\env 4=.ref c4 0/\env 6=iF b mb f 0/\env 39=rows f.roads/\env 40=int f.roads.length/\env 41=int k/\Tok σ' σ'' (env 9) 1 ((f.roads.take k).map ints)) ⟨_,σ',rfl,by simp,by simp,by simp,by simp,by simp,by simp,by simp,by simpa using Tok.nil σ' 1⟩ ?_
 rintro k0 k _ hk ⟨env,σ'',rfl,e2,e3,e4,e6,e39,e40,e41,htok⟩ ih
 have htc:=htok.cells
 rcases Nat.lt_or_ge k f.roads.length with g1|g1
 . have g1':(k:Int)<f.roads.length:=by omega
   have f1:-9223372036854775808<=(k:Int)+1/\(k:Int)+1<=9223372036854775807:=by omega
   refine ab.run lay [2] ?_;simp[e2,e3,e4,e6,e39,e40,e41,htc.1,htc.2,g1,g1'];refine aq Tryz.func72 rfl rfl (TP (hrow _ (List.getElem_mem g1)) ?_);refine ab.run lay [2] ?_;simp[e2,e3,e4,e6,e39,e40,e41,htc.1,htc.2];refine aM lay rfl rfl rfl jC rfl jC rfl cA (by decide) (by simp;omega) (σ0:=σ') (es:=(f.roads.take k).map ints) (xs:=[ints f.roads[k]]) (by simpa using htok) (.inr ⟨_,by simp;rfl⟩) λa' σ2 ht'=>?_
   have htc':=ht'.cells;refine ab.run lay [] ?_;simp[e41,f1.1,f1.2,htc'.1,htc'.2];refine ih _ g1 ⟨_,_,rfl,by simp[e2,e3,e4,e6,e39,e40,e41,htc.1,htc.2],by simp[e2,e3,e4,e6,e39,e40,e41,htc.1,htc.2],by simp[e2,e3,e4,e6,e39,e40,e41,htc.1,htc.2],by simp[e2,e3,e4,e6,e39,e40,e41,htc.1,htc.2],by simp[e2,e3,e4,e6,e39,e40,e41,htc.1,htc.2],by simp[e2,e3,e4,e6,e39,e40,e41,htc.1,htc.2],by simp,?_⟩
   rw[List.take_succ_eq_append_getElem g1,List.map_append];simpa using ht'
 . have hke : k = f.roads.length:=by omega
   subst hke;rw[List.take_length]at htok;refine ab.yt 9 (a':=rows f.roads) (by simpa using htok.W) ?_
   refine ab.weaken (σ:=σ') ?_ htok.1;clear ih htok htc;obtain⟨sb,hsb⟩:∃sb,sb=σ'.set c2 (.cells (eP f)):=⟨_,rfl⟩;refine ab.run lay [2] ?_;simp[e2,e3,e4,e6,e39,e40,e41,k2,aS];simp only[<-hsb];apply Dm (I:=λenv σ3=>∃sp2,env 2=.ref c2 0/\env 3=.cp (dt n) 0/\env 4=.ref c4 0/\env 6=iF b mb f 0/\env 12=.lit (.slice none 0 0)/\env 64=.sl 6 (f.az.map dt++[dt n]) sp2/\env 65=int ((f.az.length:Int)+1)/\env 66=int 0/\Tok sb σ3 (.sl 6 (f.az.map dt++[dt n]) sp2) 6 (f.az.map dt++[dt n]))
   . intro hrest
     repeat' (first
               |apply And.intro
               | (refine sS lay rfl sB rfl CR (es:=f.az.map dt) (sp:=.any) (l:=0) (h:=f.az.length) (by simp) (λcap hcap=>⟨⟨⟨.i64,by simp⟩,by simpa using hcap⟩,⟨⟨.i64,by simp⟩,Nat.le_refl _⟩,rfl⟩) (by simp) λa hq=>?_
                  have htok0:Tok sb sb a 6 (f.az.map dt):=by
                   rcases hq with rfl|⟨h1,rfl⟩
                   . have:List.take (f.az.length-0) (List.drop 0 (f.az.map dt))=f.az.map dt:=by rw[List.drop_zero,List.take_of_length_le (by simp)]
                     rw[this];exact⟨aa.le_refl _,.inr (.inl rfl)⟩
                   . exact⟨aa.le_refl _,.inl ⟨rfl,h1⟩⟩
                  have hac:=htok0.cells;clear hq;refine bm.go lay [] ?_;simp[hac.1,hac.2])
               | (refine aM lay rfl rfl rfl sB rfl sB rfl CR (by decide) (by simp;omega) (σ0:=sb) (es:=f.az.map dt) (xs:=[dt n]) (by simpa using htok0) (.inr ⟨_,by simp;rfl⟩) λa2 σ3 ht2=>?_
                  obtain⟨sp2,rfl⟩:=T5 ht2 (by simp)
                  refine bm.go lay [] ?_;simp;refine hrest _ _ ?_;refine⟨sp2,?_,?_,?_,?_,?_,?_,?_,?_,?_⟩
                  all_goals first|exact ht2|simp[e2,e3,e4,e6]))
   rintro env σ3 ⟨sp2,e2,e3,e4,e6,bh,e64,e65,e66,htok⟩
   obtain⟨M,hM⟩:∃M,M=(S6 f n).az:=⟨_,rfl⟩;have hMl:M.length=f.az.length+1:=by rw[hM];simp[S6]
   have hMm:M.map dt=f.az.map dt++[dt n]:=by rw[hM];simp[S6]
   rw[<-hMm]at e64 htok
   have hMk:∀e∈M,e.marks.length<=1000000000:=λe he=>by
    rw[hM]at he
    rcases List.mem_append.1 he with he|he
    . have:=hmk e he;omega
    . simp at he;subst he;omega
   refine ab.yt 64 (a':=ru M) (by rw[e64];exact gK 6 _ _) ?_
   refine ab.weaken (σ:=sb) ?_ htok.1;have s2:sb c2=some (.cells (eP f)):=by rw[hsb];exact aa.ao _ _ _
   have s4:sb c4=some (.cells Ti):=by rw[hsb,aa.ai _ _ z1];exact k4
   have hus:v4 b 6 mb .u8 (dm f) sb:=by rw[hsb];exact jD hu (aa.ai _ _ (Ne.symm nb2)) (aa.ai _ _ (Ne.symm nm2))
   have hles:σ.Le sb:=by rw[hsb];exact aa.ig hle' h2
   clear htok e64;have e65':env 65=int M.length:=by rw[e65,hMl];simp
   refine ab.run lay [2] ?_;simp[e2,e3,e4,e6,bh,e65',e66];refine ab.loop M.length (λk s=>∃env σ'',s=⟨env,σ'',[],.no⟩/\env 2=.ref c2 0/\env 4=.ref c4 0/\env 6=iF b mb f 0/\env 64=ru M/\env 65=int M.length/\env 66=int k/\Tok sb σ'' (env 12) 6 ((M.take k).map dt)) ⟨_,sb,rfl,by simp[e2],by simp[e4],by simp[e6],by simp,by simp[e65'],by simp[e66],by simpa[bh]using Tok.nil sb 6⟩ ?_
   clear e2 e3 e4 e6 bh e65 e65' e66
   rintro k0 k _ hk ⟨env,σ'',rfl,e2,e4,e6,e64,e65,e66,htok⟩ ih
   have htc:=htok.cells
   rcases Nat.lt_or_ge k M.length with g1|g1
   . have g1':(k:Int)<M.length:=by omega
     have f1:-9223372036854775808<=(k:Int)+1/\(k:Int)+1<=9223372036854775807:=by omega
     refine ab.run lay [2] ?_;simp[e2,e4,e6,e64,e65,e66,htc.1,htc.2,g1,g1'];refine cT.intro λc14 h14=>?_
     simp[e2,e4,e6,e64,e65,e66,htc.1,htc.2];refine aq Tryz.func72 rfl rfl (TP (hMk _ (List.getElem_mem g1)) ?_);refine ab.run lay [2] ?_;simp[e2,e4,e6,e64,e65,e66,htc.1,htc.2,aS];refine aM lay rfl rfl rfl sB rfl sB rfl CR (by decide) (by simp;omega) (σ0:=sb) (es:=(M.take k).map dt) (xs:=[dt M[k]]) (by simpa using htok.up (aa.iU (aa.le_refl _) h14)) (.inr ⟨_,by simp;rfl⟩) λa' σ4 ht'=>?_
     have htc':=ht'.cells;refine ab.run lay [] ?_;simp[e66,f1.1,f1.2,htc'.1,htc'.2];refine ih _ g1 ⟨_,_,rfl,by simp[e2,e4,e6,e64,e65,e66,htc.1,htc.2],by simp[e2,e4,e6,e64,e65,e66,htc.1,htc.2],by simp[e2,e4,e6,e64,e65,e66,htc.1,htc.2],by simp[e2,e4,e6,e64,e65,e66,htc.1,htc.2],by simp[e2,e4,e6,e64,e65,e66,htc.1,htc.2],by simp,?_⟩
     rw[List.take_succ_eq_append_getElem g1,List.map_append];simpa using ht'
   . have hke:k=M.length:=by omega
     subst hke;rw[List.take_length]at htok;refine ab.yt 12 (a':=ru M) (by simpa using htok.W) ?_
     refine ab.weaken (σ:=sb) ?_ htok.1;clear ih htok htc;subst hM;refine ab.run lay [2] ?_;simp[e2,e4,e6,e64,e65,e66,s2,aS];refine aq Tryz.func53 rfl rfl (yu (fQ nk np tB hs hnf.ne) hg (jD hus (aa.ai _ _ (Ne.symm nb2)) (aa.ai _ _ (Ne.symm nm2))) λσ5 hu5 q5=>?_)
     have p2:=q5 c2 _ (aa.ao _ _ _) nb2 (.inl nm2);have p4:=q5 c4 _ ((aa.ai _ _ z1).trans s4) nb4 (.inl nm4);refine ab.run lay [2] ?_;simp[e2,e4,e6,e64,e65,e66,hway,p2];refine aq Tryz.func51 rfl rfl (vM (f:=S6 f n) λb2 mb2 σ6 hn2=>?_)
     have hu2:v4 b2 6 mb2 .u8 (dm (S6 f n)) σ6:=by rw[hn2.eq];exact⟨aa.ao _ _ _,[],(aa.ai _ _ (Ne.symm hn2.ne)).trans (aa.ao _ _ _),λn a h=>by simp[iu]at h⟩
     have r2:=hn2.le _ _ p2;have r4:=hn2.le _ _ p4;have nb22:c2≠b2:=λe=>by rw[e,hn2.hb]at p2;cases p2
     have nm22:c2≠mb2:=λe=>by rw[e,hn2.zy]at p2;cases p2
     have nb24:c4≠b2:=λe=>by rw[e,hn2.hb]at p4;cases p4
     have nm24:c4≠mb2:=λe=>by rw[e,hn2.zy]at p4;cases p4
     refine ab.run lay [2] ?_;simp[e2,e4,e6,e64,e65,e66];refine aq Tryz.func53 rfl rfl (yu (fQ nk np tB hs hn2.ne) hg' hu2 λσ7 hu7 q7=>?_)
     have t2:=q7 c2 _ r2 nb22 (.inl nm22);have t4:=q7 c4 _ r4 nb24 (.inl nm24)
     have fin:∀X,σ.Le (σ7.set c4 X):=λX y x hy=>by
      have y2:y≠c2:=λe=>by subst e;rw[h2]at hy;cases hy
      have y4:y≠c4:=λe=>by subst e;rw[h4]at hy;cases hy
      have x1:=hle' y x hy;have x0:σb y=some x:=hle y x hy;have yb:y≠b:=λe=>by rw[e,hnf.hb]at x0;cases x0
      have ym:y≠mb:=λe=>by rw[e,hnf.zy]at x0;cases x0
      have x5:=q5 y x ((aa.ai _ _ y2).trans (hles y x hy)) yb (.inl ym);have yb2:y≠b2:=λe=>by rw[e,hn2.hb]at x5;cases x5
      have ym2:y≠mb2:=λe=>by rw[e,hn2.zy]at x5;cases x5
      rw[aa.ai _ _ y4];exact q7 y x (hn2.le y x x5) yb2 (.inl ym2)
     by_cases hw:ak (S6 f n) []=[]
     . rw[show decide (ak (S6 f n) []≠[])=false by simp[hw]]
       rw[show Te f n=[.agg Ti,int 9]by simp[Te,hw]]at h
       refine ab.run lay [2] ?_;simp[e2,e4,e6,e64,e65,e66,t4,aS];exact .less (fin _) (.done h)
     . rw[show decide (ak (S6 f n) []≠[])=true by simp[hw]]
       rw[show Te f n=[aF (S6 f n),int 0]by simp[Te,hw]]at h
       refine ab.run lay [2] ?_;simp[e2,e4,e6,e64,e65,e66,t2,t4,aS];exact .less (fin _) (.done h)
end AD
end Go.Proofs.YtalogdafegmilaaGreatDoor
namespace Go.Proofs.YtalogdafegmilaaGreatDoor
open Go.aN Go.Conc
set_option maxHeartbeats 2000000
set_option maxRecDepth 4000
variable{m:Mo}{σ:aa}{KF:cL->aa->Prop}
theorem TD{r:List (List Int)}(hr:r.length<1152921504606846976)(hl:∀l∈r,l.length<1152921504606846976)(h:KF (.val (bool true)) σ):aA Tryz.prog m 73 [rows r,rows r] σ KF:=by
 refine aA.start lay [] Ua 2 Tryz.func73 rfl rfl (by rfl) (by kernel_rfl) ?_;simp[Tryz.f73];refine ab.loop r.length (λi s=>∃env,s=⟨env,σ,[],.no⟩/\env 0=rows r/\env 1=rows r/\env 5=int i) ⟨_,rfl,by simp,by simp,by simp⟩ ?_;rintro c0 i _ hi ⟨env,rfl,e0,e1,e5⟩ ih;rcases Nat.lt_or_ge i r.length with g1|g1
 . have g1':(i:Int)<r.length:=by omega
   have f1:-9223372036854775808<=(i:Int)+1/\(i:Int)+1<=9223372036854775807:=by omega
   refine ab.run lay [] ?_;simp[e0,e1,e5,g1,g1'];refine aq Tryz.func24 rfl rfl (oi (hl _ (List.getElem_mem g1)) (hl _ (List.getElem_mem g1)) ?_);refine bm.go lay [] ?_;simp[e0,e1,e5];refine ab.run lay [] ?_;simp[e0,e1,e5,f1.1,f1.2];exact ih _ g1 ⟨_,rfl,by simp[e0,e1,e5],by simp[e0,e1,e5],by simp⟩
 . have n1:¬(i:Int)<r.length:=by omega
   refine ab.run lay [] ?_;simp[e0,e1,e5,n1];exact .done h
theorem Tn{e:lP}(hm:e.marks.length<1152921504606846976)(h:KF (.val (bool true)) σ):aA Tryz.prog m 74 [dt e,dt e] σ KF:=by
 refine aA.start lay [] [] 2 Tryz.func74 rfl rfl (by rfl) (by kernel_rfl) ?_;simp[Tryz.f74];refine aq Tryz.func24 rfl rfl (oi hm hm ?_);refine ab.run lay [] ?_;simp;exact .done h
theorem Tz{f:Fr}(hf:f.Fits)(h:KF (.val (bool true)) σ):aA Tryz.prog m 42 [aF f,aF f] σ KF:=by
 have hel:=hf.az;refine aA.start lay [] T9 2 Tryz.func42 rfl rfl (by rfl) (by kernel_rfl) ?_;simp[Tryz.f42];refine aq Tryz.func73 rfl rfl (TD hf.roads hf.row ?_);refine ab.run lay [] ?_;simp;refine wW lay K1 pQ rfl (a:=f.bM) (b:=f.jn) (c:=f.bM) (d:=f.jn) (r:=false) rfl (by simp) (by simp) (.inr ⟨rfl,by simp⟩) ?_;refine ab.run lay [] ?_;simp;refine ab.loop f.az.length (λi s=>∃env,s=⟨env,σ,[],.no⟩/\env 2=.cp (aF f) 0/\env 3=.cp (aF f) 0/\env 5=int i) ⟨_,rfl,by simp,by simp,by simp⟩ ?_;rintro c0 i _ hi ⟨env,rfl,e2,e3,e5⟩ ih;rcases Nat.lt_or_ge i f.az.length with g1|g1
 . have g1':(i:Int)<f.az.length:=by omega
   have f1:-9223372036854775808<=(i:Int)+1/\(i:Int)+1<=9223372036854775807:=by omega
   refine ab.run lay [] ?_;simp[e2,e3,e5,g1,g1'];refine aq Tryz.func74 rfl rfl (Tn (hf.marks _ (List.getElem_mem g1)) ?_);refine bm.go lay [] ?_;simp[e2,e3,e5];refine ab.run lay [] ?_;simp[e2,e3,e5,f1.1,f1.2];exact ih _ g1 ⟨_,rfl,by simp[e2,e3,e5],by simp[e2,e3,e5],by simp⟩
 . have n1:¬(i:Int)<f.az.length:=by omega
   refine ab.run lay [] ?_;simp[e2,e3,e5,n1];exact .done h
namespace WI
abbrev Uc:List Entry:=[⟨1,.take [1,4,7] false (.both 0 (.both 2 (.both 3 (.one 5 (.one 6 (.one 8 (.done)))) (.one 5 (.one 3 (.one 6 (.one 8 (.done)))))) (.one 5 (.one 2 (.one 3 (.one 6 (.one 8 (.done))))))) (.both 2 (.both 0 (.both 3 (.one 5 (.one 6 (.one 8 (.done)))) (.one 5 (.one 3 (.one 6 (.one 8 (.done)))))) (.one 5 (.one 0 (.one 3 (.one 6 (.one 8 (.done))))))) (.one 5 (.both 0 (.one 2 (.one 3 (.one 6 (.one 8 (.done))))) (.one 2 (.one 0 (.one 3 (.one 6 (.one 8 (.done))))))))))⟩]
theorem TY{f:Fr}{n:lP}(h6:f.az.length<=1000)(h:KF (.val (aF (S6 f n))) σ):aA Tryz.prog m 41 [aF f,dt n] σ KF:=by
 refine aA.start lay [2] Uc 2 Tryz.func41 rfl rfl (by rfl) (by kernel_rfl) ?_
 simp[Tryz.f41];refine cT.intro λc2 h2=>?_
 simp;refine cT.intro λc4 h4=>?_
 obtain⟨z1,z2,h4⟩:=aa.aO h4;simp[z1,z2,aa.ai];generalize hsb:(σ.set c2 (.cells (eP f))).set c4 (.cells [AV.lit (.slice none 0 0),.lit (.slice none 0 0),int 0,int 0,int 0,int 0])=sb;have b2:sb c2=some (.cells (eP f)):=by subst hsb;simp[aa.ai,aa.ao,z1,z2]
 have b4:sb c4=some (.cells [AV.lit (.slice none 0 0),.lit (.slice none 0 0),int 0,int 0,int 0,int 0]):=by subst hsb;simp[aa.ao]
 apply Dm (I:=λenv σ'=>∃a2 σ3,env 2=.ref c2 0/\env 4=.ref c4 0/\σ'=σ3.set c2 (.cells [a2,rows f.roads,int f.bM,int f.jn,int f.dR,int f.most])/\Tok sb σ3 a2 6 (f.az.map dt++[dt n]))
 . intro hrest
   repeat' (first
             |apply And.intro
             | (refine aM lay rfl rfl rfl sB rfl sB rfl CR (by decide) (by simp;omega) (σ0:=sb) (es:=[]) (xs:=f.az.map dt) ⟨aa.le_refl _,.inr (.inl rfl)⟩ (.inr ⟨_,by simp;rfl⟩) λa1 σ2 ht1=>?_
                have hc1:=ht1.cells;have p2:=ht1.1 _ _ b2;refine bm.go lay [] ?_;simp[hc1.1,hc1.2,p2];refine aM lay rfl rfl rfl sB rfl sB rfl CR (by decide) (by simp;omega) (σ0:=sb) (es:=f.az.map dt) (xs:=[dt n]) (by simpa using ht1) (.inr ⟨_,by simp;rfl⟩) λa2 σ3 ht2=>?_
                have hc2:=ht2.cells;have p3:=ht2.1 _ _ b2;refine bm.go lay [] ?_;simp[hc2.1,hc2.2,p3,aS];exact hrest _ _ ⟨a2,σ3,by simp,by simp,rfl,by simpa using ht2⟩))
 rintro env σ' ⟨a2,σ3,e2,e4,rfl,ht2⟩
 have hc2:=ht2.cells;have p4:=ht2.1 _ _ b4;refine ab.run lay [2] ?_;simp[e2,e4,hc2.1,hc2.2,p4,aa.ai,z1,aS];refine .nC (a':=aF (S6 f n)) (rS rfl λi u v x1 x2=>?_) (.less (λy x hy=>?_) (.done h))
 . match i with
   |0=>obtain rfl:=Option.some.inj x1;obtain rfl:=Option.some.inj x2;have:=ht2.W;show a2.W (.sl 6 ((f.az++[n]).map dt) .any);rw[List.map_append];exact this
   |1=>simp at x1 x2;subst x1;subst x2;exact .refl _
   |2=>simp at x1 x2;subst x1;subst x2;exact .refl _
   |3=>simp at x1 x2;subst x1;subst x2;exact .refl _
   |4=>simp at x1 x2;subst x1;subst x2;exact .refl _
   |5=>simp at x1 x2;subst x1;subst x2;exact .refl _
   |i+6=>simp at x1
 . have y2:y≠c2:=λe=>by subst e;rw[h2]at hy;cases hy
   have y4:y≠c4:=λe=>by subst e;rw[h4]at hy;cases hy
   rw[aa.ai _ _ y4,aa.ai _ _ y2];refine ht2.1 _ _ ?_;rw[<-hsb,aa.ai _ _ y4,aa.ai _ _ y2];exact hy
end WI
end Go.Proofs.YtalogdafegmilaaGreatDoor
namespace Go.Proofs.YtalogdafegmilaaGreatDoor
open Go.aN Go.Conc
set_option maxHeartbeats 2000000
set_option maxRecDepth 4000
variable{m:Mo}{σ:aa}{KF:cL->aa->Prop}
def TA:Nat->Code->Code
 |0,c=>c
 |k+1,.seq _ c=>TA k c
 |_+1,c=>c
theorem TR(hs:m.solo=true){nums:List Int}(hn:nums.length<1152921504606846976)(h:KF (.val (bool true)) σ):gq Tryz.prog lay m 12 [ints nums] σ KF:=by
 refine gq.start lay [] T7 1 Tryz.func12 rfl rfl (by rfl) (by kernel_rfl) ?_
 simp[Tryz.f12];refine aq Tryz.func13 rfl rfl (kv λc σ1 hc hb hsame=>?_)
 refine ab.run lay [] ?_;simp;refine aq Tryz.func25 rfl rfl (lX (by omega) hn ⟨by omega,by omega⟩ hb λf ks σ2 hf hd=>?_)
 refine ab.run lay [] ?_;simp;refine cT.intro λd hd3=>?_
 have hcd:c≠d:=λe=>by subst e;obtain⟨_,_,_,q⟩:=hd.1;rw[q]at hd3;cases hd3
 have hg:=hf.jw;have hfit:=hg.fits;have hchk:=hg.Ng;have h6:=hg.pi;have h4:=hf.len;have hway:=hf.ways;have hlen:=fa hg [];have hsp:=hf.ew
 have hbA:∀x,bZ c nums 500 (σ2.set d x):=λx=>by obtain⟨nz,z,q1,q2⟩:=hd.1;exact⟨nz,z,by omega,by rw[aa.ai _ _ hcd];exact q2⟩
 have hr1:1<=(f.roads.length:Int):=by
  have:=hg.Lu;unfold i6 at this;split at this
  . cases this
  . omega
 simp;refine aq Tryz.func38 rfl rfl (nc (by omega) hn ⟨by omega,by omega⟩ (hbA _) λe σ3 he hd4=>?_)
 have td:σ3 d=some (.cells (eP f)):=by rw[hd4.2 d (Ne.symm hcd),aa.ao]
 obtain⟨n0,hn0⟩:∃n0:lP,n0=⟨e.hour,e.place,(f.az.getD 0 qt).cS,e.marks,e.aX,e.iS⟩:=⟨_,rfl⟩;apply Dm (todo:=[.code (TA 5 (Tryz.f12.body.getD .skip))]) (P:=Tryz.prog) (m:=m) (fid:=12) (n:=119) (ro:=none) (hold:=T7) (D:=[]) (rc:=.no) (K:=KC lay [.tmp 2] (nB KF)) (I:=λenv σ'=>∃d6 n,env 4=.ref d 0/\env 6=.ref d6 0/\d6≠d/\σ d6=none/\σ' d=some (.cells (eP f))/\σ' d6=some (.cells [int n.hour,int n.place,int n.cS,ints n.marks,int n.aX,int n.iS])/\(∀y,y≠c->y≠d6->σ' y=σ3 y)/\(n=e\/(f.az≠[]/\n=n0)))
 . intro hrest
   have hb3:=hd4.1
   have fresh:∀d6,σ3 d6=none->d6≠c/\d6≠d/\σ d6=none:=λd6 h6'=>by
    have a1:d6≠c:=λe=>by subst e;obtain⟨_,_,_,q⟩:=hb3;rw[q]at h6';cases h6'
    have a2:d6≠d:=λe=>by subst e;rw[td]at h6';cases h6'
    refine⟨a1,a2,?_⟩;rw[hd4.2 d6 a1,aa.ai _ _ a2,hd.2 d6 a1,hsame d6 a1]at h6';exact h6'
   by_cases hz:f.az=[]
   . refine ab.runN lay [] 17 ?_
     simp[td,hz];refine cT.intro λd6 h6'=>?_
     obtain⟨a1,a2,a3⟩:=fresh d6 h6';simp[td,hz,aa.ai,Ne.symm a2];refine hrest _ _ ?_;exact⟨d6,e,by simp,by simp,a2,a3,by rw[aa.ai _ _ (Ne.symm a2)];exact td,aa.ao _ _ _,λy y1 y2=>aa.ai _ _ y2,.inl rfl⟩
   . have hz1:0<f.az.length:=List.length_pos_iff.2 hz
     obtain⟨e0,he0⟩:∃e0,e0=f.az[0]:=⟨_,rfl⟩;have hgd0:(f.az.getD 0 qt).cS=e0.cS:=by rw[List.getD_eq_getElem?_getD,List.getElem?_eq_getElem hz1,he0];rfl
     refine ab.run lay [] ?_;simp[td,hz,hz1];refine cT.intro λd6 h6'=>?_
     obtain⟨a1,a2,a3⟩:=fresh d6 h6'
     have hbO:∀X,bZ c nums 511 (σ3.set d6 X):=λX=>by obtain⟨nz,z,q1,q2⟩:=hb3;exact⟨nz,z,by omega,by rw[aa.ai _ _ (Ne.symm a1)];exact q2⟩
     simp[td,hz,hz1,aa.ai,Ne.symm a2];refine aq Tryz.func39 rfl rfl (Ef (by omega) hn ⟨by omega,by omega⟩ (hbO _) λbb σ4 hd5=>?_)
     have t6:=hd5.2 d6 a1;rw[aa.ao]at t6;have t4:=hd5.2 d (Ne.symm hcd);rw[aa.ai _ _ (Ne.symm a2),td]at t4;cases bb
     . refine ab.runN lay [] 4 ?_
       simp;refine hrest _ _ ?_;exact⟨d6,e,by simp,by simp,a2,a3,t4,t6,λy y1 y2=>by rw[hd5.2 y y1,aa.ai _ _ y2],.inl rfl⟩
     . refine ab.runN lay [] 12 ?_
       simp[t4,t6,hz1,aS,<-he0];refine hrest _ _ ?_;exact⟨d6,n0,by simp,by simp,a2,a3,by rw[aa.ai _ _ (Ne.symm a2)];exact t4,by rw[aa.ao,hn0,hgd0],λy y1 y2=>by rw[aa.ai _ _ y2,hd5.2 y y1,aa.ai _ _ y2],.inr ⟨hz,rfl⟩⟩
 rintro env σ' ⟨d6,n,e4,e6,nd6,hσ6,q4,q6,hk,hn4⟩
 have hnk:cI f.roads.length n=0/\n.marks.length<=3:=by
  have he3:=(kJ he.marks).2
  rcases hn4 with rfl|⟨hne,rfl⟩
  . exact⟨he.check,he3⟩
  . obtain⟨a,r,ha⟩:∃a r,f.az=a::r:=by
     cases q:f.az with
     |nil=>exact absurd q hne
     |cons a r=>exact⟨a,r,rfl⟩
    have hca:=tv (hg.Bp a (by rw[ha];simp))
    have hco:0<=(f.az.getD 0 qt).cS/\(f.az.getD 0 qt).cS<=5:=by rw[ha];exact hca.2.2.1
    rw[hn0];refine⟨?_,he3⟩;have:=he.check;unfold cI dv at this ⊢;simp only[hco.1,hco.2];obtain⟨h1,h2,h3,h4,h5,h6⟩:=he;simpa[h3.1,show e.cS<=5 by omega]using this
 have hσd:σ d=none:=by
  cases e:σ d with
  |none=>rfl
  |some x=>have y1:d≠c:=Ne.symm hcd;rw[hd.2 d y1,hsame d y1,e]at hd3;cases hd3
 refine ab.cZ 4 (b:=d) (aF f) q4 e4 rfl ?_;refine ab.cZ 6 (b:=d6) (dt n) (by simp only[aa.del,nd6,if_false];exact q6) (by simp[e6]) rfl ?_
 refine ab.weaken (σ:=σ) ?_ (λy v hy=>by
  have y1:y≠c:=λe=>by subst e;rw[hc]at hy;cases hy
  have y2:y≠d:=λe=>by subst e;rw[hσd]at hy;cases hy
  have y3:y≠d6:=λe=>by subst e;rw[hσ6]at hy;cases hy
  simp only[aa.del,y2,y3,if_false];rw[hk y y1 y3,hd4.2 y y1,aa.ai _ _ y2,hd.2 y y1,hsame y y1];exact hy)
 have hg':=TF hg hnk.1 (by have:=hnk.2;omega) (by omega)
 have hl':(S6 f n).az.length=f.az.length+1:=by simp[S6]
 have hlen':=fa hg' [];have hb1:=fa hg' [0,0];have hb2:=fa hg' [0,1];clear td hd4 hbA hk q4 q6 hd3 hd hb hsame;refine ab.run lay [] ?_;simp[Tryz.f12,TA];refine aq Tryz.func40 rfl rfl (AD.T6 hs hfit hchk (by omega) hnk.1 (by have:=hnk.2;omega) (λe he=>by have:=hf.marks e he;omega) (λr hr=>by have:=hf.row r hr;omega) (by omega) hway ?_)
 by_cases hw':ak (S6 f n) []=[]
 . rw[show Te f n=[.agg Ti,int 9]by simp[Te,hw']]
   refine ab.run lay [] ?_;simp;refine cT.intro λc7 h7=>?_
   simp;refine aq Tryz.func41 rfl rfl (WI.TY (by omega) ?_)
   refine ab.run lay [] ?_;simp;refine aq Tryz.func18 rfl rfl (z8 hs hg'.fits hg'.Ng ⟨by omega,by omega⟩ ?_)
   rw[rV hg',hw'];refine ab.run lay [] ?_;simp;refine aq Tryz.func20 rfl rfl (ip hs ?_);refine ab.run lay [] ?_;simp;refine .less (λy v hy=>?_) (.done h)
   rw[aa.ai _ _ (λe=>by subst e;rw[h7]at hy;cases hy)];exact hy
 . rw [show Te f n=[aF (S6 f n),int 0]by simp[Te,hw']]
   have hL':0<(ak (S6 f n) []).length:=List.length_pos_iff.2 hw';refine ab.runN lay [] 7 ?_;simp;refine cT.intro λc7 h7=>?_
   simp;refine ab.cZ 7 (b:=c7) (aF (S6 f n)) (by simp) (by simp) rfl ?_
   refine ab.weaken (σ:=σ) ?_ (λy v hy=>by
    have:y≠c7:=λe=>by subst e;rw[h7]at hy;cases hy
    simp only[aa.del,this,if_false,aa.ai _ _ this];exact hy)
   refine ab.run lay [] ?_;simp;refine aq Tryz.func41 rfl rfl (WI.TY (by omega) ?_)
   refine bm.go lay [] ?_;simp;refine aq Tryz.func42 rfl rfl (Tz hg'.fits ?_);refine bm.go lay [] ?_;simp;refine ab.run lay [] ?_;simp;refine ab.loop f.az.length (λi s=>∃env,s=⟨env,σ,[],.no⟩/\env 4=.cp (aF f) 0/\env 7=.cp (aF (S6 f n)) 0/\env 11=int i) ⟨_,rfl,by simp,by simp,by simp⟩ ?_
   clear e4 e6
   rintro c0 i _ hi ⟨env,rfl,e4,e7,aI⟩ ihi
   rcases Nat.lt_or_ge i f.az.length with g1|g1
   . have g1':(i:Int)<f.az.length:=by omega
     have f1:-9223372036854775808<=(i:Int)+1/\(i:Int)+1<=9223372036854775807:=by omega
     refine ab.run lay [] ?_;simp[e4,e7,aI,g1,g1'];refine ab.loop i (λk s=>∃env,s=⟨env,σ,[],.no⟩/\env 4=.cp (aF f) 0/\env 7=.cp (aF (S6 f n)) 0/\env 11=int i/\env 12=int k) ⟨_,rfl,by simp[e4,e7,aI],by simp[e4,e7,aI],by simp[e4,e7,aI],by simp⟩ ?_
     clear e4 e7 aI
     rintro c1 k _ hk ⟨env,rfl,e4,e7,aI,bh⟩ ihk
     rcases Nat.lt_or_ge k i with g2|g2
     . have ns:(k:Int)<i:=by omega
       have f2:-9223372036854775808<=(k:Int)+1/\(k:Int)+1<=9223372036854775807:=by omega
       have hsay:=T0 hg hg' hL' (i:=i) (k:=k) g1 (by omega)
       obtain⟨v,hv⟩:∃v,v=fy (ak f []) i k:=⟨_,rfl⟩;obtain⟨w,hw⟩:∃w,w=fy (ak (S6 f n) []) i k:=⟨_,rfl⟩;rw[<-hv,<-hw]at hsay;refine ab.run lay [] ?_;simp[e4,e7,aI,bh,ns];refine aq Tryz.func27 rfl rfl (jr hs hfit hchk ⟨by omega,by omega⟩ ⟨by omega,by omega⟩ hway (by omega) ?_)
       rw[show aL (((ak f []).filter (aC i k)).length:Int) (ak f []).length=v from hv.symm]
       refine ab.run lay [] ?_;simp[e4,e7,aI,bh];refine aq Tryz.func27 rfl rfl (jr hs hg'.fits hg'.Ng ⟨by omega,by omega⟩ ⟨by omega,by omega⟩ hw' (by omega) ?_)
       rw[show aL (((ak (S6 f n) []).filter (aC i k)).length:Int) (ak (S6 f n) []).length=w from hw.symm]
       by_cases q:v=3
       . have q1:(v !=3)=false:=by simp[q]
         refine ab.run lay [] ?_;simp[e4,e7,aI,bh,q1,f2.1,f2.2];exact ihk _ g2 ⟨_,rfl,by simp[e4,e7,aI,bh],by simp[e4,e7,aI,bh],by simp[e4,e7,aI,bh],by simp⟩
       . have q1:(v !=3)=true:=by simp[q]
         have q2:(w !=v)=false:=by rw[hsay q];simp
         refine ab.run lay [] ?_;simp[e4,e7,aI,bh,q1,q2,f2.1,f2.2];exact ihk _ g2 ⟨_,rfl,by simp[e4,e7,aI,bh],by simp[e4,e7,aI,bh],by simp[e4,e7,aI,bh],by simp⟩
     . have n2:¬(k:Int)<i:=by omega
       refine ab.run lay [] ?_;simp[e4,e7,aI,bh,n2,f1.1,f1.2];exact ihi _ g1 ⟨_,rfl,by simp[e4,e7,aI,bh],by simp[e4,e7,aI,bh],by simp⟩
   . have n1:¬(i:Int)<f.az.length:=by omega
     refine ab.run lay [] ?_;simp[e4,e7,aI,n1,g1];refine aq Tryz.func20 rfl rfl (ip hs ?_);refine ab.run lay [] ?_;simp[e4,e7,aI];exact .done h
end Go.Proofs.YtalogdafegmilaaGreatDoor

/- Part 2 of the proof. -/
import Derived.Test.YtalogdafegmilaaGreatDoorQ1
set_option linter.all false
namespace Go.Proofs.YtalogdafegmilaaGreatDoor
open Go.aN
abbrev T8:List Entry:=[⟨1,.take [0,1,3,4,5,6,7,8] false (.both 2 (.both 9 (.one 10 (.one 11 (.done))) (.one 10 (.one 9 (.one 11 (.done))))) (.one 10 (.one 2 (.one 9 (.one 11 (.done))))))⟩,⟨5,.take [0,2,3,4,5,6,10] false (.both 1 (.one 7 (.one 8 (.one 9 (.one 11 (.done))))) (.one 7 (.both 1 (.one 8 (.one 9 (.one 11 (.done)))) (.one 8 (.take [1] true (.one 9 (.one 11 (.done))))))))⟩]
end Go.Proofs.YtalogdafegmilaaGreatDoor
namespace Go.Proofs.YtalogdafegmilaaGreatDoor
open Go.aN Go.Conc
set_option maxHeartbeats 1000000
variable {m:Mo} {σ:aa} {KF:cL->aa->Prop}
theorem nP {l:List Int} (hl:l.length≤1000000000) (h:∀ a σ',bG σ σ' a 1 (l.map int)->KF (.val a) σ'):aA Tryz.prog m 75 [ints l] σ KF:=by
 refine aA.start lay [] [] 1 Tryz.func75 rfl rfl (by rfl) (by kernel_rfl) ?_
 simp[Tryz.f75];refine gf lay rfl rfl rfl cA rfl cA rfl pQ (by decide) (by simp;omega) (σ0:=σ) (es:=[]) (xs:=l.map int) (.empty σ 1) (.inl (.inr ⟨_,rfl⟩)) (by simp) fun a' σ' ht=>?_
 refine ab.run lay [] ?_;simp;exact .done (h _ _ (by simpa using ht))
theorem Tu {l:List Int} (hl:l.length≤1000000000) (h:KF (.val (ints l)) σ):aA Tryz.prog m 75 [ints l] σ KF:=
 (nP hl fun a σ' ht=>ht.thaw h).thaw
end Go.Proofs.YtalogdafegmilaaGreatDoor
namespace Go.Proofs.YtalogdafegmilaaGreatDoor
open Go.aN Go.Conc
set_option maxHeartbeats 2000000
set_option maxRecDepth 4000
variable {m:Mo} {σ:aa} {KF:cL->aa->Prop}
section
variable {c k:Nat} {nums:List Int}
theorem Eu {cnt:Int} (hk:k+20+11*cnt.toNat<1000000) (hn:nums.length<1152921504606846976) (hcnt:0≤cnt∧cnt≤1000) (hb:bZ c nums k σ) (h:∀ (f:Fr) σ',pR cnt f->pS c nums (k+20+11*cnt.toNat) σ σ'->KF (.val (aF f)) σ'):aA Tryz.prog m 14 [.ref c 0,int cnt] σ KF:=by
 refine aA.thaw (uI hk hn hcnt hb fun f a σ' hf hd ha=>?_)
 by_cases e:f.az=[]
 . obtain rfl:=ha.1 e
   refine .nC (a':=aF f) (rS rfl fun i x y x1 x2=>?_) (.done (h f σ' hf hd))
   match i with
   | 0=>simp at x1 x2;subst x1;subst x2;rw[e];exact fT 6
   | 1=>simp at x1 x2;subst x1;subst x2;exact .refl _
   | 2=>simp at x1 x2;subst x1;subst x2;exact .refl _
   | 3=>simp at x1 x2;subst x1;subst x2;exact .refl _
   | 4=>simp at x1 x2;subst x1;subst x2;exact .refl _
   | 5=>simp at x1 x2;subst x1;subst x2;exact .refl _
   | i+6=>simp at x1
 . obtain rfl:=ha.2 e
   exact .done (h f σ' hf hd)
end
end Go.Proofs.YtalogdafegmilaaGreatDoor
namespace Go.Proofs.YtalogdafegmilaaGreatDoor
open Go.aN Go.Conc
set_option maxHeartbeats 2000000
set_option maxRecDepth 4000
def LL (low top:Int):List Int:=(List.range (top+1-low).toNat).map fun i:Nat=>low+i
def iv (i:Nat) (l:List Int):Int:=if i=0 then 0 else l.getD (i-1) 0+1
def tX (n k:Int) (i:Nat) (l:List Int):List (List Int):=(LL (iv i l) (n-k+i)).map fun y=>l ++ [y]
def iT (n k:Int):Nat->List (List Int)
 | 0=>[[]]
 | i+1=>(iT n k i).flatMap (tX n k i)
def fh (n:Int) (k:Nat):List (List Int):=iT n k k
structure Ev (n:Int) (i:Nat) (l:List Int):Prop where
 len:l.length=i
 mem:∀ x∈l,0≤x∧x<n
 LG:∀ a b,a<b->b<i->l.getD a 0<l.getD b 0
theorem sZ {n k:Int}:∀ (i:Nat),(i:Int)≤k->∀ l∈iT n k i,Ev n i l
 | 0,_,l,hl=>by
   simp[iT] at hl;subst hl;exact⟨rfl,by simp,fun a b h1 h2=>by omega⟩
 | i + 1,hi,l,hl=>by
   unfold iT at hl;obtain⟨p,hp,hq⟩:=List.mem_flatMap.1 hl;have hA:=sZ i (by omega) p hp
   unfold tX at hq;obtain⟨y,hy,rfl⟩:=List.mem_map.1 hq;unfold LL at hy;obtain⟨t,ht,rfl⟩:=List.mem_map.1 hy;have ht:=List.mem_range.1 ht
   have hlow:0≤iv i p∧∀ a,a<i->p.getD a 0<iv i p:=by
    unfold iv;split
    . exact⟨by omega,fun a h=>by omega⟩
    . next h0=>
      have hlt:i-1<p.length:=by rw[hA.len];omega
      have hm:p.getD (i-1) 0∈p:=by
       rw[List.getD_eq_getElem?_getD,List.getElem?_eq_getElem hlt];exact List.getElem_mem hlt
      have:=hA.mem _ hm;refine⟨by omega,fun a ha=>?_⟩
      by_cases e:a=i-1
      . subst e;omega
      . have:=hA.LG a (i-1) (by omega) (by omega);omega
   have hlen:=hA.len;refine⟨by simp[hlen],fun x hx=>?_,fun a b hab hb=>?_⟩
   . rcases List.mem_append.1 hx with hx|hx
     . exact hA.mem x hx
     . simp at hx;subst hx;omega
   . by_cases e:b=i
     . subst e
       have e1:(p ++ [iv b p+t]).getD b 0=iv b p+t:=by
        rw[List.getD_eq_getElem?_getD,List.getElem?_append_right (by omega),hlen];simp
       have e2:(p ++ [iv b p+t]).getD a 0=p.getD a 0:=by
        rw[List.getD_eq_getElem?_getD,List.getElem?_append_left (by omega),← List.getD_eq_getElem?_getD]
       rw[e1,e2];have:=hlow.2 a hab;omega
     . have e1:(p ++ [iv i p+t]).getD b 0=p.getD b 0:=by
        rw[List.getD_eq_getElem?_getD,List.getElem?_append_left (by omega),← List.getD_eq_getElem?_getD]
       have e2:(p ++ [iv i p+t]).getD a 0=p.getD a 0:=by
        rw[List.getD_eq_getElem?_getD,List.getElem?_append_left (by omega),← List.getD_eq_getElem?_getD]
       rw[e1,e2];exact hA.LG a b hab (by omega)
theorem Ul {n:Int} {k:Nat} {l:List Int} (h:l∈fh n k):Ev n k l:=sZ k (Int.le_refl _) l h
end Go.Proofs.YtalogdafegmilaaGreatDoor
namespace Go.Proofs.YtalogdafegmilaaGreatDoor
open Go.aN Go.Conc
set_option maxHeartbeats 1000000
set_option maxRecDepth 4000
def nX (n:Nat):Nat->Nat->List Int->List (List Int)
 | 0,_,out=>[out]
 | more+1,frm,out=>(List.range' frm (n-frm)).flatMap fun x:Nat=>nX n more (x+1) (out ++ [(x:Int)])
theorem xd (f:Fr):∀ (more frm:Nat) (out:List Int),fA f more frm out=(nX f.az.length more frm out).find? fun l=>decide (ak (cH f l) []≠[])
 | 0,frm,out=>by
   unfold fA nX
   by_cases h:ak (cH f out) []=[] <;> simp[h]
 | more+1,frm,out=>by
   unfold fA nX;rw[List.find?_flatMap];congr 1
   funext x
   exact xd f more (x+1) _
theorem ext_nil (n:Nat):∀ (more frm:Nat) (out:List Int),0<more->n<frm+more->nX n more frm out=[]
 | more+1,frm,out,_,h=>by
   unfold nX;rw[List.flatMap_eq_nil_iff];intro x hx;obtain⟨h1,h2⟩:=List.mem_range'_1.1 hx;cases more with
   | zero=>omega
   | succ more=>exact ext_nil n (more+1) (x+1) _ (by omega) (by omega)
theorem Af (n:Nat):∀ (more frm:Nat) (out:List Int),frm+more≤n->out ++ (List.range' frm more).map (fun x:Nat=>(x:Int))∈nX n more frm out
 | 0,frm,out,_=>by simp[nX]
 | more+1,frm,out,h=>by
   unfold nX;refine List.mem_flatMap.2 ⟨frm,List.mem_range'_1.2 (by omega),?_⟩
   have:=Af n more (frm+1) (out ++ [(frm:Int)]) (by omega)
   rw[List.range'_succ,List.map_cons];simpa using this
theorem JR {n k i:Nat} {l:List Int} (hk:k≤n) (hi:i<k) (hA:Ev n i l):nX n (k-i) (iv i l).toNat l=(tX n k i l).flatMap fun l'=>nX n (k-(i+1)) (iv (i+1) l').toNat l':=by
 obtain⟨more,hm⟩:∃ more,k-i=more+1:=⟨k-i-1,by omega⟩
 have hm':k-(i+1)=more:=by omega
 have hlen:=hA.len
 have hlow:0≤iv i l∧iv i l≤n:=by
  unfold iv;split
  . omega
  . next h0=>
    have hlt:i-1<l.length:=by omega
    have hmem:l.getD (i-1) 0∈l:=by rw[List.getD_eq_getElem?_getD,List.getElem?_eq_getElem hlt];exact List.getElem_mem hlt
    have:=hA.mem _ hmem;omega
 obtain⟨lo,hlo⟩:∃ lo:Nat,iv i l=(lo:Int):=⟨(iv i l).toNat,by omega⟩
 unfold tX LL;rw[hm,hm',hlo,Int.toNat_natCast];rw[hlo] at hlow;obtain⟨cnt,hcnt⟩:∃ cnt:Nat,((n:Int)-k+i+1-lo).toNat=cnt:=⟨_,rfl⟩;rw[hcnt,List.map_map,List.flatMap_map,show nX n (more+1) lo l=(List.range' lo (n-lo)).flatMap fun x:Nat=>nX n more (x+1) (l ++ [(x:Int)]) from rfl]
 rw[List.range'_eq_map_range,List.flatMap_map];obtain⟨d,hd⟩:∃ d,n-lo=cnt+d:=⟨n-lo-cnt,by omega⟩
 rw[hd,p9 d fun j h1 h2=>?_]
 . refine oP fun j hj=>?_
   have:iv (i+1) (l ++ [(lo:Int)+(j:Int)])=(lo:Int)+j+1:=by
    unfold iv;rw[if_neg (by omega),List.getD_eq_getElem?_getD,List.getElem?_append_right (by omega)]
    simp[hlen]
   simp only[Function.comp];rw[this,show ((lo:Int)+j+1).toNat=lo+j+1 by omega,show ((lo+j:Nat):Int)=(lo:Int)+j by omega]
 . cases more with
   | zero=>omega
   | succ more=>exact ext_nil n (more+1) _ _ (by omega) (by omega)
theorem uT {n k:Nat} (hk:k≤n):∀ i:Nat,i≤k->nX n k 0 []=(iT n k i).flatMap fun l=>nX n (k-i) (iv i l).toNat l
 | 0,_=>by simp[iT,iv]
 | i+1,hi=>by
   rw[uT hk i (by omega),iT,List.flatMap_assoc]
   exact oP fun l hl=>JR hk (by omega) (sZ i (by omega) l hl)
theorem s8 {n k:Nat} (hk:k≤n):fh n k=nX n k 0 []:=by
 rw[uT hk k (Nat.le_refl _)];unfold fh;simp[nX]
abbrev lQ (f:Fr) (l:List Int):Bool:=decide (ak (cH f l) []≠[])
theorem uU (f:Fr):ly f=(List.range' 0 (f.az.length+1)).findSome? fun many=>(fh f.az.length many).find? (lQ f):=by
 unfold ly
 have:∀ (l:List Nat),(∀ x∈l,x≤f.az.length)->(l.findSome? fun many=>fA f many 0 [])=l.findSome? fun many=>(fh f.az.length many).find? (lQ f):=fun l=>by
  induction l with
  | nil=>intro _;rfl
  | cons a l ih=>
    intro h;rw[List.findSome?_cons,List.findSome?_cons,xd,s8 (h a (by simp)),ih fun x hx=>h x (by simp[hx])]
 exact this _ fun x hx=>by have:=List.mem_range'_1.1 hx;omega
theorem GH (l:List lP):lz l ((List.range' 0 l.length).map fun x:Nat=>(x:Int))=[]:=by
 unfold lz;rw[List.map_eq_nil_iff,List.filter_eq_nil_iff]
 rintro⟨e,i⟩ he
 have:=List.mem_zipIdx he;have hm:(i:Int)∈(List.range' 0 l.length).map (fun x:Nat=>(x:Int)):=List.mem_map.2 ⟨i,List.mem_range'_1.2 (by omega),rfl⟩
 simp only[hm];simp
theorem Ce (f:Fr):∃ w,ly f=some w:=by
 cases h:ly f with
 | some w=>exact⟨w,rfl⟩
 | none=>
   rw[uU,List.findSome?_eq_none_iff] at h;have h1:=h f.az.length (List.mem_range'_1.2 (by omega))
   rw[List.find?_eq_none] at h1;have h2:=Af f.az.length f.az.length 0 [] (by omega)
   rw[← s8 (Nat.le_refl _)] at h2;refine absurd ?_ (h1 _ h2);simp only[List.nil_append];unfold lQ cH;rw[GH];simp[ak,cV]
end Go.Proofs.YtalogdafegmilaaGreatDoor
namespace Go.Proofs.YtalogdafegmilaaGreatDoor
open Go.aN Go.Conc
set_option maxHeartbeats 1000000
set_option maxRecDepth 4000
variable {m:Mo} {σ:aa} {KF:cL->aa->Prop}
theorem TN {e:lP} (hl:e.marks.length≤1000000000) (h:KF (.val (dt e)) σ):aA Tryz.prog m 45 [dt e] σ KF:=by
 refine aA.start lay [1] [] 1 Tryz.func45 rfl rfl (by rfl) (by kernel_rfl) ?_
 simp[Tryz.f45];refine cT.intro fun c1 h1=>?_
 simp;refine cT.intro fun c2 h2=>?_
 obtain⟨z1,z2,h2⟩:=aa.aO h2;simp[z1,z2,aa.ai,aS];refine aq Tryz.func75 rfl rfl (Tu hl ?_);refine ab.run lay [1] ?_;simp[z1,z2,aa.ai,aS];refine .less (fun c x hx=>?_) (.done h)
 have n1:c≠c1:=fun e=>by subst e;rw[h1] at hx;cases hx
 have n2:c≠c2:=fun e=>by subst e;rw[h2] at hx;cases hx
 simp[aa.ai,n1,n2,hx]
abbrev Ti:List AV:=[.lit (.slice none 0 0),.lit (.slice none 0 0),int 0,int 0,int 0,int 0]
end Go.Proofs.YtalogdafegmilaaGreatDoor
namespace Go.Proofs.YtalogdafegmilaaGreatDoor
open Go.aN Go.Conc
set_option maxHeartbeats 1000000
set_option maxRecDepth 4000
theorem Uw {f:Fr} {w:List Int} (h:ly f=some w):w.length≤f.az.length:=by
 rw[uU] at h;obtain⟨many,hm,hf⟩:=List.exists_of_findSome?_eq_some h;have:=(Ul (List.mem_of_find?_eq_some hf)).len;have:=List.mem_range'_1.1 hm;omega
end Go.Proofs.YtalogdafegmilaaGreatDoor
namespace Go.Proofs.YtalogdafegmilaaGreatDoor
open Go.aN Go.Conc
set_option maxHeartbeats 1000000
set_option maxRecDepth 4000
variable {m:Mo} {σ:aa} {KF:cL->aa->Prop}
abbrev Uo:=Nat × Nat × List AV
def Ug (w:Uo) (l:List Int):AV:=.fZ w.1 0 l.length w.2.1
structure RowsIn (σ0 σ:aa) (b:Nat) (ws:List Uo) (M:List (List Int)):Prop where
 nd:(ws.map (·.1)).Nodup
 len:ws.length=M.length
 out:∀ w∈ws,w.1≠b∧σ0 w.1=none
 row:∀ (i:Nat) w l,ws[i]? = some w->M[i]? = some l->σ w.1=some (.cells (l.map int ++ w.2.2))∧l.length≤w.2.1∧w.2.2.length=w.2.1-l.length
theorem Us {r:List (List Int)} (hr:r.length≤1000000) (hl:∀ l∈r,l.length≤1000000000) (hne:∀ l∈r,l≠[]) (h:∀ b ws σ',σ b=none->σ.Le σ'->σ' b=some (.cells (List.zipWith Ug ws r))->RowsIn σ σ' b ws r->KF (.val (.fZ b 0 r.length r.length)) σ'):aA Tryz.prog m 44 [rows r] σ KF:=by
 refine aA.start lay [] [] 1 Tryz.func44 rfl rfl (by rfl) (by kernel_rfl) ?_
 simp[Tryz.f44];refine rt lay rfl jC rfl cA rfl (by decide) rfl rfl (n:=r.length) (by simp) (by simp) ⟨by omega,by omega⟩ fun b hb=>?_
 refine ab.run lay [] ?_;simp;refine ab.loop r.length (fun i s => ∃ env σ' ws,s=⟨env,σ',[],.no⟩∧env 0=rows r∧env 3 = .fZ b 0 r.length r.length∧env 4=int i∧σ.Le σ'∧σ' b=some (.cells (List.zipWith Ug ws (r.take i) ++ List.replicate (r.length-i) (.lit (.slice none 0 0))))∧RowsIn σ σ' b ws (r.take i)) ⟨_,_,[],rfl,by simp,by simp,by simp,aa.iU (aa.le_refl _) hb,by simp[aa.ao],⟨by simp,by simp,by simp,by simp⟩⟩ ?_
 rintro c0 i _ hi ⟨env,σ',ws,rfl,e0,e3,e4,hle,hcb,hws⟩ ih
 rcases Nat.lt_or_ge i r.length with g1|g1
 . have g1':(i:Int)<r.length:=by omega
   have f1 : -9223372036854775808≤(i:Int)+1∧(i:Int)+1≤9223372036854775807:=by omega
   refine ab.run lay [] ?_;simp[e0,e3,e4,hcb,g1];refine aq Tryz.func75 rfl rfl (nP (hl _ (List.getElem_mem g1)) fun a σ3 ht=>?_)
   have hlw:ws.length=i:=by rw[hws.len,List.length_take];omega
   obtain⟨htl,⟨hnil,_⟩|⟨c,cap,rest,rfl,h0,h1,h2,h3,h4⟩⟩:=ht
   . exact absurd (List.map_eq_nil_iff.1 hnil) (hne _ (List.getElem_mem g1))
   have hcb':c≠b:=fun e=>by rw[e,hcb] at h0;cases h0
   have hzl:(List.zipWith Ug ws (r.take i)).length=i:=by rw[List.length_zipWith,List.length_take,hlw];omega
   have k3:=htl _ _ hcb;have hsp:i+1≤i+(r.length-i):=by omega
   have hXl:(List.zipWith Ug ws (r.take i) ++ List.replicate (r.length-i) (AV.lit (.slice none 0 0))).length=r.length:=by rw[List.length_append,hzl,List.length_replicate];omega
   have hcell:(List.take i (List.zipWith Ug ws (r.take i) ++ List.replicate (r.length-i) (AV.lit (.slice none 0 0))) ++ AV.fZ c 0 r[i].length cap :: List.drop (i+1) (List.zipWith Ug ws (r.take i) ++ List.replicate (r.length-i) (AV.lit (.slice none 0 0))))=List.zipWith Ug (ws ++ [(c,cap,rest)]) (r.take (i+1)) ++ List.replicate (r.length-(i+1)) (.lit (.slice none 0 0)):=by
    obtain⟨q,hq⟩:∃ q,r.length-i=q+1:=⟨r.length-i-1,by omega⟩
    have hq':r.length-(i+1)=q:=by omega
    have e1:List.drop (i+1) (List.zipWith Ug ws (r.take i) ++ List.replicate (r.length-i) (AV.lit (.slice none 0 0)))=List.replicate q (.lit (.slice none 0 0)):=by
     rw[List.drop_append,List.drop_eq_nil_of_le (by omega),hzl,hq,Nat.add_sub_cancel_left]
     simp
    have e2:List.zipWith Ug (ws ++ [(c,cap,rest)]) (r.take (i+1))=List.zipWith Ug ws (r.take i) ++ [Ug (c,cap,rest) r[i]]:=by
     rw[List.take_succ_eq_append_getElem g1,List.zipWith_append (by rw[hlw,List.length_take];omega)]
     rfl
    rw[List.take_left' hzl,e1,e2,hq',List.append_assoc];rfl
   generalize hX:List.zipWith Ug ws (r.take i) ++ List.replicate (r.length-i) (AV.lit (.slice none 0 0))=X at hcb k3 hcell hXl;have hsp':i+1≤r.length:=by omega
   refine ab.run lay [] ?_;simp[e0,e3,e4,hcb,g1,f1.1,f1.2,aS,hsp',hXl,k3,hcell];rw[List.length_map] at h1 h4
   have hsub:∀ w∈ws,σ' w.1≠none:=fun w hw=>by
    obtain⟨j,hj,rfl⟩:=List.getElem_of_mem hw;have hj2:j<(r.take i).length:=by rw[← hws.len];exact hj
    rw[(hws.row j ws[j] (r.take i)[j] (by simp[hj]) (List.getElem?_eq_getElem hj2)).1]
    simp
   have hcw:∀ w∈ws,w.1≠c:=fun w hw e=>hsub w hw (by rw[e];exact h0)
   refine ih _ g1 ⟨_,_,ws ++ [(c,cap,rest)],rfl,by simp[e0,e3,e4,hcb],by simp[e0,e3,e4,hcb],by simp,fun y x hy=>?_,aa.ao _ _ _,?_⟩
   . have:y≠b:=fun e=>by rw[e,hb] at hy;cases hy
     rw[aa.ai _ _ this];exact htl _ _ (hle _ _ hy)
   . refine⟨?_,by rw[List.length_append,hws.len,List.length_take,List.length_take];simp;omega,fun w hw=>?_,fun j w l hw hl'=>?_⟩
     . rw[List.map_append,List.nodup_append]
       refine⟨hws.nd,by simp,fun x hx y hy e=>?_⟩
       obtain⟨w,hw,rfl⟩:=List.mem_map.1 hx;simp at hy;exact hcw w hw (e.trans hy)
     . rcases List.mem_append.1 hw with hw|hw
       . exact hws.out w hw
       . simp at hw
         subst hw;refine⟨hcb',?_⟩;cases hq:σ c with
         | none=>rfl
         | some x=>have:=hle _ _ hq;rw[h0] at this;cases this
     . rw [List.take_succ_eq_append_getElem g1] at hl'
       rcases Nat.lt_or_ge j i with q|q
       . rw[List.getElem?_append_left (by omega)] at hw
         rw[List.getElem?_append_left (by rw[List.length_take];omega)] at hl'
         have hwm:=List.mem_of_getElem? hw;obtain⟨p1,p2,p3⟩:=hws.row j w l hw hl';rw[aa.ai _ _ (hws.out w hwm).1];exact⟨htl _ _ p1,p2,p3⟩
       . have hj:j=i:=by
          have:=(List.getElem?_eq_some_iff.1 hw).1;rw[List.length_append,hlw] at this;simp at this;omega
         subst hj;rw[List.getElem?_append_right (by omega),hlw] at hw
         rw[List.getElem?_append_right (by rw[List.length_take];omega)] at hl'
         simp at hw;rw[List.length_take,Nat.min_eq_left (by omega)] at hl'
         simp at hl';subst hw hl';rw[aa.ai _ _ hcb'];refine⟨?_,h1,by simpa using h4⟩
         rw[h3,du (fun e he=>by obtain⟨x,_,rfl⟩:=List.mem_map.1 he;rfl)]
 . have hie:i=r.length:=by omega
   subst hie;refine ab.run lay [] ?_;simp[e0,e3,e4];rw[List.take_length] at hcb hws;exact .done (h b ws σ' hb hle (by simpa using hcb) hws)
end Go.Proofs.YtalogdafegmilaaGreatDoor
namespace Go.Proofs.YtalogdafegmilaaGreatDoor
open Go.aN Go.Conc
set_option maxHeartbeats 1000000
set_option maxRecDepth 4000
variable {m:Mo} {σ:aa} {KF:cL->aa->Prop}
theorem RowsIn.keep {σ0 σ σ':aa} {b:Nat} {ws:List Uo} {M:List (List Int)} (h:RowsIn σ0 σ b ws M) (hk:∀ w∈ws,∀ l,σ w.1=some (.cells l)->σ' w.1=some (.cells l)):RowsIn σ0 σ' b ws M:=
 ⟨h.nd,h.len,h.out,fun i w l hw hl=>by
   obtain⟨p1,p2,p3⟩:=h.row i w l hw hl;exact⟨hk w (List.mem_of_getElem? hw) _ p1,p2,p3⟩⟩
theorem RowsIn.base {σ0 σ1 σ:aa} {b:Nat} {ws:List Uo} {M:List (List Int)} (h:RowsIn σ1 σ b ws M) (h0:σ0.Le σ1):RowsIn σ0 σ b ws M:=
 ⟨h.nd,h.len,fun w hw=>⟨(h.out w hw).1,by
   cases hq:σ0 w.1 with
   | none=>rfl
   | some x=>have:=h0 _ _ hq;rw[(h.out w hw).2] at this;cases this⟩,h.row⟩
theorem RowsIn.blk {σ0 σ:aa} {b:Nat} {ws:List Uo} {M:List (List Int)} (h:RowsIn σ0 σ b ws M) {w:Uo} (hw:w∈ws):∃ l,σ w.1=some (.cells l):=by
 obtain⟨j,hj,rfl⟩:=List.getElem_of_mem hw;have hj2:j<M.length:=by rw[← h.len];exact hj
 exact⟨_,(h.row j ws[j] M[j] (by simp[hj]) (List.getElem?_eq_getElem hj2)).1⟩
abbrev Ui (f:Fr) (a:AV) (b:Nat):List AV:=[a,.fZ b 0 f.roads.length f.roads.length,int f.bM,int f.jn,int f.dR,int f.most]
theorem UA {f:Fr} (hg:f.Good) (hm:∀ e∈f.az,e.marks.length≤1000000000) (hr1:f.roads.length≤1000000) (hr2:∀ r∈f.roads,r.length≤1000000000) (hr3:∀ r∈f.roads,r≠[]) (h:∀ b ws σ',σ b=none->σ.Le σ'->σ' b=some (.cells (List.zipWith Ug ws f.roads))->RowsIn σ σ' b ws f.roads->KF (.val (.agg (Ui f (ru f.az) b))) σ'):aA Tryz.prog m 15 [aF f] σ KF:=by
 have h6:=hg.pi;refine aA.start lay [] T8 1 Tryz.func15 rfl rfl (by rfl) (by kernel_rfl) ?_
 simp[Tryz.f15];refine cT.intro fun c2 h2=>?_
 simp;apply Dm (I:=fun env σ' => ∃ c3 b ws,σ c3=none∧c3≠c2∧env 1 = .cp (aF f) 0∧env 2 = .ref c2 0∧env 3 = .ref c3 0∧σ.Le σ'∧σ' c2=some (.cells Ti)∧σ' c3=some (.cells (Ui f (.lit (.slice none 0 0)) b))∧σ b=none∧b≠c2∧b≠c3∧σ' b=some (.cells (List.zipWith Ug ws f.roads))∧RowsIn σ σ' b ws f.roads∧∀ w∈ws,w.1≠c2∧w.1≠c3)
 . intro hrest
   have hfin:∀ c3 b ws σ2,σ c3=none->c3≠c2->(σ.set c2 (.cells Ti)).Le σ2->(σ.set c2 (.cells Ti)) b=none->σ2 b=some (.cells (List.zipWith Ug ws f.roads))->RowsIn (σ.set c2 (.cells Ti)) σ2 b ws f.roads->b≠c3->(∀ w∈ws,w.1≠c3) ->
    σ.Le (σ2.set c3 (.cells (Ui f (.lit (.slice none 0 0)) b)))∧(σ2.set c3 (.cells (Ui f (.lit (.slice none 0 0)) b))) c2=some (.cells Ti)∧(σ2.set c3 (.cells (Ui f (.lit (.slice none 0 0)) b))) c3=some (.cells (Ui f (.lit (.slice none 0 0)) b))∧σ b=none∧b≠c2∧b≠c3∧(σ2.set c3 (.cells (Ui f (.lit (.slice none 0 0)) b))) b=some (.cells (List.zipWith Ug ws f.roads))∧RowsIn σ (σ2.set c3 (.cells (Ui f (.lit (.slice none 0 0)) b))) b ws f.roads∧∀ w∈ws,w.1≠c2∧w.1≠c3:=by
    intro c3 b ws σ2 h3 z1 hle hb hcb hws nb hw3;have hl0:σ.Le (σ.set c2 (.cells Ti)):=aa.iU (aa.le_refl _) h2;have nb2:b≠c2:=fun e=>by rw[e,aa.ao] at hb;cases hb
    have hb0:σ b=none:=by rw[← hb,aa.ai _ _ nb2]
    have hc2:σ2 c2=some (.cells Ti):=hle _ _ (aa.ao _ _ _);refine⟨fun y x hy=>?_,by rw[aa.ai _ _ (Ne.symm z1)];exact hc2,aa.ao _ _ _,hb0,nb2,nb,by rw[aa.ai _ _ nb];exact hcb,(hws.base hl0).keep fun w hw l hl=>by rw[aa.ai _ _ (hw3 w hw)];exact hl,fun w hw=>⟨fun e=>?_,hw3 w hw⟩⟩
    . rw[aa.ai _ _ (fun e=>by rw[e,h3] at hy;cases hy)]
      exact hle _ _ (hl0 _ _ hy)
    . have:=(hws.out w hw).2
      rw[e,aa.ao] at this;cases this
   have hA:∀ b ws σ2 c3,(σ.set c2 (.cells Ti)).Le σ2->σ2 b=some (.cells (List.zipWith Ug ws f.roads))->RowsIn (σ.set c2 (.cells Ti)) σ2 b ws f.roads->σ2 c3=none->σ c3=none∧c3≠c2∧b≠c3∧∀ w∈ws,w.1≠c3:=by
    intro b ws σ2 c3 hle hcb hws h3;have z1:c3≠c2:=fun e=>by rw[e,hle _ _ (aa.ao _ _ _)] at h3;cases h3
    refine⟨?_,z1,(fun e=>by rw[e,h3] at hcb;cases hcb),fun w hw e=>?_⟩
    . cases hq:σ c3 with
      | none=>rfl
      | some x=>have:=hle c3 x (by rw[aa.ai _ _ z1];exact hq);rw[h3] at this;cases this
    . obtain⟨l,hl⟩:=hws.blk hw
      rw[e,h3] at hl;cases hl
   refine⟨?_,?_⟩
   . refine aq Tryz.func44 rfl rfl (Us hr1 hr2 hr3 fun b ws σ2 hb hle hcb hws=>?_)
     refine bm.go lay [] ?_;simp[aS];refine⟨?_,?_⟩
     . refine z9.intro fun c3 h3=>?_
       obtain⟨y1,y2,y3,y4⟩:=hA b ws σ2 c3 hle hcb hws h3;simp[aS];exact hrest _ _ ⟨c3,b,ws,y1,y2,by simp,by simp,by simp,hfin c3 b ws σ2 y1 y2 hle hb hcb hws y3 y4⟩
     . refine z9.intro fun c3 h3=>?_
       obtain⟨y1,y2,y3,y4⟩:=hA b ws σ2 c3 hle hcb hws h3;simp[aS];exact hrest _ _ ⟨c3,b,ws,y1,y2,by simp,by simp,by simp,hfin c3 b ws σ2 y1 y2 hle hb hcb hws y3 y4⟩
   . refine z9.intro fun c3 h3'=>?_
     obtain⟨z1,z2,h3⟩:=aa.aO h3';simp[aS];refine aq Tryz.func44 rfl rfl (Us hr1 hr2 hr3 fun b ws σ2 hb hle hcb hws=>?_)
     have hl1:(σ.set c2 (.cells Ti)).Le ((σ.set c2 (.cells Ti)).set c3 (.cells Ti)):=aa.iU (aa.le_refl _) h3';have nb3:b≠c3:=fun e=>by rw[e,aa.ao] at hb;cases hb
     have hb1:(σ.set c2 (.cells Ti)) b=none:=by rw[← hb,aa.ai _ _ nb3]
     have hc3:σ2 c3=some (.cells Ti):=hle _ _ (aa.ao _ _ _);have hw3:∀ w∈ws,w.1≠c3:=fun w hw e=>by have:=(hws.out w hw).2;rw[e,aa.ao] at this;cases this
     refine bm.go lay [] ?_;simp[aS,hc3];exact hrest _ _ ⟨c3,b,ws,h3,z1,by simp,by simp,by simp,hfin c3 b ws σ2 h3 z1 (aa.le_trans hl1 hle) hb1 hcb (hws.base hl1) nb3 hw3⟩
 . rintro env σ' ⟨c3,b,ws,h3,z1,e1,e2,e3,hle,q2,q3,hb,nb2,nb3,hcb,hws,hwn⟩
   have z2:c2≠c3:=Ne.symm z1;refine ab.run lay [] ?_;simp[e1,e2,e3,q2,q3];have t0:Tok σ σ' (.lit (.slice none 0 0)) 6 []:=(Tok.nil σ 6).up hle
   refine ab.loop f.az.length (fun i s => ∃ env σ' a,s=⟨env,σ',[],.no⟩∧env 1 = .cp (aF f) 0∧env 2 = .ref c2 0∧env 3 = .ref c3 0∧env 4=int i∧σ' c2=some (.cells Ti)∧σ' c3=some (.cells (Ui f a b))∧Tok σ σ' a 6 ((f.az.take i).map dt)∧σ' b=some (.cells (List.zipWith Ug ws f.roads))∧RowsIn σ σ' b ws f.roads)
    ⟨_,_,.lit (.slice none 0 0),rfl,by simp[e1],by simp[e2],by simp[e3],by simp,q2,q3,by simpa using t0,hcb,hws⟩ ?_
   clear e1 e2 e3 t0 q2 q3 hcb hws hle
   rintro c0 i _ hi ⟨env,σ',a,rfl,e1,e2,e3,e4,q2,q3,htok,hcb,hws⟩ ih
   have htc:=htok.cells;have nta:∀ y l,σ' y=some (.cells l)->bJ a≠some y:=fun y l hy e=>by obtain⟨_,_,q⟩:=htok.aW e;rw[hy] at q;cases q
   rcases Nat.lt_or_ge i f.az.length with g1|g1
   . have g1':(i:Int)<f.az.length:=by omega
     have f1 : -9223372036854775808≤(i:Int)+1∧(i:Int)+1≤9223372036854775807:=by omega
     refine ab.run lay [] ?_;simp[e1,e2,e3,e4,q2,q3,htc.1,htc.2,g1]
     repeat' (first
               | apply And.intro
               | (refine aq Tryz.func45 rfl rfl (TN (hm _ (List.getElem_mem g1)) ?_)
                  refine bm.go lay [] ?_;simp[e1,e2,e3,e4,q2,q3,htc.1,htc.2,g1])
               | (refine aM lay rfl rfl rfl sB rfl sB rfl CR (by decide) (by simp;omega) (σ0:=σ'.off a) (es:=(f.az.take i).map dt) (xs:=[dt f.az[i]]) (by simpa using htok.here.1) (.inr ⟨_,by simp;rfl⟩) fun a' σ3 ht'=>?_
                  have hta:=ht'.cells;have k3:∀ y l,σ' y=some (.cells l)->σ3 y=some (.cells l):=fun y l hy=>ht'.1 _ _ (by rw[aa.fU (nta y l hy)];exact hy)
                  have t3:=k3 _ _ q3;have t2:=k3 _ _ q2;refine bm.go lay [] ?_;simp[e1,e2,e3,e4,t2,t3,hta.1,hta.2,aS]))
     all_goals (
      refine ab.run lay [] ?_;simp[e4,f1.1,f1.2]
      have htb:Tok σ σ3 a' 6 ((f.az.take (i+1)).map dt):=by
       have:=ht'.base htok.here.2;rw[List.take_succ_eq_append_getElem g1,List.map_append];simpa using this
      exact ih _ g1 ⟨_,_,a',rfl,by simp[e1],by simp[e2],by simp[e3],by simp,by rw[aa.ai _ _ z2];exact t2,aa.ao _ _ _,htb.beside h3 (fun e=>by obtain⟨_,_,q⟩:=htb.aW e;rw[t3] at q;cases q),by rw[aa.ai _ _ nb3];exact k3 _ _ hcb,hws.keep fun w hw l hl=>by rw[aa.ai _ _ (hwn w hw).2];exact k3 _ _ hl⟩)
   . have hie:i=f.az.length:=by omega
     subst hie;rw[List.take_length] at htok;refine ab.run lay [] ?_;simp[e1,e2,e3,e4,q2,q3,htc.1,htc.2,aS]
     have hle2:σ.Le (σ'.set c2 (.cells (Ui f a b))):=fun y x hy=>by
      rw[aa.ai _ _ (fun e=>by subst e;rw[h2] at hy;cases hy)]
      exact htok.1 y x hy
     refine .nC (a':=.agg (Ui f (ru f.az) b)) (rS rfl fun i x y x1 x2=>?_) (.done (h b ws _ hb hle2 (by rw[aa.ai _ _ nb2];exact hcb) (hws.keep fun w hw l hl=>by rw[aa.ai _ _ (hwn w hw).1];exact hl)))
     match i with
     | 0=>simp at x1 x2;subst x1;subst x2;exact htok.W
     | 1=>simp at x1 x2;subst x1;subst x2;exact .refl _
     | 2=>simp at x1 x2;subst x1;subst x2;exact .refl _
     | 3=>simp at x1 x2;subst x1;subst x2;exact .refl _
     | 4=>simp at x1 x2;subst x1;subst x2;exact .refl _
     | 5=>simp at x1 x2;subst x1;subst x2;exact .refl _
     | i+6=>simp at x1
end Go.Proofs.YtalogdafegmilaaGreatDoor
namespace Go.Proofs.YtalogdafegmilaaGreatDoor
open Go.aN Go.Conc
set_option maxHeartbeats 1000000
set_option maxRecDepth 4000
def qf (f:Fr) (R:List (List Int)) (D M:Int):Fr:=⟨f.az,R,f.bM,f.jn,D,M⟩
theorem Ux {f:Fr} (hg:f.Good) (n:Int):0≤bH (bT f n).marks∧bH (bT f n).marks<32:=by
 by_cases h:n.toNat<f.az.length
 . rw[rC h]
   exact jP (oZ (tv (hg.Bp _ (List.getElem_mem h))).2.2.2.2.2)
 . have:bT f n=⟨0,0,0,[],0,0⟩:=by simp[bT,List.getD_eq_getElem?_getD,List.getElem?_eq_none (Nat.le_of_not_lt h)]
   rw[this];exact⟨by decide,by decide⟩
section
variable {f:Fr} {R:List (List Int)} {D M:Int}
theorem UK (hg:f.Good) (hR:∀ i j,rd R i j≤rd f.roads i j) (hD:D≤f.dR) {a b:Int} (h:j7 f a b=false):j7 (qf f R D M) a b=false:=by
 have hc:=(Ed (Ux hg a) (Ux hg b)).2.1;have h1:=hR (bT f a).place.toNat (bT f b).place.toNat;have h2:D*bQ (bH (bT f a).marks) (bH (bT f b).marks)≤f.dR*bQ (bH (bT f a).marks) (bH (bT f b).marks):=Int.mul_le_mul_of_nonneg_right hD hc;unfold j7 at h ⊢;rw[show bT (qf f R D M) a=bT f a from rfl,show bT (qf f R D M) b=bT f b from rfl,show (qf f R D M).roads=R from rfl,show (qf f R D M).dR=D from rfl]
 simp only[decide_eq_false_iff_not] at h ⊢;omega
theorem UL (hg:f.Good) (hR:∀ i j,rd R i j≤rd f.roads i j) (hD:D≤f.dR) {l:List Int} (h:ii f l=0):ii (qf f R D M) l=0:=by
 obtain⟨h1,h2,h3⟩:=nR.1 h;refine nR.2 ⟨h1,h2,?_⟩;rw[show aT (qf f R D M) l=aT f l from rfl]
 unfold cO at h3 ⊢;rw[List.any_eq_false] at h3 ⊢;intro i hi;have:=h3 i hi;rw[Bool.not_eq_true] at this ⊢;exact UK hg hR hD this
theorem UO {α β:Type} {G G':α->List β} (h:∀ x,(G x).Sublist (G' x)) {l l':List α} (hs:l.Sublist l'):(l.flatMap G).Sublist (l'.flatMap G'):=by
 induction hs with
 | slnil=>exact List.Sublist.refl _
 | cons a _ ih=>rw[List.flatMap_cons];exact ih.trans (List.sublist_append_right _ _)
 | cons_cons a _ ih=>rw[List.flatMap_cons,List.flatMap_cons];exact (h a).append ih
theorem Uy {x:Fr} (hw:∀ l,ii f l=0->ii x l=0) (hm:f.most≤x.most) (begun:List Int):∀ (fuel:Nat) (cd:List Int) (many:Int) (hs:List Int),(cV f begun fuel cd many hs).Sublist (cV x begun fuel cd many hs)
 | 0,_,_,_=>List.Sublist.refl _
 | fuel+1,cd,many,hs=>by
   rw[na,na];refine UO (fun k=>?_) (List.range_sublist.2 (by omega))
   unfold mJ;split
   . exact List.Sublist.refl _
   split
   . next q=>
     have:gO x (bq (hs.getD k 0) cd.length)=true:=by
      unfold gO at q ⊢;rw[decide_eq_true_eq] at q ⊢;exact hw _ q
     rw[if_pos this];exact Uy hw hm begun fuel _ _ _
   . exact List.nil_sublist _
theorem Uq (hg:f.Good) (hR:∀ i j,rd R i j≤rd f.roads i j) (hD:D≤f.dR) (hM:f.most≤M) (begun:List Int):(ak f begun).Sublist (ak (qf f R D M) begun):=
 Uy (fun _ h=>UL hg hR hD h) hM begun _ _ _ _
theorem UF (hg:f.Good) (hR:∀ i j,rd R i j≤rd f.roads i j) (hD:D≤f.dR) (hM:f.most≤M):fK f≤fK (qf f R D M):=by
 have h1:=(Uq hg hR hD hM [0,0]).length_le;have h2:=(Uq hg hR hD hM [0,1]).length_le;unfold fK;rw[show (qf f R D M).az=f.az from rfl]
 split
 . exact Int.le_refl _
 . omega
theorem UB (hg:f.Good) (hR:∀ i j,rd R i j≤rd f.roads i j) (hD:D≤f.dR) (hM:f.most≤M) {l:List Int} (h:lQ f l=true):lQ (qf f R D M) l=true:=by
 unfold lQ at h ⊢;rw[decide_eq_true_eq] at h ⊢;intro e;have:=Uq (R:=R) (D:=D) (M:=M) (wC hg l) hR hD hM [];rw[show qf (cH f l) R D M=cH (qf f R D M) l from rfl,e] at this
 exact h (List.sublist_nil.1 this)
theorem UG (hg:f.Good) (hR:∀ i j,rd R i j≤rd f.roads i j) (hD:D≤f.dR) (hM:f.most≤M) {w v:List Int} (hw:ly f=some w) (hv:ly (qf f R D M)=some v):v.length≤w.length:=by
 rw[uU] at hw hv;obtain⟨m0,h0,hf0⟩:=List.exists_of_findSome?_eq_some hw;obtain⟨l1,m1,l2,e,hf1,hn⟩:=List.findSome?_eq_some_iff.1 hv;have lw:=(Ul (List.mem_of_find?_eq_some hf0)).len;have lv:=(Ul (List.mem_of_find?_eq_some hf1)).len;have hp:=UB hg hR hD hM (List.find?_some hf0);have hs:=List.pairwise_lt_range' (s:=0) (n:=(qf f R D M).az.length+1) (step:=1) (by omega)
 rw[show (qf f R D M).az=f.az from rfl] at e hs
 rw[e] at h0 hs;rw[lw,lv]
 rcases List.mem_append.1 h0 with q|q
 . have:=hn m0 q
   rw[List.find?_eq_none] at this;exact absurd hp (this w (List.mem_of_find?_eq_some hf0))
 . rcases List.mem_cons.1 q with rfl|q
   . exact Nat.le_refl _
   . have:=(List.pairwise_cons.1 (List.pairwise_append.1 hs).2.1).1 m0 q
     omega
end
def Uh (m:Int) (r:List (List Int)):List (List Int):=r.map fun l=>l.map fun x=>min m x
theorem Uu {m:Int} (hm:0≤m) (r:List (List Int)) (i j:Nat):rd (Uh m r) i j=min m (rd r i j):=by
 unfold rd Uh;rw[List.getD_eq_getElem?_getD,List.getD_eq_getElem?_getD,List.getD_eq_getElem?_getD,List.getD_eq_getElem?_getD,List.getElem?_map];cases r[i]? with
 | none=>simp;omega
 | some l=>
   simp only[Option.map_some,Option.getD_some,List.getElem?_map];cases l[j]? with
   | none=>simp;omega
   | some x=>rfl
theorem UH {cnt:Int} {f:Fr} (hf:pR cnt f) (hg:f.Good) {m D M:Int} (hm:0≤m) (hD:1≤D∧D≤f.dR) (hM:f.most≤M∧M≤6):(qf f (Uh m f.roads) D M).Good:=by
 obtain⟨lo,hlo,hr⟩:=hf.Lu;have hl:(Uh m f.roads).length=f.roads.length:=by unfold Uh;rw[List.length_map]
 have hd:=hg.dR;have hmo:=hg.most
 have hrow:∀ l∈Uh m f.roads,∃ l'∈f.roads,l=l'.map fun x=>min m x:=fun l h=>by
  obtain⟨l',h1,h2⟩:=List.mem_map.1 h;exact⟨l',h1,h2.symm⟩
 refine⟨⟨hg.fits.az,by rw[show (qf f (Uh m f.roads) D M).roads=Uh m f.roads from rfl,hl];exact hg.fits.roads,fun l h=>?_,hg.fits.marks⟩,hg.fr,hg.to,hg.le,⟨hD.1,by show D≤6;omega⟩,⟨by show 1≤M;omega,hM.2⟩,hg.pi,fun e he=>?_,?_⟩
 . obtain⟨l',h1,rfl⟩:=hrow l h
   rw[List.length_map];exact hg.fits.row l' h1
 . show cI (Uh m f.roads).length e=0
   rw[hl];exact hg.Bp e he
 . show i6 (Uh m f.roads)=0
   have hK:rE f.roads.length (min m lo) (Uh m f.roads):=⟨hl,fun l h=>by
    obtain⟨l',h1,rfl⟩:=hrow l h;rw[List.length_map];exact hr.row l' h1,
    fun i hi=>by rw[Uu hm,hr.diag i hi];omega,
    fun i j hi hj=>by rw[Uu hm,Uu hm,hr.sym i j hi hj],
    fun i j hi hj hij=>by have:=hr.off i j hi hj hij;rw[Uu hm];omega⟩
   exact hK.err hf.ew (by omega)
end Go.Proofs.YtalogdafegmilaaGreatDoor
namespace Go.Proofs.YtalogdafegmilaaGreatDoor
open Go.aN Go.Conc
set_option maxHeartbeats 1000000
structure Up (M0:Int) (R M:List (List Int)) (i k:Nat):Prop where
 len:M.length=R.length
 row:∀ a:Nat,(M.getD a []).length=(R.getD a []).length
 val:∀ a c:Nat,rd M a c=if a<i∨(a=i∧c<k) then min M0 (rd R a c) else rd R a c
theorem RowsIn.put {σ0 σ:aa} {b:Nat} {ws:List Uo} {M:List (List Int)} (h:RowsIn σ0 σ b ws M) {i k:Nat} {w:Uo} {l:List Int} (hw:ws[i]? = some w) (hl:M[i]? = some l) (hk:k<l.length) (v:Int):RowsIn σ0 (σ.set w.1 (.cells ((l.map int ++ w.2.2).set k (int v)))) b ws (M.set i (l.set k v)):=by
 refine⟨h.nd,by rw[List.length_set];exact h.len,h.out,fun j w' l' hw' hl'=>?_⟩
 by_cases e:j=i
 . subst e
   rw[hw] at hw';cases hw';have hlt:=(List.getElem?_eq_some_iff.1 hl).1;rw[List.getElem?_set_self hlt] at hl';cases hl';obtain⟨_,p2,p3⟩:=h.row j w l hw hl;refine⟨?_,by rw[List.length_set];exact p2,by rw[List.length_set];exact p3⟩
   rw[aa.ao,List.set_append_left _ _ (by rw[List.length_map];exact hk),List.map_set]
 . rw[List.getElem?_set_ne (Ne.symm e)] at hl'
   have hne:w'.1≠w.1:=fun q=>e (by
    refine (List.getElem?_inj (l:=ws.map (·.1)) (by rw[List.length_map];exact (List.getElem?_eq_some_iff.1 hw').1) h.nd).1 ?_
    rw[List.getElem?_map,List.getElem?_map,hw,hw'];simp[q])
   rw[aa.ai _ _ hne];exact h.row j w' l' hw' hl'
theorem Up.put {M0:Int} {R M:List (List Int)} {i k:Nat} {l:List Int} (h:Up M0 R M i k) (hl:M[i]? = some l) (hk:k<l.length):Up M0 R (M.set i (l.set k (min M0 (rd M i k)))) i (k+1):=by
 have hlt:=(List.getElem?_eq_some_iff.1 hl).1;have hli:M.getD i []=l:=by rw[List.getD_eq_getElem?_getD,hl];rfl
 have hV:rd M i k=rd R i k:=by rw[h.val i k,if_neg (by omega)]
 obtain⟨V,hVe⟩:∃ V,V=min M0 (rd M i k):=⟨_,rfl⟩;rw[← hVe];rw[hV] at hVe
 have hg:∀ a,(M.set i (l.set k V)).getD a []=if a=i then l.set k V else M.getD a []:=fun a=>by
  rw[List.getD_eq_getElem?_getD]
  by_cases e:a=i
  . subst e;rw[List.getElem?_set_self hlt,if_pos rfl];rfl
  . rw[List.getElem?_set_ne (Ne.symm e),if_neg e,List.getD_eq_getElem?_getD]
 refine⟨by rw[List.length_set];exact h.len,fun a=>?_,fun a c=>?_⟩
 . rw[hg a]
   split
   . next e=>subst e;rw[List.length_set,← h.row a,hli]
   . exact h.row a
 . have hv:=h.val a c
   unfold rd at hv ⊢;rw[hg a]
   by_cases e:a=i
   . subst e
     rw[if_pos rfl];rw[hli] at hv
     by_cases ec:c=k
     . subst ec
       rw[if_pos (by omega),List.getD_eq_getElem?_getD,List.getElem?_set_self hk]
       rw[hVe];rfl
     . rw[List.getD_eq_getElem?_getD,List.getElem?_set_ne (Ne.symm ec),← List.getD_eq_getElem?_getD,hv]
       by_cases q:c<k
       . rw[if_pos (by omega),if_pos (by omega)]
       . rw[if_neg (by omega),if_neg (by omega)]
   . rw[if_neg e,hv]
     by_cases q:a<i
     . rw[if_pos (by omega),if_pos (by omega)]
     . rw[if_neg (by omega),if_neg (by omega)]
theorem Up.next {M0:Int} (hm:0≤M0) {R M:List (List Int)} {i k:Nat} (h:Up M0 R M i k) (hk:(R.getD i []).length≤k):Up M0 R M (i+1) 0:=by
 refine⟨h.len,h.row,fun a c=>?_⟩
 rw[h.val a c]
 by_cases q:a<i∨(a=i∧c<k)
 . rw[if_pos q,if_pos (by omega)]
 . rw [if_neg q]
   by_cases e:a=i
   . subst e
     have:rd R a c=0:=by
      unfold rd;rw[List.getD_eq_getElem?_getD (i:=c),List.getElem?_eq_none (by omega)];rfl
     rw[if_pos (by omega),this];omega
   . rw[if_neg (by omega)]
theorem Up.fin {M0:Int} {R M:List (List Int)} (h:Up M0 R M R.length 0):M=Uh M0 R:=by
 unfold Uh;refine List.ext_getElem (by rw[List.length_map];exact h.len) fun a h1 h2=>?_
 rw[List.length_map] at h2;have hr:=h.row a;have hMa:M.getD a []=M[a]:=by simp[List.getD_eq_getElem?_getD,h1]
 have hRa:R.getD a []=R[a]:=by simp[List.getD_eq_getElem?_getD,h2]
 rw[hMa,hRa] at hr;rw[List.getElem_map];refine List.ext_getElem (by rw[List.length_map];exact hr) fun c c1 c2=>?_
 rw[List.length_map] at c2;have hv:=h.val a c;rw[if_pos (by omega)] at hv
 unfold rd at hv;rw[hMa,hRa] at hv;rw[List.getElem_map];simpa[List.getD_eq_getElem?_getD,c1,c2] using hv
def Um (ws:List Uo) (M:List (List Int)) (j:Nat):List AV:=(List.range M.length).map fun l=>if l<j then ints (M.getD l []) else Ug (ws.getD l (0,0,[])) (M.getD l [])
theorem Uj (ws:List Uo) (M:List (List Int)) (j:Nat):(Um ws M j).length=M.length:=by rw[Um,List.length_map,List.length_range]
theorem Uk {ws:List Uo} {M:List (List Int)} {j l:Nat} (hl:l<M.length):(Um ws M j)[l]? = some (if l<j then ints (M.getD l []) else Ug (ws.getD l (0,0,[])) (M.getD l [])):=by
 rw[Um,List.getElem?_map,List.getElem?_range hl];rfl
theorem UI {ws:List Uo} {M:List (List Int)} (hw:ws.length=M.length):Um ws M 0=List.zipWith Ug ws M:=by
 apply List.ext_getElem?;intro l
 by_cases hl:l<M.length
 . rw[Uk hl,if_neg (by omega),List.getElem?_zipWith,List.getElem?_eq_getElem (by omega:l<ws.length),List.getElem?_eq_getElem hl]
   simp[List.getD_eq_getElem?_getD,hl,show l<ws.length by omega]
 . rw[List.getElem?_eq_none (by rw[Uj];omega),List.getElem?_eq_none (by rw[List.length_zipWith];omega)]
theorem UM {ws:List Uo} {M:List (List Int)}:Um ws M M.length=M.map ints:=by
 apply List.ext_getElem?;intro l
 by_cases hl:l<M.length
 . rw[Uk hl,if_pos hl,List.getElem?_map,List.getElem?_eq_getElem hl]
   simp[List.getD_eq_getElem?_getD,hl]
 . rw[List.getElem?_eq_none (by rw[Uj];omega),List.getElem?_eq_none (by rw[List.length_map];omega)]
theorem UJ {ws:List Uo} {M:List (List Int)} {j:Nat} (hj:j<M.length):(Um ws M j).set j (ints (M.getD j []))=Um ws M (j+1):=by
 apply List.ext_getElem?;intro l
 by_cases hl:l<M.length
 . rw[Uk (j:=j+1) hl]
   by_cases hlj:l=j
   . subst hlj
     rw[List.getElem?_set_self (by rw[Uj];omega),if_pos (by omega)]
   . rw[List.getElem?_set_ne (Ne.symm hlj),Uk hl]
     by_cases q:l<j
     . rw[if_pos q,if_pos (by omega)]
     . rw[if_neg q,if_neg (by omega)]
 . rw[List.getElem?_eq_none (by rw[List.length_set,Uj];omega),List.getElem?_eq_none (by rw[Uj];omega)]
theorem Uz {fid nt:Nat} {ro:Option Nat} {hold:List Entry} {m:Mo} {K:aN.Exit->St->Prop} {todo:List Item} {env:Env} {D:List kL} {rc:Rec} {d at_:Nat} {ws:List Uo} {M:List (List Int)} {cs:List AV} {spr:cM} (σ0:aa) (hnd:(ws.map (·.1)).Nodup) (hlen:ws.length=M.length) (hat:at_<cs.length) (hd:∀ w∈ws,w.1≠d)
 (hR:∀ σ',σ' d=some (.cells (cs.set at_ (.sl 1 (M.map ints) spr)))->(∀ y,y≠d->(∀ w∈ws,w.1≠y)->σ' y=σ0 y)->ab Tryz.prog m fid nt ro hold todo ⟨env,σ',D,rc⟩ K) :
 ∀ (f j:Nat),j+f=M.length->∀ σ,σ d=some (.cells (cs.set at_ (.sl 1 (Um ws M j) spr)))->(∀ (i:Nat) w l,j≤i->ws[i]? = some w->M[i]? = some l->σ w.1=some (.cells (l.map int ++ w.2.2))∧l.length≤w.2.1∧w.2.2.length=w.2.1-l.length)->(∀ y,y≠d->(∀ w∈ws,w.1≠y)->σ y=σ0 y)->ab Tryz.prog m fid nt ro hold todo ⟨env,σ,D,rc⟩ K
 | 0,j,hj,σ,h1,_,h3=>by
   have:j=M.length:=by omega
   subst this;rw[UM] at h1;exact hR σ h1 h3
 | f + 1,j,hj,σ,h1,h2,h3=>by
   have hjl:j<M.length:=by omega
   have hjw:j<ws.length:=by omega
   have ew:ws[j]? = some ws[j]:=List.getElem?_eq_getElem hjw;have em:M[j]? = some M[j]:=List.getElem?_eq_getElem hjl;have hMj:M.getD j []=M[j]:=by simp[List.getD_eq_getElem?_getD,hjl]
   have hWj:ws.getD j (0,0,[])=ws[j]:=by simp[List.getD_eq_getElem?_getD,hjw]
   obtain⟨p1,p2,p3⟩:=h2 j _ _ (Nat.le_refl _) ew em;have hdj:d≠ws[j].1:=fun e=>hd _ (List.getElem_mem hjw) e.symm
   have hcell:∀ e∈Um ws M j,e.cells=[e]:=fun e he=>by
    unfold Um at he;obtain⟨l,_,rfl⟩:=List.mem_map.1 he;split <;> rfl
   refine ab.UN (b:=ws[j].1) (d:=d) (i:=j) (c:=ws[j].2.1) (l:=M[j].map int) (rest:=ws[j].2.2) (at_:=at_) hdj p1 (by rw[List.length_map];exact p2) (by rw[List.length_map];exact p3) (fun e he=>by obtain⟨_,_,rfl⟩:=List.mem_map.1 he;rfl) h1 (by rw[List.getElem?_set_self hat]) hcell (by rw[Uk hjl,if_neg (by omega),hMj,hWj,List.length_map];rfl) ?_
   have hn:=UJ (ws:=ws) hjl;rw[hMj] at hn;rw[List.set_set,show (AV.sl 1 (List.map int M[j]) cM.any)=ints M[j] from rfl,hn]
   refine Uz σ0 hnd hlen hat hd hR f (j+1) (by omega) _ (aa.ao _ _ _) (fun i w l hi hw hl=>?_) (fun y y1 y2=>?_)
   . have n1:w.1≠d:=hd w (List.mem_of_getElem? hw)
     have n2:w.1≠ws[j].1:=fun q=>by
      have:i=j:=by
       refine (List.getElem?_inj (l:=ws.map (·.1)) (by rw[List.length_map];exact (List.getElem?_eq_some_iff.1 hw).1) hnd).1 ?_
       rw[List.getElem?_map,List.getElem?_map,hw,ew];simp[q]
      omega
     rw[aa.ai _ _ n1];simp only[aa.del,n2,if_false];exact h2 i w l (by omega) hw hl
   . rw[aa.ai _ _ y1]
     have:y≠ws[j].1:=fun e=>y2 _ (List.getElem_mem hjw) e.symm
     simp only[aa.del,this,if_false];exact h3 y y1 y2
theorem UQ (ws:List Uo) (R:List (List Int)) (m:Int):List.zipWith Ug ws (Uh m R)=List.zipWith Ug ws R:=by
 unfold Uh;rw[List.zipWith_map_right];congr 1
 funext w l
 simp[Ug]
end Go.Proofs.YtalogdafegmilaaGreatDoor
namespace Go.Proofs.YtalogdafegmilaaGreatDoor
open Go.aN Go.Conc
set_option maxHeartbeats 4000000
set_option maxRecDepth 4000
variable {m:Mo} {σ:aa} {KF:cL->aa->Prop}
namespace QK
abbrev UT:List Entry:=[⟨11,.take [0,2,5,6,7,9,12] false (.both 1 (.take [3] false (.both 4 (.take [16] false (.one 8 (.take [10] false (.one 11 (.take [13] false (.one 14 (.one 15 (.one 17 (.done))))))))) (.one 8 (.take [10] false (.both 4 (.take [16] false (.one 11 (.take [13] false (.one 14 (.one 15 (.one 17 (.done))))))) (.one 11 (.take [13] false (.both 4 (.take [16] false (.one 14 (.one 15 (.one 17 (.done))))) (.one 14 (.both 4 (.take [16] false (.one 15 (.one 17 (.done)))) (.one 15 (.take [4,16] true (.one 17 (.done)))))))))))))) (.one 8 (.take [10] false (.both 1 (.take [3] false (.both 4 (.take [16] false (.one 11 (.take [13] false (.one 14 (.one 15 (.one 17 (.done))))))) (.one 11 (.take [13] false (.both 4 (.take [16] false (.one 14 (.one 15 (.one 17 (.done))))) (.one 14 (.both 4 (.take [16] false (.one 15 (.one 17 (.done)))) (.one 15 (.take [4,16] true (.one 17 (.done))))))))))) (.one 11 (.take [13] false (.both 1 (.take [3] false (.both 4 (.take [16] false (.one 14 (.one 15 (.one 17 (.done))))) (.one 14 (.both 4 (.take [16] false (.one 15 (.one 17 (.done)))) (.one 15 (.take [4,16] true (.one 17 (.done)))))))) (.one 14 (.both 1 (.take [3] false (.both 4 (.take [16] false (.one 15 (.one 17 (.done)))) (.one 15 (.take [4,16] true (.one 17 (.done)))))) (.one 15 (.take [1,3,4,16] true (.one 17 (.done)))))))))))))⟩,⟨12,.take [0,1,2,4,5,6,8,10] false (.one 3 (.one 7 (.one 9 (.one 11 (.done)))))⟩]
theorem Uv (hs:m.solo=true) {nums:List Int} (hn:nums.length<1152921504606846976) (h:KF (.val (bool true)) σ):gq Tryz.prog lay m 3 [ints nums] σ KF:=by
 refine gq.start lay [] UT 1 Tryz.func3 rfl rfl (by rfl) (by kernel_rfl) ?_
 simp[Tryz.f3];refine aq Tryz.func13 rfl rfl (kv fun c σ1 hc hb hsame=>?_)
 refine ab.run lay [] ?_;simp;refine aq Tryz.func14 rfl rfl (Eu (by omega) hn ⟨by omega,by omega⟩ hb fun f σ2 hf hd=>?_)
 refine ab.run lay [] ?_;simp;refine cT.intro fun d hd3=>?_
 have hfit:=hf.fits (by omega)
 have hchk:=hf.check (by omega)
 have hg:=Fr.jw hfit hchk;have h5:=hf.len;have h6:=hg.pi;have hmk:∀ e∈f.az,e.marks.length≤1000000000:=fun e he=>by have:=(kJ (hf.Bp e he).marks).2;omega
 obtain⟨lo,hlo,hk⟩:=hf.Lu;have hspots:=hf.ew;have hrd1:f.roads.length≤1000000:=by omega
 have hrd2:∀ r∈f.roads,r.length≤1000000000:=fun r hr=>by have:=hk.row r hr;omega
 have hrd3:∀ r∈f.roads,r≠[]:=fun r hr e=>by have:=hk.row r hr;rw[e] at this;simp at this;omega
 simp;refine aq Tryz.func15 rfl rfl (UA hg hmk hrd1 hrd2 hrd3 fun b ws σ3 hb3 hle3 hcb hws=>?_)
 obtain⟨nb,zb,hnb,hcb0⟩:=hd.1;have hdc:c≠d:=fun e=>by subst e;rw[hcb0] at hd3;cases hd3
 have hbag3:bZ c nums (0+20+11*Int.toNat 5) σ3:=⟨nb,zb,hnb,hle3 _ _ (by rw[aa.ai _ _ hdc];exact hcb0)⟩
 refine ab.run lay [] ?_;simp;refine cT.intro fun x hx5=>?_
 simp;have hc3:∃ l,σ3 c=some (.cells l):=by obtain⟨_,_,_,q⟩:=hbag3;exact⟨_,q⟩
 have hxc:x≠c:=fun e=>by obtain⟨l,q⟩:=hc3;rw[← e,hx5] at q;cases q
 have hbag4:bZ c nums (0+20+11*Int.toNat 5) (σ3.set x (.cells (Ui f (ru f.az) b))):=by
  obtain⟨n1,z1,q1,q2⟩:=hbag3;exact⟨n1,z1,q1,by rw[aa.ai _ _ (Ne.symm hxc)];exact q2⟩
 refine aq Tryz.func16 rfl rfl (ia (by omega) hn ⟨by omega,by omega⟩ hbag4 fun most σ4 hmo hd4=>?_)
 refine ab.run lay [] ?_;simp;have hd3s:σ3 d=some (.cells (eP f)):=hle3 _ _ (aa.ao _ _ _);have hdx:d≠x:=fun e=>by rw[e,hx5] at hd3s;cases hd3s
 have hd4s:σ4 d=some (.cells (eP f)):=by rw[hd4.2 d (Ne.symm hdc),aa.ai _ _ hdx];exact hd3s
 refine ab.cZ 4 (b:=d) (aF f) hd4s (by simp) rfl ?_
 have hnd:∀ y,y≠c->y≠d->y≠x->(σ4.del d) y=σ3 y:=fun y y1 y2 y3=>by
  simp only[aa.del,y2,if_false];rw[hd4.2 y y1,aa.ai _ _ y3]
 have h2le:∀ y v,σ y=some v->y≠c∧y≠d∧y≠x∧(σ4.del d) y=some v:=fun y v hy=>by
  have y1:y≠c:=fun e=>by subst e;rw[hc] at hy;cases hy
  have y0:σ2 y=some v:=by rw[hd.2 y y1,hsame y y1];exact hy
  have y2:y≠d:=fun e=>by subst e;rw[hd3] at y0;cases y0
  have y4:σ3 y=some v:=hle3 _ _ (by rw[aa.ai _ _ y2];exact y0)
  have y3:y≠x:=fun e=>by subst e;rw[hx5] at y4;cases y4
  exact⟨y1,y2,y3,by rw[hnd y y1 y2 y3];exact y4⟩
 have hle5:σ.Le (σ4.del d):=fun y v hy=>(h2le y v hy).2.2.2
 have hbn:b≠c∧b≠d∧b≠x:=by
  have b2:b≠d:=fun e=>by subst e;rw[aa.ao] at hb3;cases hb3
  have b1:b≠c:=fun e=>by subst e;rw[aa.ai _ _ b2,hcb0] at hb3;cases hb3
  exact⟨b1,b2,fun e=>by rw[e,hx5] at hcb;cases hcb⟩
 have hwn:∀ w∈ws,w.1≠c∧w.1≠d∧w.1≠x:=fun w hw=>by
  obtain⟨_,q⟩:=hws.out w hw;obtain⟨l,ql⟩:=hws.blk hw;have b2:w.1≠d:=fun e=>by rw[e,aa.ao] at q;cases q
  have b1:w.1≠c:=fun e=>by rw[e,aa.ai _ _ hdc,hcb0] at q;cases q
  exact⟨b1,b2,fun e=>by rw[e,hx5] at ql;cases ql⟩
 have hb5:(σ4.del d) b=some (.cells (List.zipWith Ug ws f.roads)):=by rw[hnd b hbn.1 hbn.2.1 hbn.2.2];exact hcb
 have hx6:(σ4.del d) x=some (.cells (Ui f (ru f.az) b)):=by
  simp only[aa.del,Ne.symm hdx,if_false];rw[hd4.2 x hxc,aa.ao]
 have hws5:RowsIn σ (σ4.del d) b ws f.roads:=⟨hws.nd,hws.len,fun w hw=>⟨(hws.out w hw).1,by
  cases q:σ w.1 with
  | none=>rfl
  | some v=>
    obtain⟨y1,y2,y3,y4⟩:=h2le _ _ q;have:=(hws.out w hw).2;rw[aa.ai _ _ y2,hd.2 _ y1,hsame _ y1,q] at this;cases this⟩,fun i w l hw hl=>by
  have hm:=hwn w (List.mem_of_getElem? hw);rw[hnd w.1 hm.1 hm.2.1 hm.2.2];exact hws.row i w l hw hl⟩
 have hbag5:bZ c nums (0+20+11*Int.toNat 5+1) (σ4.del d):=by
  obtain⟨n1,z1,q1,q2⟩:=hd4.1;exact⟨n1,z1,q1,by simp only[aa.del,hdc,if_false];exact q2⟩
 have hσx:σ x=none:=by
  cases e:σ x with
  | none=>rfl
  | some v=>exact absurd rfl (h2le x v e).2.2.1
 have hσb:σ b=none:=by
  cases e:σ b with
  | none=>rfl
  | some v=>rw[aa.ai _ _ hbn.2.1,hd.2 b hbn.1,hsame b hbn.1,e] at hb3;cases hb3
 generalize σ4.del d=σ5 at hle5 hb5 hx6 hws5 hbag5 ⊢;clear hd4s hd3s hnd h2le hd4 hbag4 hbag3 hc3 hx5 hws hcb hb3 hle3 hcb0;have hwl:ws.length=f.roads.length:=hws5.len
 refine ab.loop f.roads.length (fun i s => ∃ env σ' M,s=⟨env,σ',[],.no⟩∧env 3 = .ref c 0∧env 4 = .cp (aF f) 0∧env 5 = .ref x 0∧env 6=int most∧env 7=int i∧σ.Le σ'∧σ' x=some (.cells (Ui f (ru f.az) b))∧σ' b=some (.cells (List.zipWith Ug ws f.roads))∧bZ c nums (0+20+11*Int.toNat 5+1) σ'∧RowsIn σ σ' b ws M∧Up most f.roads M i 0)
  ⟨_,_,f.roads,rfl,by simp,by simp,by simp,by simp,by simp,hle5,hx6,hb5,hbag5,hws5,⟨rfl,fun _=>rfl,fun a c=>by rw[if_neg (by omega)]⟩⟩ ?_
 clear hle5 hx6 hb5 hbag5 hws5
 rintro c0 i _ hi ⟨env,σ',M,rfl,e3,e4,e5,e6,e7,hle,q5,qb,hbag,hws,hcut⟩ ih
 rcases Nat.lt_or_ge i f.roads.length with g1|g1
 . have f1 : -9223372036854775808≤(i:Int)+1∧(i:Int)+1≤9223372036854775807:=by omega
   refine ab.run lay [] ?_;simp[e3,e4,e5,e6,e7,q5,qb,g1];have hM0:∃ l0,l0=f.roads[i]∧l0.length=f.roads.length:=⟨_,rfl,hk.row _ (List.getElem_mem g1)⟩;obtain⟨l0,hl0,hl0n⟩:=hM0;have hw1:i<ws.length:=by rw[hwl];exact g1
   obtain⟨w,hw⟩:∃ w,ws[i]? = some w:=⟨_,List.getElem?_eq_getElem hw1⟩;have hwm:=List.mem_of_getElem? hw
   have hZ:(List.zipWith Ug ws f.roads)[i]? = some (.fZ w.1 0 f.roads.length w.2.1):=by
    rw[List.getElem?_zipWith,hw,List.getElem?_eq_getElem g1];simp only[Ug];rw[← hl0,hl0n]
   refine ab.loop f.roads.length (fun k s => ∃ env σ' M,s=⟨env,σ',[],.no⟩∧env 3 = .ref c 0∧env 4 = .cp (aF f) 0∧env 5 = .ref x 0∧env 6=int most∧env 7=int i∧env 8=int k∧σ.Le σ'∧σ' x=some (.cells (Ui f (ru f.az) b))∧σ' b=some (.cells (List.zipWith Ug ws f.roads))∧bZ c nums (0+20+11*Int.toNat 5+1) σ'∧RowsIn σ σ' b ws M∧Up most f.roads M i k)
    ⟨_,_,M,rfl,by simp[e3],by simp[e4],by simp[e5],by simp[e6],by simp[e7],by simp,hle,q5,qb,hbag,hws,hcut⟩ ?_
   clear e3 e4 e5 e6 e7 hle q5 qb hbag hws hcut
   rintro c1 k _ hk2 ⟨env,σ',M,rfl,e3,e4,e5,e6,e7,e8,hle,q5,qb,hbag,hws,hcut⟩ ih2
   obtain⟨Z,hZe⟩:∃ Z,Z=List.zipWith Ug ws f.roads:=⟨_,rfl⟩;have hZl:Z.length=f.roads.length:=by rw[hZe,List.length_zipWith,hwl];omega
   have hZi:Z[i]? = some (.fZ w.1 0 f.roads.length w.2.1):=by rw[hZe];exact hZ
   have hZb:i<Z.length:=by omega
   have hZg:Z[i] = .fZ w.1 0 f.roads.length w.2.1:=Option.some.inj ((List.getElem?_eq_getElem hZb).symm.trans hZi);rw[← hZe] at qb
   rcases Nat.lt_or_ge k f.roads.length with g2|g2
   . have f2 : -9223372036854775808≤(k:Int)+1∧(k:Int)+1≤9223372036854775807:=by omega
     have hMi:i<M.length:=by rw[hcut.len];exact g1
     obtain⟨l,hl⟩:∃ l,M[i]? = some l:=⟨_,List.getElem?_eq_getElem hMi⟩
     have hll:l.length=f.roads.length:=by
      have:=hcut.row i;rw[List.getD_eq_getElem?_getD,hl,List.getD_eq_getElem?_getD,List.getElem?_eq_getElem g1] at this;simp only[Option.getD_some] at this;rw[this,← hl0,hl0n]
     obtain⟨p1,p2,p3⟩:=hws.row i w l hw hl;obtain⟨RC,hRC⟩:∃ RC,RC=l.map int ++ w.2.2:=⟨_,rfl⟩;rw[← hRC] at p1;have hRCl:k<RC.length:=by rw[hRC,List.length_append,List.length_map];omega
     have hkv:rd M i k=l[k]'(by omega):=by
      unfold rd;simp[List.getD_eq_getElem?_getD,hl,show k<l.length by omega]
     have hRCk:RC[k]? = some (int (rd M i k)):=by
      rw[hRC,List.getElem?_append_left (by rw[List.length_map];omega),List.getElem?_map,List.getElem?_eq_getElem (by omega),hkv];rfl
     have hRCg:RC[k]=int (rd M i k):=Option.some.inj ((List.getElem?_eq_getElem hRCl).symm.trans hRCk);have hRC1:k+1≤RC.length:=hRCl;refine ab.run lay [] ?_;simp[e3,e4,e5,e6,e7,e8,q5,qb,g1,g2,hZg,hZl,p1,hRCg,hRCl,hRC1];have hmin:(if rd M i k<most then rd M i k else most)=min most (rd M i k):=by rw[Int.min_def];split <;> split <;> omega
     have hput:=hws.put hw hl (show k<l.length by omega) (min most (rd M i k))
     rw[← hRC] at hput;have hwo:=(hws.out w hwm).2;have hwb:=(hws.out w hwm).1;have hwx:=hwn w hwm;have hle':∀ X,σ.Le (σ'.set w.1 X):=fun X=>aa.ig hle hwo
     have q5':∀ X,(σ'.set w.1 X) x=some (.cells (Ui f (ru f.az) b)):=fun X=>by rw[aa.ai _ _ (Ne.symm hwx.2.2)];exact q5
     have qb':∀ X,(σ'.set w.1 X) b=some (.cells (List.zipWith Ug ws f.roads)):=fun X=>by rw[aa.ai _ _ (Ne.symm hwb),qb,hZe]
     have hbag':∀ X,bZ c nums (0+20+11*Int.toNat 5+1) (σ'.set w.1 X):=fun X=>by
      obtain⟨n1,z1,r1,r2⟩:=hbag;exact⟨n1,z1,r1,by rw[aa.ai _ _ (Ne.symm hwx.1)];exact r2⟩
     have hcut':=hcut.put hl (show k<l.length by omega)
     rw[hmin]
     repeat' with_reducible apply And.intro
     all_goals (
      refine ab.run lay [] ?_;simp[e8,f2.1,f2.2];exact ih2 _ g2 ⟨_,_,_,rfl,by simp[e3],by simp[e4],by simp[e5],by simp[e6],by simp[e7],by simp,hle' _,q5' _,qb' _,hbag' _,hput,hcut'⟩)
   . have hke:k=f.roads.length:=by omega
     subst hke;refine ab.run lay [] ?_;simp[e3,e4,e5,e6,e7,e8,q5,qb,g1,hZg,hZl,f1.1,f1.2];exact ih _ g1 ⟨_,_,M,rfl,by simp[e3],by simp[e4],by simp[e5],by simp[e6],by simp,hle,q5,by rw[qb,hZe],hbag,hws,hcut.next hmo.1 (by rw[List.getD_eq_getElem?_getD,List.getElem?_eq_getElem g1,Option.getD_some,← hl0,hl0n];exact Nat.le_refl _)⟩
 . have hie:i=f.roads.length:=by omega
   subst hie;obtain rfl:=hcut.fin;clear ih hcut;have hzl:(List.zipWith Ug ws f.roads).length=f.roads.length:=by rw[List.length_zipWith,hwl];omega
   refine ab.US (b:=b) (d:=x) (at_:=1) (l:=List.zipWith Ug ws f.roads) (Ne.symm hbn.2.2) qb (fun e he=>?_) q5 (by rw[hzl];rfl) ?_
   . obtain⟨i,hi2,rfl⟩:=List.getElem_of_mem he
     rw[List.getElem_zipWith];rfl
   refine Uz (d:=x) (at_:=1) (cs:=Ui f (ru f.az) b) (spr:=.any) (M:=Uh most f.roads) (σ'.del b) hws.nd hws.len (by simp) (fun w hw=>(hwn w hw).2.2) (fun σ6 g6 k6=>?_) (Uh most f.roads).length 0 (by omega) _ (by rw[aa.ao,UI hws.len,UQ]) (fun i w l _ hw hl=>?_) (fun y y1 _=>by rw[aa.ai _ _ y1])
   rotate_left
   . have hwm:=List.mem_of_getElem? hw
     rw[aa.ai _ _ (hwn w hwm).2.2];simp only[aa.del,(hws.out w hwm).1,if_false];exact hws.row i w l hw hl
   have g7:σ6 x=some (.cells [ru f.az,rows (Uh most f.roads),int f.bM,int f.jn,int f.dR,int f.most]):=g6;have hσw:∀ w∈ws,σ w.1=none:=fun w hw=>(hws.out w hw).2
   have hle6:σ.Le σ6:=fun y v hy=>by
    have y1:y≠x:=fun e=>by rw[e,hσx] at hy;cases hy
    have y2:y≠b:=fun e=>by rw[e,hσb] at hy;cases hy
    rw[k6 y y1 (fun w hw e=>by rw[← e,hσw w hw] at hy;cases hy)]
    simp only[aa.del,y2,if_false];exact hle y v hy
   have hbag6:bZ c nums (0+20+11*Int.toNat 5+1) σ6:=by
    obtain⟨n1,z1,r1,r2⟩:=hbag;refine⟨n1,z1,r1,?_⟩;rw[k6 c (Ne.symm hxc) (fun w hw=>(hwn w hw).1)]
    simp only[aa.del,Ne.symm hbn.1,if_false];exact r2
   clear g6 k6 hbag hle q5 qb hws;have hml:(Uh most f.roads).length=f.roads.length:=by unfold Uh;rw[List.length_map]
   have hdy:=hg.dR;have hmx:=hg.most;refine ab.run lay [] ?_;simp[e3,e4,e5,e6,e7,g7,hml];refine aq Tryz.func17 rfl rfl (jQ (by omega) hn ⟨by omega,by omega⟩ ⟨by omega,by omega⟩ hbag6 fun D σ7 hD hd7=>?_)
   obtain⟨nb7,zb7,hnb7,hcb7⟩:=hd7.1;have g8:σ7 x=some (.cells [ru f.az,rows (Uh most f.roads),int f.bM,int f.jn,int f.dR,int f.most]):=by rw[hd7.2 x hxc];exact g7
   refine bm.go lay [] ?_;simp[e3,e4,e5,g8];refine aq Tryz.func17 rfl rfl (jQ (by omega) hn ⟨by omega,by omega⟩ ⟨by omega,by omega⟩ hd7.1 fun Mo σ8 hMo hd8=>?_)
   have g9:σ8 x=some (.cells [ru f.az,rows (Uh most f.roads),int f.bM,int f.jn,int f.dR,int f.most]):=by rw[hd8.2 x hxc];exact g8
   refine bm.go lay [] ?_;simp[e3,e4,e5,g9,aS];have hgq:=UH hf hg hmo.1 (D:=D) (M:=Mo) ⟨hD.1,by omega⟩ ⟨hMo.1,by omega⟩
   obtain⟨w,hw⟩:=Ce f;have hwl2:=Uw hw;obtain⟨v,hv⟩:=Ce (qf f (Uh most f.roads) D Mo);have hvl2:=Uw hv;have hb1:=fa hg [0,0];have hb2:=fa hg [0,1];have hs1:=fa hgq [0,0];have hs2:=fa hgq [0,1];refine ab.run lay [] ?_;simp[e3,e4,e5,aS];have hR:∀ i j,rd (Uh most f.roads) i j≤rd f.roads i j:=fun i j=>by rw[Uu hmo.1];omega
   have hqc:=UF hg hR (D:=D) (M:=Mo) (by omega) hMo.1
   have hqw:=UG hg hR (D:=D) (M:=Mo) (by omega) hMo.1 hw hv
   have hqc2 : ¬ fK (qf f (Uh most f.roads) D Mo)<fK f:=by omega
   have hqw2:(v.length:Int)≤w.length:=by omega
   have hle9:∀ X,σ.Le (σ8.set x X):=fun X y z hy=>by
    have y1:y≠x:=fun e=>by rw[e,hσx] at hy;cases hy
    have y2:y≠c:=fun e=>by rw[e,hc] at hy;cases hy
    rw[aa.ai _ _ y1,hd8.2 y y2,hd7.2 y y2];exact hle6 y z hy
   refine aq Tryz.func18 rfl rfl (z8 hs hfit hchk ⟨by omega,by omega⟩ ?_)
   refine ab.run lay [] ?_;simp[e4,e5,aS];refine aq Tryz.func18 rfl rfl (z8 (f:=qf f (Uh most f.roads) D Mo) hs hgq.fits hgq.Ng ⟨by omega,by omega⟩ ?_)
   refine ab.run lay [] ?_;simp[e4,e5,aS];refine aq Tryz.func19 rfl rfl (Ak hs hfit hchk hw ?_);refine ab.run lay [] ?_;simp[e4,e5,aS];refine aq Tryz.func19 rfl rfl (Ak (f:=qf f (Uh most f.roads) D Mo) hs hgq.fits hgq.Ng hv ?_);refine ab.run lay [] ?_;simp[e4,e5,aS,hqc,hqw,hqw2];refine aq Tryz.func20 rfl rfl (ip hs ?_);refine ab.run lay [] ?_;simp;exact .less (hle9 _) (.done h)
end QK
end Go.Proofs.YtalogdafegmilaaGreatDoor

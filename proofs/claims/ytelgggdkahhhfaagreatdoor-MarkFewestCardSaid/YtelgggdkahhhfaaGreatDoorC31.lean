/- Part 31 of the proof. -/
import Derived.Test.YtelgggdkahhhfaaGreatDoorC30
set_option linter.all false
namespace Go.Proofs.YtelgggdkahhhfaaGreatDoor
open Go.aZ Go.Conc
set_option maxHeartbeats 1000000
set_option maxRecDepth 4000
variable {m:Mo} {σ:aa} {KF:cV->aa->Prop}
theorem z8:∀ {es:List AV},(∀ a∈es,a.cells=[a])->flatten es=es
 | [],_=>rfl
 | a :: es,h=>by
   rw[flatten_cons,h a (List.mem_cons_self ..),z8 fun x hx=>h x (List.mem_cons_of_mem _ hx)];rfl
theorem KJ {es es':List AV} {sp:bK} (hl:es.length=es'.length) (hc:∀ a∈es,a.cells=[a]) (hc':∀ a∈es',a.cells=[a]) (hw:∀ (i:Nat) a a',es[i]? = some a->es'[i]? = some a'->a.W a'):(AV.sl 1 es sp).W (.sl 1 es' .any):=fun k x hx=>by
 cases hx with
 | sl b off cap kk N E _ _ c g1 g2 g3 g4 g5 g6 g7=>
   rw[z8 hc] at g5 g6;rw[hl] at g1 ⊢;refine .sl b off cap 1 N E es' .any c g1 g2 g3 (fun e he=>by rw[hc' e he];rfl) (fun j hj=>?_) (fun j a ha=>?_) trivial
   . rw[z8 hc'] at hj
     exact g5 j (by omega)
   . rw[z8 hc'] at ha
     have hj:j<es.length:=by rw[hl];exact (List.getElem?_eq_some_iff.1 ha).1
     exact hw j es[j] a (by simp[hj]) ha k _ (g6 j _ (by simp[hj]))
 | slnil=>
   have:es'=[]:=by cases es' with|nil=>rfl|cons _ _=>simp at hl
   subst this;exact .slnil 1
theorem vz {l l':List AV} (hl:l.length=l'.length) (hw:∀ (i:Nat) a a',l[i]? = some a->l'[i]? = some a'->a.W a'):(AV.agg l).W (.agg l'):=fun k x hx=>by
 cases hx with
 | agg c _ g1 g2=>
   refine .agg c l' (by omega) fun i v a' hv ha'=>?_
   have hi:i<l.length:=by rw[hl];exact (List.getElem?_eq_some_iff.1 ha').1
   exact hw i l[i] a' (by simp[hi]) ha' k v (g2 i v _ hv (by simp[hi]))
def pU:List m7:=[⟨0,0,1,[0],15,0⟩,⟨3,1,1,[0],16,1⟩,⟨4,0,1,[0,2],15,2⟩,⟨10,0,2,[],14,0⟩,⟨12,0,1,[2],15,0⟩]
def cU (n:Nat) (most:Int):Fr:=⟨pU.take n,[[0,2],[2,0]],1,2,3,most⟩
theorem lJ {a b c d e:Int} {l:List Int} (h:KF (.val (gM ⟨a,b,c,l,d,e⟩)) σ):ar Tryz.prog m 103 [int a,int b,int c,int d,int e,ints l] σ KF:=by
 refine ar.start lay [] [] 6 Tryz.func103 rfl rfl (by rfl) (by kernel_rfl) ?_
 simp[Tryz.f103];refine dL.intro fun k hk=>?_
 simp;exact .less (by repeat (first|exact aa.le_refl _|assumption|refine aa.gE ?_ (by assumption) | refine aa.i8 ?_ (by assumption))) (.done h)
theorem GR (h:KF (.val (rQ pU)) σ):ar Tryz.prog m 70 [] σ KF:=by
 have w1:∀ a b c d e:Int,∀ l:List Int,Wl [int a,int b,int c,int d,int e,.sl 1 (l.map int) .exact] [int a,int b,int c,int d,int e,ints l]:=fun a b c d e l => .cons (.refl _) (.cons (.refl _) (.cons (.refl _) (.cons (.refl _) (.cons (.refl _) (.cons (fq 1 _ .exact) .nil)))))
 have w0:∀ a b c d e:Int,Wl [int a,int b,int c,int d,int e,.lit (.slice none 0 0)] [int a,int b,int c,int d,int e,ints []]:=fun a b c d e => .cons (.refl _) (.cons (.refl _) (.cons (.refl _) (.cons (.refl _) (.cons (.refl _) (.cons (iC 1) .nil)))))
 refine ar.start lay [] [] 0 Tryz.func70 rfl rfl (by rfl) (by kernel_rfl) ?_
 simp[Tryz.f70];refine bD Tryz.func103 rfl rfl (w1 0 0 1 15 0 [0]) (lJ ?_);refine ab.run lay [] ?_;simp;refine bD Tryz.func103 rfl rfl (w1 3 1 1 16 1 [0]) (lJ ?_);refine ab.run lay [] ?_;simp;refine bD Tryz.func103 rfl rfl (w1 4 0 1 15 2 [0,2]) (lJ ?_);refine ab.run lay [] ?_;simp;refine bD Tryz.func103 rfl rfl (w0 10 0 2 14 0) (lJ ?_);refine ab.run lay [] ?_;simp;refine bD Tryz.func103 rfl rfl (w1 12 0 1 15 0 [2]) (lJ ?_);refine ab.run lay [] ?_;simp;exact .nu (fq 6 _ .exact) (.done h)
theorem l9 {n:Nat} {most:Int} (hn:n≤5) (h:KF (.val (bg (cU n most))) σ):ar Tryz.prog m 42 [int n,int most] σ KF:=by
 refine ar.start lay [] [] 2 Tryz.func42 rfl rfl (by rfl) (by kernel_rfl) ?_
 simp[Tryz.f42];refine dL.intro fun k hk=>?_
 simp;refine ap Tryz.func70 rfl rfl (GR ?_);refine ab.run lay [] ?_;simp;refine qP lay rfl vo rfl DO (es:=pU.map gM) (sp:=.any) (l:=0) (h:=n) ?_ (fun cap hcap=>⟨rfl,⟨⟨.i64,by simp⟩,?_⟩,rfl⟩) (by simp[pU];omega) ?_
 . simp
 . simp[pU] at hcap;omega
 refine ab.run lay [] ?_;simp[bt]
 have hrow:(AV.sl 1 [AV.sl 1 [int 0,int 2] .exact,.sl 1 [int 2,int 0] .exact] .exact).W (rows [[0,2],[2,0]]):=KJ rfl (fun a ha=>by simp at ha;rcases ha with rfl|rfl <;> rfl) (fun a ha=>by simp at ha;rcases ha with rfl|rfl <;> rfl) (fun i a a' h1 h2=>by
  match i with
  | 0=>simp at h1 h2;subst h1;subst h2;exact fq 1 [int 0,int 2] .exact
  | 1=>simp at h1 h2;subst h1;subst h2;exact fq 1 [int 2,int 0] .exact
  | i+2=>simp at h1)
 refine .less (by repeat (first|exact aa.le_refl _|assumption|refine aa.gE ?_ (by assumption) | refine aa.i8 ?_ (by assumption))) (.nu (a':=bg (cU n most)) (vz rfl fun i a a' h1 h2=>?_) (.done h))
 match i with
 | 0=>simp[eS,cU] at h1 h2;subst h1;subst h2;rw[← List.map_take];exact .refl _
 | 1=>simp[eS,cU] at h1 h2;subst h1;subst h2;exact hrow
 | 2=>simp[eS,cU] at h1 h2;subst h1;subst h2;exact .refl _
 | 3=>simp[eS,cU] at h1 h2;subst h1;subst h2;exact .refl _
 | 4=>simp[eS,cU] at h1 h2;subst h1;subst h2;exact .refl _
 | 5=>simp[eS,cU] at h1 h2;subst h1;subst h2;exact .refl _
 | i+6=>simp at h1
end Go.Proofs.YtelgggdkahhhfaaGreatDoor
namespace Go.Proofs.YtelgggdkahhhfaaGreatDoor
open Go.aZ Go.Conc
set_option maxHeartbeats 1000000
set_option maxRecDepth 4000
variable {m:Mo} {σ:aa} {KF:cV->aa->Prop}
def au (w:List Int):Int:=w.foldl (fun n k=>max n (k+1)) 0
def cy:Option (List Int)->List Int->Option (List Int)
 | none,w=>some w
 | some v,w=>if au w<au v then some w else some v
def jR:Option (List Int)->List AV
 | none=>[.lit (.slice none 0 0),int 0,bool false]
 | some w=>[ints w,int (au w),bool true]
theorem GS {c:Nat} {o:Option (List Int)} {w:List Int} (hc:σ c=some (.cells (jR o))) (h:∀ σ',σ' c=some (.cells (jR (cy o w)))->(∀ x,x≠c->σ' x=σ x)->KF (.val (.cB [])) σ'):ar Tryz.prog m 46 [.ref c 0,ints w,int (au w)] σ KF:=by
 cases o with
 | none=>
   simp only[jR] at hc;refine ar.start lay [] [] 3 Tryz.func46 rfl rfl (by rfl) (by kernel_rfl) ?_
   simp[Tryz.f46,hc];refine .done (h _ (aa.ao _ _ _) fun x hx=>?_)
   simp[aa.ak,hx]
 | some v=>
   simp only[jR] at hc;refine ar.start lay [] [] 3 Tryz.func46 rfl rfl (by rfl) (by kernel_rfl) ?_
   simp[Tryz.f46,hc]
   by_cases g:au w<au v
   . simp[aF,g,hc]
     simp only[cy,if_pos g] at h;refine .done (h _ (aa.ao _ _ _) fun x hx=>?_)
     simp[aa.ak,hx]
   . simp[aF,g,hc]
     simp only[cy,if_neg g] at h;exact .done (h _ hc fun x _=>rfl)
theorem pg (f:Fr) (begun:List Int):∀ (fuel:Nat) (bT:List Int) (many:Int) (hs:List Int),(∀ x∈bT,0≤x∧x<f.most)->∀ w∈fY f begun fuel bT many hs,∀ x∈w,0≤x∧x<f.most
 | 0,bT,many,hs,hb,w,hw=>by simp[fY] at hw;subst hw;exact hb
 | fuel+1,bT,many,hs,hb,w,hw=>by
   rw[kN,List.mem_flatMap] at hw;obtain⟨k,hk1,hk⟩:=hw;have:=List.mem_range.1 hk1;unfold ko at hk;split at hk
   . cases hk
   split at hk
   . refine pg f begun fuel _ _ _ (fun x hx=>?_) w hk
     rcases List.mem_append.1 hx with hx|hx
     . exact hb x hx
     . simp at hx;subst hx;omega
   . cases hk
section
variable {b mb:Nat} {f:Fr} {Un:aa->Prop} {Ld:aa->List (Int × AV)->Prop}
theorem t6 (hs:m.solo=true) {f:Fr} {w:List Int} (hf:f.Fits) (hc:check f=0) (hw:(az f []).foldl cy none=some w) (hlen:(az f []).length<1152921504606846976) (h:KF (.val (.cB [ints w,int (au w),int 0])) σ):ar Tryz.prog m 17 [bg f] σ KF:=by
 have hg:=Fr.sM hf hc;have hm6:=hg.vt;have hway:az f []≠[]:=fun e=>by rw[e] at hw;cases hw
 have hwl:∀ w∈az f [],w.length=f.aB.length:=fun w hw=>by have:=l8 f [] _ _ _ _ w hw;simpa using this
 have hwm:∀ w∈az f [],∀ x∈w,0≤x∧x<f.most:=fun w hw=>pg f [] _ _ _ _ (by simp) w hw
 refine ar.start lay [] If 1 Tryz.func17 rfl rfl (by rfl) (by kernel_rfl) ?_
 simp[Tryz.f17];have hW:Wl [bg f,AV.lit (.slice none 0 0)] [bg f,.sl 1 (([]:List Int).map int) .any]:=.cons (.refl _) (.cons (iC 1) .nil);refine bD Tryz.func44 rfl rfl hW (tZ (l:=[]) (sp:=.any) hs hf hc (by simp) (by simp) hway fun b mb σ0 hne hu hfr hle0=>?_)
 refine ab.run lay [] ?_;simp;have LK:Ch Tryz.prog m nn b 6 mb .u8 (fE f) (Gy b 6 mb .u8 (fE f)) (M4 b 6 mb .u8):=lF tW tX BZ hs hne;refine dL.intro fun c7 h7=>?_
 simp;have hW:Wl [io b mb f 0,AV.lit (.slice none 0 0)] [io b mb f 0,ints []]:=.cons (.refl _) (.cons (iC 1) .nil);refine bD Tryz.func45 rfl rfl hW (qt (begun:=[]) ?_);refine ab.run lay [] ?_;simp;refine ab.rangeFunc rfl fun hpl r l hr hl hrl=>?_
 obtain⟨a1,_,hr⟩:=aa.aR hr;obtain⟨a2,_,hl⟩:=aa.aR hl;have hr0:σ0 r=none∧r≠c7:=⟨hr,a1⟩;have hl0:σ0 l=none∧l≠c7:=⟨hl,a2⟩;generalize hal:lb.mk _ _ _ _ _ _ _ _ _=al
 have hY:Ik m (.fn (.yield l) [] []) (az f []) (fun k F σ'=>(∀ c,F c ↔ c=l∨c=c7)∧σ' l=some (.loop al)∧σ' c7=some (.cells (jR (((az f []).take k).foldl cy none)))) (fun F σ'=>False):=by
  refine⟨fun k F σ' KF' hk hI hT hF=>?_,fun k F σ1 σ2 he hI=>?_,fun F σ1 σ2 he hI=>hI.elim,fun k F σ' c hI hc=>?_⟩
  . obtain⟨hFd,g1,g3⟩:=hI
    have hmem:(az f [])[k]∈az f []:=List.getElem_mem hk
    have hsucc:((az f []).take (k+1)).foldl cy none=cy (((az f []).take k).foldl cy none) (az f [])[k]:=by
     rw[List.take_succ_eq_append_getElem hk,List.foldl_append];rfl
    subst hal;refine cI.uL (hold:=If) hpl Tryz.func17 g1 rfl ?_;refine ab.run lay [] ?_;simp[gu];refine ab.beginRound g1 rfl ?_;refine ab.run lay [] ?_;simp[gu];refine ap Tryz.func47 rfl rfl (A8 (by rw[hwl _ hmem];have:=hg.vt;omega) (fun x hx=>by have:=hwm _ hmem x hx;have:=hg.most;omega) ?_)
    refine ab.run lay [] ?_;simp;refine ap Tryz.func46 rfl rfl (GS (o:=((az f []).take k).foldl cy none) (w:=(az f [])[k]) ((aa.ak _ _ (Ne.symm hl0.2)).trans g3) fun σ2 q1 q2=>?_)
    refine ab.run lay [] ?_;simp;refine⟨rfl,rfl,_,((q2 l hl0.2).trans (aa.ao _ _ _)),?_⟩;refine hT F _ (fun c x hc hx=>⟨?_,hc⟩) ⟨hFd,aa.ao _ _ _,?_⟩
    . have p1:c≠l:=fun e=>hc ((hFd c).2 (.inl e))
      have p3:c≠c7:=fun e=>hc ((hFd c).2 (.inr e))
      exact (aa.ak _ _ p1).trans ((q2 c p3).trans ((aa.ak _ _ p1).trans hx))
    . rw[hsucc]
      exact (aa.ak _ _ (Ne.symm hl0.2)).trans q1
  . obtain⟨hFd,g1,g3⟩:=hI
    exact⟨hFd,by rw[he l ((hFd l).2 (.inl rfl))];exact g1,by rw[he c7 ((hFd c7).2 (.inr rfl))];exact g3⟩
  . obtain⟨hFd,g1,g3⟩:=hI
    rcases (hFd c).1 hc with rfl|rfl
    . exact⟨_,g1,rfl⟩
    . exact⟨_,g3,rfl⟩
 obtain⟨xb,hxb,hpb⟩:=LK.Ia hu;have nb:∀ c,σ0 c=none->c≠b:=fun c hc e=>by subst e;rw[hc] at hxb;cases hxb
 have hle:σ0.Le (((σ0.set c7 (.cells (jR none))).set r (.raw (.deferred (some [])))).set l (.loop al)):=(by repeat (first|exact aa.le_refl _|assumption|refine aa.gE ?_ (by assumption) | refine aa.i8 ?_ (by assumption)))
 have sr:(((σ0.set c7 (.cells (jR none))).set r (.raw (.deferred (some [])))).set l (.loop al)) r=some (.raw (.deferred (some []))):=(aa.ak _ _ hrl).trans (aa.ao _ _ _);have s7:(((σ0.set c7 (.cells (jR none))).set r (.raw (.deferred (some [])))).set l (.loop al)) c7=some (.cells (jR none)):=(aa.ak _ _ (Ne.symm hl0.2)).trans ((aa.ak _ _ (Ne.symm hr0.2)).trans (aa.ao _ _ _))
 refine dW Tryz.func72 rfl rfl rfl (oc (F:=fun c=>c=l∨c=c7) LK hg (by simp) hY ⟨rfl,rfl⟩ (LK.un (fun c _ ⟨x,h1,_⟩=>(hle _ _ h1).trans h1.symm) hu) ⟨fun c=>Iff.rfl,aa.ao _ _ _,by simpa[jR] using s7⟩ fun F' σ' hmv hu' hend=>?_)
 have hr':=(hmv r _ sr (fun e=>by rcases e with e|e;exact hrl e;exact hr0.2 e) (nb r hr) (.inr rfl)).1
 have hkeep:kj b mb σ0 σ':=fun c x h1 h2 h3'=>(hmv c x (hle c x h1) (fun e=>by rcases e with e|e <;> subst e <;> simp_all) h2 h3').1
 rcases hend with ⟨_,q1,q3⟩|q
 . rw[List.take_length,hw] at q3
   subst hal;refine⟨_,q1,by simp,rfl,?_⟩
   have q3':(σ'.del l) c7=some (.cells [ints w,int (au w),bool true]):=by simp only[aa.del,Ne.symm hl0.2,if_false];exact q3
   refine ab.run lay [] ?_;simp[q3'];refine ab.run lay [] ?_;simp;refine⟨by simp only[aa.del,hrl,if_false];exact hr',.less (fun c x hx=>?_) (.done h)⟩
   have hx0:=hle0 c x hx;have c1:c≠r:=fun e=>by subst e;rw[hr] at hx0;cases hx0
   have c2:c≠l:=fun e=>by subst e;rw[hl] at hx0;cases hx0
   have c3:c≠b:=fun e=>by subst e;rw[hfr.1] at hx;cases hx
   have c4:c≠mb:=fun e=>by subst e;rw[hfr.2] at hx;cases hx
   rw[aa.ak _ _ c1];simp only[aa.del,c2,if_false];exact hkeep c x hx0 c3 (.inl c4)
 . exact q.elim
end
end Go.Proofs.YtelgggdkahhhfaaGreatDoor
namespace Go.Proofs.YtelgggdkahhhfaaGreatDoor
open Go.aZ Go.Conc
set_option maxHeartbeats 1000000
set_option maxRecDepth 4000
variable {m:Mo} {σ:aa} {KF:cV->aa->Prop}
def lK (l:List m7) (out:List Int):List m7:=(l.zipIdx.filter fun p => !decide ((p.2:Int)∈out)).map Prod.fst
theorem r6 (l:List m7) (out:List Int) (k:Nat) (h:k<l.length):lK (l.take (k+1)) out=lK (l.take k) out ++ if (k:Int)∈out then [] else [l[k]]:=by
 unfold lK;rw[List.take_succ_eq_append_getElem h,List.zipIdx_append,List.filter_append,List.map_append];congr 1;rw[List.length_take,Nat.min_eq_left (by omega)]
 by_cases hk:(k:Int)∈out <;> simp[hk]
theorem t7 (l:List m7) (out:List Int):(lK l out).length≤l.length:=by
 unfold lK;rw[List.length_map];refine Nat.le_trans (List.length_filter_le _ _) ?_;simp
def c9 (f:Fr) (out:List Int):Fr:={ f with aB:=lK f.aB out }
theorem yV {f:Fr} {out:List Int} (hf:f.Good) (hl:out.length<1152921504606846976) (h:KF (.val (bg (c9 f out))) σ):ar Tryz.prog m 40 [bg f,ints out] σ KF:=by
 have h6:=hf.vt;refine ar.start lay [2] [] 2 Tryz.func40 rfl rfl (by rfl) (by kernel_rfl) ?_
 simp[Tryz.f40];refine dL.intro fun c2 h2=>?_
 simp;refine dL.intro fun c4 h4=>?_
 obtain⟨z1,z2,h4⟩:=aa.aR h4;simp[z1,z2,aa.ak];generalize hσb:(σ.set c2 (.cells (eS f))).set c4 (.cells [AV.lit (.slice none 0 0),.lit (.slice none 0 0),int 0,int 0,int 0,int 0])=σb;have hle:σ.Le σb:=by subst hσb;exact aa.fQ (aa.fQ (aa.le_refl _) h2) (by rw[aa.ak _ _ z1];exact h4)
 have b2:σb c2=some (.cells (eS f)):=by subst hσb;simp[aa.ak,aa.ao,z1,z2]
 have b4:σb c4=some (.cells [AV.lit (.slice none 0 0),.lit (.slice none 0 0),int 0,int 0,int 0,int 0]):=by subst hσb;simp[aa.ao]
 refine ab.loop f.aB.length (fun k s => ∃ env σ',s=⟨env,σ',[],.no⟩∧env 1=ints out∧env 2 = .ref c2 0∧env 4 = .ref c4 0∧env 9=rQ f.aB∧env 10=int f.aB.length∧env 11=int k∧Tok σb σ' (env 5) 6 ((lK (f.aB.take k) out).map gM)) ⟨_,σb,by rw[← hσb],by simp,by simp,by simp,by simp,by simp,by simp,by simpa[lK] using Tok.nil σb 6⟩ ?_
 rintro c0 k _ hk ⟨env,σ',rfl,e1,e2,e4,e9,ew,tp,htok⟩ ih
 have htc:=htok.cells;refine ab.run lay [2] ?_;simp[e1,e2,e4,e9,ew,tp,htc.1,htc.2];refine aF.intro (fun g1=>?_) (fun g1=>?_) <;> (try simp[-Int.not_lt,-Int.not_le,-Nat.not_lt,-Nat.not_le] at g1) <;> (try simp[e1,e2,e4,e9,ew,tp,htc.1,htc.2,g1])
 . refine dL.intro fun c7 h7=>?_
   simp[e1,e2,e4,e9,ew,tp,htc.1,htc.2];refine ap Tryz.func69 rfl rfl (il hl ?_);refine ab.run lay [2] ?_;simp[e1,e2,e4,e9,ew,tp,htc.1,htc.2];refine aF.intro (fun g2=>?_) (fun g2=>?_) <;> (try simp[-Int.not_lt,-Int.not_le,-Nat.not_lt,-Nat.not_le] at g2) <;> (try simp[e1,e2,e4,e9,ew,tp,htc.1,htc.2,g2])
   . refine⟨by omega,ih _ g1 ⟨_,_,rfl,by simp[e1,e2,e4,e9,ew,tp,htc.1,htc.2],by simp[e1,e2,e4,e9,ew,tp,htc.1,htc.2],by simp[e1,e2,e4,e9,ew,tp,htc.1,htc.2],by simp[e1,e2,e4,e9,ew,tp,htc.1,htc.2],by simp[e1,e2,e4,e9,ew,tp,htc.1,htc.2],by simp,?_⟩⟩
     have:=htok.up (aa.fQ (x:=.cells [int f.aB[k].hour,int f.aB[k].place,int f.aB[k].gL,ints f.aB[k].marks,int f.aB[k].bb,int f.aB[k].lG]) (aa.le_refl _) h7);rw[r6 _ _ _ g1,if_pos g2,List.append_nil];simpa using this
   . have hlk:=t7 (f.aB.take k) out
     rw[List.length_take] at hlk;refine aU lay rfl rfl rfl vo rfl vo rfl DO (by decide) (by simp;omega) (σ0:=σb) (es:=(lK (f.aB.take k) out).map gM) (xs:=[gM f.aB[k]]) (by simpa using htok.up (aa.fQ (aa.le_refl _) h7)) (.inr ⟨_,rfl⟩) fun a' σ2 ht'=>?_
     refine ab.run lay [2] ?_;simp[e1,e2,e4,e9,ew,tp,htc.1,htc.2];refine⟨by omega,ih _ g1 ⟨_,_,rfl,by simp[e1,e2,e4,e9,ew,tp,htc.1,htc.2],by simp[e1,e2,e4,e9,ew,tp,htc.1,htc.2],by simp[e1,e2,e4,e9,ew,tp,htc.1,htc.2],by simp[e1,e2,e4,e9,ew,tp,htc.1,htc.2],by simp[e1,e2,e4,e9,ew,tp,htc.1,htc.2],by simp,?_⟩⟩
     rw[r6 _ _ _ g1,if_neg g2,List.map_append];simpa using ht'
 . have hk':k=f.aB.length:=by omega
   subst hk';rw[List.take_length] at htok;simp[e1,e2,e4,e9,ew,tp,htc.1,htc.2,htok.1 _ _ b2,eS,bt,htok.1 _ _ b4,aa.ak,z1,z2];refine .less (fun c x hx=>?_) (.nu (a':=bg (c9 f out)) (vz rfl fun i a a' q1 q2=>?_) (.done h))
   . have n2:c≠c2:=fun e=>by subst e;rw[h2] at hx;cases hx
     have n4:c≠c4:=fun e=>by subst e;rw[h4] at hx;cases hx
     rw[aa.ak _ _ n4,aa.ak _ _ n2];exact htok.1 _ _ (hle _ _ hx)
   . match i with
     | 0=>simp[eS,c9] at q1 q2;subst q1;subst q2;exact htok.W
     | 1=>simp[eS,c9] at q1 q2;subst q1;subst q2;exact .refl _
     | 2=>simp[eS,c9] at q1 q2;subst q1;subst q2;exact .refl _
     | 3=>simp[eS,c9] at q1 q2;subst q1;subst q2;exact .refl _
     | 4=>simp[eS,c9] at q1 q2;subst q1;subst q2;exact .refl _
     | 5=>simp[eS,c9] at q1 q2;subst q1;subst q2;exact .refl _
     | i+6=>simp at q1
end Go.Proofs.YtelgggdkahhhfaaGreatDoor
namespace Go.Proofs.YtelgggdkahhhfaaGreatDoor
open Go.aZ Go.Conc
set_option maxHeartbeats 1000000
set_option maxRecDepth 4000
variable {m:Mo} {σ:aa} {KF:cV->aa->Prop}
def eU (f:Fr):Nat->Nat->List Int->Option (List Int)
 | 0,_,out=>if az (c9 f out) []≠[] then some out else none
 | more+1,frm,out=>(List.range' frm (f.aB.length-frm)).findSome? fun n=>eU f more (n+1) (out ++ [(n:Int)])
theorem t8 (l:List m7) (out:List Int):∀ e∈lK l out,e∈l:=fun e he=>by
 unfold lK at he;obtain⟨p,hp,rfl⟩:=List.mem_map.1 he;have:=(List.mem_filter.1 hp).1;exact List.fst_mem_of_mem_zipIdx this
theorem sN {f:Fr} (hf:f.Good) (out:List Int):(c9 f out).Good:=by
 have hl:=t7 f.aB out;exact⟨⟨Nat.lt_of_le_of_lt hl hf.fits.aB,hf.fits.roads,hf.fits.row,fun e he=>hf.fits.marks e (t8 _ _ e he)⟩,hf.fr,hf.to,hf.le,hf.iM,hf.most,Nat.le_trans hl hf.vt,fun e he=>hf.FF e (t8 _ _ e he),hf.I5⟩
namespace W
abbrev KK:List Entry:=[⟨7,.take [1,2,3,4,5,7,10,11,12,13] false (.both 0 (.both 6 (.one 8 (.one 9 (.one 14 (.done)))) (.one 8 (.one 6 (.one 9 (.one 14 (.done)))))) (.both 6 (.both 0 (.one 8 (.one 9 (.one 14 (.done)))) (.one 8 (.both 0 (.one 9 (.one 14 (.done))) (.one 9 (.take [0] true (.one 14 (.done))))))) (.one 8 (.both 0 (.one 6 (.one 9 (.one 14 (.done)))) (.one 6 (.both 0 (.one 9 (.one 14 (.done))) (.one 9 (.take [0] true (.one 14 (.done))))))))))⟩]
def t9 (x:Nat) (σ σ':aa):Prop := ∀ c v,σ c=some v->c≠x->σ' c=some v
abbrev yW (f:Fr) (c5 c6:Nat):AV:=.fn (.func 38) [] [.ref c5 0,.cp (bg f) 0,.ref c6 0]
theorem B0 (hs:m.solo=true) {f:Fr} (hf:f.Good) {c5 c6:Nat} (h56:c5≠c6):∀ (more frm:Nat) (out:List Int) (sp:bK) (σ:aa) (KF:cV->aa->Prop) (v:AV),σ c5=some (.cells [v])->σ c6=some (.cells [yW f c5 c6])->frm≤f.aB.length->out.length+more≤6 ->
 (∀ σ',t9 c5 σ σ'->(∃ v',σ' c5=some (.cells [v']))->(∀ w,eU f more frm out=some w->∃ sp,σ' c5=some (.cells [.sl 1 (w.map int) sp]))->KF (.val (bool (eU f more frm out).isSome)) σ')->ar Tryz.prog m 38 [.sl 1 (out.map int) sp,int frm,int more,.ref c5 0,.cp (bg f) 0,.ref c6 0] σ KF:=by
 intro more
 induction more with
 | zero=>
   intro frm out sp σ KF v h5 h6 hfrm hlen h;refine ar.start lay [] KK 6 Tryz.func38 rfl rfl (by rfl) (by kernel_rfl) ?_
   simp[Tryz.f38,h5,h6];have hW:Wl [bg f,AV.sl 1 (out.map int) sp] [bg f,ints out]:=.cons (.refl _) (.cons (fq 1 _ sp) .nil);refine bD Tryz.func40 rfl rfl hW (yV hf (by omega) ?_)
   refine ab.run lay [] ?_;simp;refine ap Tryz.func39 rfl rfl (rT fun b mb σ2 hn=>?_)
   have hu:Gy b 6 mb .u8 (fE (c9 f out)) σ2:=by
    rw[hn.eq];exact⟨aa.ao _ _ _,[],(aa.ak _ _ (Ne.symm hn.ne)).trans (aa.ao _ _ _),fun n a h=>by simp[fu] at h⟩
   refine ab.run lay [] ?_;simp;refine ap Tryz.func41 rfl rfl (vy (lF tW tX BZ hs hn.ne) (sN hf out) hu fun σ3 q1 q2=>?_)
   refine ab.run lay [] ?_;simp
   have hg:(eU f 0 frm out).isSome = !decide (az (c9 f out) []=[]):=by
    unfold eU
    by_cases g:az (c9 f out) []=[] <;> simp[g]
   rw[← hg]
   have key:∀ c x,(σ.set c5 (.cells [.sl 1 (out.map int) sp])) c=some x->σ3 c=some x:=fun c x hx=>by
    have n1:c≠b:=fun e=>by subst e;rw[hn.hb] at hx;cases hx
    have n2:c≠mb:=fun e=>by subst e;rw[hn.vL] at hx;cases hx
    exact q2 c x (hn.le c x hx) n1 (.inl n2)
   refine .done (h σ3 (fun c x hx hc=>key c x ((aa.ak _ _ hc).trans hx)) ⟨_,key c5 _ (aa.ao _ _ _)⟩ fun w hw=>⟨sp,?_⟩)
   have:w=out:=by
    unfold eU at hw;split at hw
    . exact (Option.some.inj hw).symm
    . cases hw
   subst this;exact key c5 _ (aa.ao _ _ _)
 | succ more IH=>
   intro frm out sp σ KF v h5 h6 hfrm hlen h;refine ar.start lay [] KK 6 Tryz.func38 rfl rfl (by rfl) (by kernel_rfl) ?_
   simp[Tryz.f38,h5,h6];have hb0:((more:Int)+1 == 0)=false:=by simp;omega
   simp[aF,hb0];refine ab.loop (f.aB.length-frm) (fun k s => ∃ env σ',s=⟨env,σ',[],.no⟩∧env 0 = .sl 1 (out.map int) sp∧env 2=int (more+1)∧env 4 = .cp (bg f) 0∧env 5 = .ref c6 0∧env 10=int ((frm:Int)+k)∧t9 c5 σ σ'∧(∃ v',σ' c5=some (.cells [v']))∧eU f (more+1) frm out=(List.range' (frm+k) (f.aB.length-(frm+k))).findSome? fun n=>eU f more (n+1) (out ++ [(n:Int)])) ⟨_,_,rfl,by simp,by simp,by simp,by simp,by simp,fun c v h _=>h,⟨_,h5⟩,rfl⟩ ?_
   rintro c0 k _ hk ⟨env,σ',rfl,e0,e2,e4,e5,ew,hkeep,⟨v',h5'⟩,hgr⟩ ih
   have h6':=hkeep _ _ h6 (Ne.symm h56);have hlen6:=hf.vt;refine ab.run lay [] ?_;simp[e0,e2,e4,e5,ew,h6'];refine aF.intro (fun g1=>?_) (fun g1=>?_) <;> (try simp[-Int.not_lt,-Int.not_le,-Nat.not_lt,-Nat.not_le] at g1) <;> (try simp[e0,e2,e4,e5,ew,h6',g1])
   . have r1 : -9223372036854775808≤(frm:Int)+k+1∧(frm:Int)+k+1≤9223372036854775807:=by omega
     have r2 : -9223372036854775808≤(more:Int)∧(more:Int)≤9223372036854775807:=by omega
     have hcall:∀ σ3 sp' (KF':cV->aa->Prop),σ'.Le σ3->(∀ v σ4,t9 c5 σ σ4->(∃ v',σ4 c5=some (.cells [v']))->(v=true->(eU f (more+1) frm out).isSome=true∧∀ w,eU f (more+1) frm out=some w->∃ sp,σ4 c5=some (.cells [.sl 1 (w.map int) sp]))->(v=false->eU f (more+1) frm out=(List.range' (frm+(k+1)) (f.aB.length-(frm+(k+1)))).findSome? fun n=>eU f more (n+1) (out ++ [(n:Int)]))->KF' (.val (bool v)) σ4)->ar Tryz.prog m 38 [.sl 1 (out.map int ++ [int ((frm:Int)+k)]) sp',int ((frm:Int)+k+1),int more,.ref c5 0,.cp (bg f) 0,.ref c6 0] σ3 KF':=fun σ3 sp' KF' hle hK=>by
      have hsplit:eU f (more+1) frm out=(eU f more (frm+k+1) (out ++ [((frm+k:Nat):Int)])).or ((List.range' (frm+(k+1)) (f.aB.length-(frm+(k+1)))).findSome? fun n=>eU f more (n+1) (out ++ [(n:Int)])):=by
       rw[hgr];obtain⟨n,hn⟩:∃ n,f.aB.length-(frm+k)=n+1:=⟨f.aB.length-(frm+k)-1,by omega⟩
       have hn':f.aB.length-(frm+(k+1))=n:=by omega
       rw[hn,hn',List.range'_succ,List.findSome?_cons];cases eU f more (frm+k+1) (out ++ [((frm+k:Nat):Int)]) <;> rfl
      have:=IH (frm+k+1) (out ++ [((frm+k:Nat):Int)]) sp' σ3 KF' v' (hle _ _ h5') (hle _ _ h6') (by omega) (by simp;omega) fun σ4 q1 q2 q3=>hK _ σ4 (fun c x hx hc=>q1 c x (hle _ _ (hkeep c x hx hc)) hc) q2 (fun hv=>by
       rw[hsplit];cases hg:eU f more (frm+k+1) (out ++ [((frm+k:Nat):Int)]) with
       | none=>rw[hg] at hv;cases hv
       | some w=>exact⟨rfl,fun w' hw'=>q3 w' (by rw[hg];exact hw')⟩) (fun hv=>by
       rw[hsplit];cases hg:eU f more (frm+k+1) (out ++ [((frm+k:Nat):Int)]) with
       | none=>rfl
       | some w=>rw[hg] at hv;cases hv)
      simpa using this
     simp[e0,e2,e4,e5,ew,h6',r1.1,r1.2,r2.1,r2.2]
     repeat' (first
               | apply And.intro
               | (refine pE lay rfl dz rfl tO (es:=out.map int) (sp:=sp) (l:=0) (h:=out.length) (by simp[e0]) (fun cap hcap=>⟨⟨⟨.i64,by simp⟩,by simpa using hcap⟩,⟨⟨.i64,by simp⟩,Nat.le_refl _⟩,rfl⟩) (by simp) fun a ha=>?_
                  have hta:Tok σ' σ' a 1 (out.map int):=by
                   rcases ha with rfl|⟨e,rfl⟩
                   . have:List.take (out.length-0) (List.drop 0 (out.map int))=out.map int:=by rw[List.drop_zero,List.take_of_length_le (by simp)]
                     rw[this];exact .exact _ _ _
                   . rw[e];exact .nil _ _
                  clear ha;refine bk.go lay [] ?_;simp[h6',e0,e2,e4,e5,ew,r1.1,r1.2,r2.1,r2.2])
               | (refine aU lay rfl rfl rfl dz rfl dz rfl tO (by decide) (by simp;omega) (σ0:=σ') (es:=out.map int) (xs:=[int ((frm:Int)+k)]) (by simpa using hta) (.inr ⟨_,by simp;rfl⟩) fun a' σ3 ht'=>?_
                  obtain⟨sp',rfl⟩:∃ sp',a' = .sl 1 (out.map int ++ [int ((frm:Int)+k)]) sp':=by
                   rcases ht'.2 with ⟨_,e⟩|e|⟨_,_,_,e,_⟩
                   . simp at e
                   . exact⟨_,e⟩
                   . exact⟨_,e⟩
                  have s36:=ht'.1 _ _ h6';refine bk.go lay [] ?_;simp[s36,e0,e2,e4,e5,ew,r1.1,r1.2,r2.1,r2.2])
               | (refine dW Tryz.func38 rfl rfl (by simp) (hcall σ3 sp' _ ht'.1 fun v σ4 q1 q2 q3 q4=>?_)
                  refine bk.go lay [] ?_;simp[e0,e2,e4,e5,ew,r1.1,r1.2,r2.1,r2.2];cases v with
                  | true=>
                    refine ab.run lay [] ?_;simp[aF,e0,e2,e4,e5,ew,r1.1,r1.2,r2.1,r2.2];obtain⟨w1,w2⟩:=q3 rfl;have hK:=h σ4 q1 q2 w2;rw[w1] at hK;exact .done hK
                  | false=>
                    refine ab.run lay [] ?_;simp[aF,e0,e2,e4,e5,ew,r1.1,r1.2,r2.1,r2.2];refine ih _ (by omega) ⟨_,_,rfl,by simp[e0],by simp[e2],by simp[e4],by simp[e5],by simp;omega,q1,q2,q4 rfl⟩))
   . have:f.aB.length-(frm+k)=0:=by omega
     rw[this] at hgr;rw[hgr] at h;exact .done (h _ hkeep ⟨_,h5'⟩ fun w hw=>by cases hw)
end W
end Go.Proofs.YtelgggdkahhhfaaGreatDoor
namespace Go.Proofs.YtelgggdkahhhfaaGreatDoor
open Go.aZ Go.Conc
set_option maxHeartbeats 1000000
set_option maxRecDepth 4000
variable {m:Mo} {σ:aa} {KF:cV->aa->Prop}
open W
def z9 (f:Fr):Option (List Int):=(List.range' 0 (f.aB.length+1)).findSome? fun many=>eU f many 0 []
theorem Fg (hs:m.solo=true) {f:Fr} {w:List Int} (hf:f.Fits) (hc:check f=0) (hw:z9 f=some w) (h:KF (.val (.cB [ints w,int 0])) σ):ar Tryz.prog m 15 [bg f] σ KF:=by
 have hg:=Fr.sM hf hc;have h6:=hg.vt;refine ar.start lay [] [] 1 Tryz.func15 rfl rfl (by rfl) (by kernel_rfl) ?_
 simp[Tryz.f15];refine ap Tryz.func37 rfl rfl (xn hf ?_);refine ab.run lay [] ?_;simp[hc];refine dL.intro fun c5 h5=>?_
 simp;refine dL.intro fun c6 h6'=>?_
 obtain⟨z1,z2,h6'⟩:=aa.aR h6';simp[z1,z2,aa.ak];refine⟨by omega,?_⟩
 generalize hσb:(σ.set c5 (.cells [AV.lit (.slice none 0 0)])).set c6 (.cells [yW f c5 c6])=σb;have hle:σ.Le σb:=by subst hσb;exact aa.fQ (aa.fQ (aa.le_refl _) h5) (by rw[aa.ak _ _ z1];exact h6')
 have b5:σb c5=some (.cells [AV.lit (.slice none 0 0)]):=by subst hσb;simp[aa.ak,aa.ao,z1,z2]
 have b6:σb c6=some (.cells [yW f c5 c6]):=by subst hσb;simp[aa.ao]
 have hend:∀ σ',t9 c5 σb σ'->σ.Le σ':=fun σ' hk c x hx=>hk c x (hle c x hx) (fun e=>by subst e;rw[h5] at hx;cases hx)
 refine ab.loop (f.aB.length+1) (fun k s => ∃ env σ',s=⟨env,σ',[],.no⟩∧env 5 = .ref c5 0∧env 6 = .ref c6 0∧env 17=int ((f.aB.length:Int)+1)∧env 18=int k∧t9 c5 σb σ'∧(∃ v',σ' c5=some (.cells [v']))∧((List.range' k (f.aB.length+1-k)).findSome? fun many=>eU f many 0 [])=some w) ⟨_,σb,by rw[← hσb],by simp,by simp,by simp,by simp,fun c v h _=>h,⟨_,b5⟩,hw⟩ ?_
 rintro c0 k _ hk ⟨env,σ',rfl,e5,e6,e17,FE,hkeep,⟨v',h5'⟩,hgr⟩ ih
 have h6'':=hkeep _ _ b6 z1;refine ab.run lay [] ?_;simp[e5,e6,e17,FE,h6''];refine aF.intro (fun g1=>?_) (fun g1=>?_) <;> (try simp[-Int.not_lt,-Int.not_le,-Nat.not_lt,-Nat.not_le] at g1) <;> (try simp[e5,e6,e17,FE,h6'',g1])
 . have hk6:k≤f.aB.length:=by omega
   obtain⟨n,hn⟩:∃ n,f.aB.length+1-k=n+1:=⟨f.aB.length-k,by omega⟩
   have hn':f.aB.length+1-(k+1)=n:=by omega
   rw[hn,List.range'_succ,List.findSome?_cons] at hgr;have hW:Wl [AV.lit (.slice none 0 0),int 0,int k,.ref c5 0,.cp (bg f) 0,.ref c6 0] [.sl 1 (([]:List Int).map int) .any,int (0:Nat),int k,.ref c5 0,.cp (bg f) 0,.ref c6 0]:=.cons (iC 1) (.cons (.refl _) (.cons (.refl _) (.cons (.refl _) (.cons (.refl _) (.cons (.refl _) .nil)))));refine dW Tryz.func38 rfl rfl rfl (ar.zg (B0 hs hg (Ne.symm z1) k 0 [] .any σ' _ v' h5' h6'' (by omega) (by simp;omega) fun σ3 q1 q2 q3=>?_) hW)
   have hk3:t9 c5 σb σ3:=fun c x hx hc=>q1 c x (hkeep c x hx hc) hc
   cases hgw:eU f k 0 [] with
   | some w'=>
     rw[hgw] at hgr;have:w'=w:=by simpa using hgr
     subst this;obtain⟨sp,h5w⟩:=q3 _ hgw;refine ab.eP 5 (b:=c5) (.sl 1 (w'.map int) sp) h5w (by simp only[Env.upd];exact e5) rfl ?_
     refine ab.Cg 5 (a':=.cp (ints w') 0) (by simp;exact Fb rfl rfl (fq 1 _ sp)) ?_
     refine ab.run lay [] ?_;simp[e5,e6,e17,FE,h6''];refine .less (fun c x hx=>?_) (.done h)
     have n5:c≠c5:=fun e=>by subst e;rw[h5] at hx;cases hx
     simp only[aa.del,n5,if_false];exact hend _ hk3 c x hx
   | none=>
     rw[hgw] at hgr;refine ab.run lay [] ?_;simp[e5,e6,e17,FE,h6''];refine⟨by omega,ih _ (by omega) ⟨_,_,rfl,by simp[e5,e6,e17,FE,h6''],by simp[e5,e6,e17,FE,h6''],by simp[e5,e6,e17,FE,h6''],by simp,hk3,q2,?_⟩⟩
     rw[hn'];simpa using hgr
 . rw[show f.aB.length+1-k=0 by omega] at hgr
   cases hgr
end Go.Proofs.YtelgggdkahhhfaaGreatDoor
namespace Go.Proofs.YtelgggdkahhhfaaGreatDoor
open Go.aZ Go.Conc
set_option maxHeartbeats 1000000
set_option maxRecDepth 4000
theorem iO:check (cU 4 3)=0:=by decide +kernel
theorem vA:check (cU 5 3)=0:=by decide +kernel
theorem vB:check (cU 4 2)=0:=by decide +kernel
theorem Fh:iA (cU 4 3) [0,1]=0:=by decide +kernel
theorem vC:c8 (cU 4 3) [2]=[13,14,15]:=by decide +kernel
theorem yX:qu (cU 5 3)=4:=by decide +kernel
theorem B1:az (cU 4 3) []≠[]:=by decide +kernel
theorem pV:(az (cU 4 3) []).foldl cy none=some [0,0,1,2]∧au [0,0,1,2]=3:=by decide +kernel
theorem B2:km (((az (cU 4 3) []).filter (tY 1 2)).length:Int) (az (cU 4 3) []).length=2:=by decide +kernel
theorem yY:z9 (cU 4 2)=some [1]:=by decide +kernel
end Go.Proofs.YtelgggdkahhhfaaGreatDoor
namespace Go.Proofs.YtelgggdkahhhfaaGreatDoor
open Go.aZ Go.Conc
set_option maxHeartbeats 1000000
set_option maxRecDepth 4000
variable {m:Mo} {σ:aa} {KF:cV->aa->Prop}
theorem iY (n:Nat) (most:Int):(cU n most).Fits:=by
 refine⟨?_,by simp[cU],fun r hr=>?_,fun e he=>?_⟩
 . simp[cU,pU];omega
 . simp[cU] at hr;rcases hr with rfl|rfl <;> simp
 . have:=List.mem_of_mem_take (show e∈pU.take n from he)
   simp[pU] at this
   rcases this with rfl|rfl|rfl|rfl|rfl <;> simp
theorem ua (hs:m.solo=true) (h:KF (.val (bool true)) σ):ar Tryz.prog m 16 [] σ KF:=by
 refine ar.start lay [] [] 0 Tryz.func16 rfl rfl (by rfl) (by kernel_rfl) ?_
 simp[Tryz.f16];refine ap Tryz.func42 rfl rfl (l9 (n:=4) (most:=3) (by omega) ?_)
 refine ab.run lay [] ?_;simp;have hW:Wl [bg (cU 4 3),.sl 1 [int 0,int 1] .exact] [bg (cU 4 3),ints [0,1]]:=.cons (.refl _) (.cons (fq 1 [int 0,int 1] .exact) .nil);refine bD Tryz.func22 rfl rfl hW (Ff (iY 4 3) iO ?_ (by simp) ?_)
 . exact⟨by decide +kernel,by simp⟩
 refine ab.run lay [] ?_;simp[Fh];refine ap Tryz.func42 rfl rfl (l9 (n:=4) (most:=3) (by omega) ?_)
 refine ab.run lay [] ?_;simp;have hW:Wl [bg (cU 4 3),.sl 1 [int 2] .exact] [bg (cU 4 3),ints [2]]:=.cons (.refl _) (.cons (fq 1 [int 2] .exact) .nil);refine bD Tryz.func43 rfl rfl hW (yE (iY 4 3) iO ?_ ?_)
 . exact⟨by decide +kernel,by simp⟩
 refine ab.run lay [] ?_;simp;refine ap Tryz.func42 rfl rfl (l9 (n:=5) (most:=3) (by omega) ?_)
 refine ab.run lay [] ?_;simp;refine ap Tryz.func14 rfl rfl (Fe hs (iY 5 3) vA (by decide +kernel) ?_)
 refine ab.run lay [] ?_;simp[yX];refine ap Tryz.func42 rfl rfl (l9 (n:=4) (most:=3) (by omega) ?_)
 refine ab.run lay [] ?_;simp;refine ap Tryz.func17 rfl rfl (t6 hs (iY 4 3) iO pV.1 (by decide +kernel) ?_)
 refine ab.run lay [] ?_;simp[pV.2];refine ap Tryz.func42 rfl rfl (l9 (n:=4) (most:=3) (by omega) ?_)
 refine ab.run lay [] ?_;simp;refine ap Tryz.func23 rfl rfl (GQ hs (iY 4 3) iO (by decide) (by decide) B1 (by decide +kernel) ?_)
 refine ab.run lay [] ?_;simp[B2];refine ap Tryz.func42 rfl rfl (l9 (n:=4) (most:=2) (by omega) ?_)
 refine ab.run lay [] ?_;simp;refine ap Tryz.func15 rfl rfl (Fg hs (iY 4 2) vB yY ?_);refine ab.run lay [] ?_;simp;refine bD Tryz.func20 rfl rfl (args':=[ints (c8 (cU 4 3) [2]),ints [13,14,15]]) (.cons (.refl _) (.cons (fq 1 [int 13,int 14,int 15] .exact) .nil)) (jG (by decide +kernel) (by decide +kernel) ?_)
 refine ab.run lay [] ?_;simp[vC];refine bD Tryz.func20 rfl rfl (args':=[ints [0,0,1,2],ints [0,0,1,2]]) (.cons (.refl _) (.cons (fq 1 [int 0,int 0,int 1,int 2] .exact) .nil)) (jG (by simp) (by simp) ?_)
 refine ab.run lay [] ?_;simp;refine bD Tryz.func20 rfl rfl (args':=[ints [1],ints [1]]) (.cons (.refl _) (.cons (fq 1 [int 1] .exact) .nil)) (jG (by simp) (by simp) ?_)
 refine ab.run lay [] ?_;simp;exact .done h
end Go.Proofs.YtelgggdkahhhfaaGreatDoor
namespace Go.Proofs.YtelgggdkahhhfaaGreatDoor
open Go.aZ Go.Conc
set_option maxHeartbeats 1000000
set_option maxRecDepth 4000
variable {m:Mo} {σ:aa} {KF:cV->aa->Prop}
def dJ (c:Nat) (nums:List Int) (k:Nat) (σ:aa):Prop := ∃ (n:Nat) (s:Int),n≤k∧σ c=some (.cells [ints nums,int n,.lit (.int .u64 s)])
theorem B3 {nums:List Int} (h:∀ c σ',σ c=none->dJ c nums 0 σ'->(∀ x,x≠c->σ' x=σ x)->KF (.val (.ref c 0)) σ'):ar Tryz.prog m 9 [ints nums] σ KF:=by
 refine ar.start lay [5] [] 1 Tryz.func9 rfl rfl (by rfl) (by kernel_rfl) ?_
 simp[Tryz.f9];refine dL.intro fun c hc=>?_
 simp;exact .done (h c _ hc ⟨0,_,Nat.le_refl _,aa.ao _ _ _⟩ fun x hx=>aa.ak _ _ hx)
end Go.Proofs.YtelgggdkahhhfaaGreatDoor
namespace Go.Proofs.YtelgggdkahhhfaaGreatDoor
open Go.aZ Go.Conc
set_option maxHeartbeats 1000000
set_option maxRecDepth 4000
variable {m:Mo} {σ:aa} {KF:cV->aa->Prop}
theorem GT (a b:Int):0≤IntKind.u64.wrap (((BitVec.ofInt 64 a ^^^ BitVec.ofInt 64 b).toNat:Nat):Int)∧IntKind.u64.wrap (((BitVec.ofInt 64 a ^^^ BitVec.ofInt 64 b).toNat:Nat):Int)<18446744073709551616:=by
 generalize (((BitVec.ofInt 64 a ^^^ BitVec.ofInt 64 b).toNat:Nat):Int)=x;simp only[IntKind.wrap,IntKind.signed,IntKind.bits];simp;omega
theorem Fi {x:Int} (h:0≤x∧x<18446744073709551616):0≤x.fdiv (2 ^ min 11 IntKind.u64.bits)∧x.fdiv (2 ^ min 11 IntKind.u64.bits)<9007199254740992:=by
 have e:(2:Int) ^ min 11 IntKind.u64.bits=2048:=by decide
 rw[e,Int.fdiv_eq_ediv_of_nonneg _ (by omega)]
 omega
theorem GU {c k:Nat} {nums:List Int} (hk:k<1000000) (hn:nums.length<1152921504606846976) (hb:dJ c nums k σ) (h:∀ (x:Int) σ',0≤x∧x<9007199254740992->dJ c nums (k+1) σ'->(∀ y,y≠c->σ' y=σ y)->KF (.val (.lit (.int .u64 x))) σ'):ar Tryz.prog m 34 [.ref c 0] σ KF:=by
 obtain⟨n,s,hnk,hc⟩:=hb;have r1 : -9223372036854775808≤(n:Int)+1∧(n:Int)+1≤9223372036854775807:=by omega
 obtain⟨fm,ibin_mulW⟩:∃ f:Int->Int->Int,∀ a b,me .mul .u64 a b=some (.int .u64 (f a b)):=⟨_,fun _ _=>rfl⟩
 obtain⟨fx,ibin_xorW,hxb⟩:∃ f:Int->Int->Int,(∀ a b,me .xor .u64 a b=some (.int .u64 (f a b)))∧∀ a b,0≤f a b∧f a b<18446744073709551616:=⟨_,fun _ _=>rfl,GT⟩
 refine ar.Ib lay [] LU 27 1 Tryz.func34 rfl rfl (by rfl) (by kernel_rfl) ?_
 simp[Tryz.f34,hc,r1.1,r1.2,bt,ibin_mulW];refine ab.zY (fun e σ1=>e 0 = .ref c 0∧(∃ z,e 3 = .lit (.int .u64 z))∧σ1 c=some (.cells [ints nums,int ((n:Int)+1),.lit (.int .u64 s)])∧∀ y,y≠c->σ1 y=σ y) (by simp[aa.ak];intro y hy;exact aa.ak _ _ hy) ?_
 clear hc
 rintro env σ1 ⟨h0,⟨z,h3⟩,hc,hs1⟩
 refine ab.runN lay [] 2 ?_;simp[h0,h3,hc];refine ab.runN lay [] 2 ?_;simp[h0,h3,hc];refine aF.intro (fun g1=>?_) (fun g1=>?_) <;> simp[-Int.not_lt,-Int.not_le,-Nat.not_lt,-Nat.not_le] at g1
 . have g2:(n:Int)<nums.length:=by omega
   have g3:n<nums.length:=by omega
   have r2 : -9223372036854775808≤(n:Int)∧(n:Int)≤9223372036854775807:=by omega
   simp[h0,h3,hc,g2,g3,r2.1,r2.2,ibin_mulW,ibin_xorW];refine ab.zY (fun e σ1=>e 0 = .ref c 0∧(∃ z,e 3 = .lit (.int .u64 z))∧σ1 c=some (.cells [ints nums,int ((n:Int)+1),.lit (.int .u64 s)])∧∀ y,y≠c->σ1 y=σ y) (by simp[h0,h3,hc];exact hs1) ?_
   clear h0 h3 hc hs1
   rintro env σ1 ⟨h0,⟨z,h3⟩,hc,hs1⟩
   refine ab.run lay [] ?_;simp[h0,h3,hc,ibin_mulW,ibin_xorW,bt];refine ab.zY (fun e σ1=>e 0 = .ref c 0∧(∃ s,σ1 c=some (.cells [ints nums,int ((n:Int)+1),.lit (.int .u64 s)]))∧∀ y,y≠c->σ1 y=σ y) (by refine⟨by simp[h0],⟨_,by simp;rfl⟩,fun y hy=>?_⟩;simp[aa.ak,hy,hs1 y hy]) ?_
   clear h0 h3 hc hs1
   rintro env σ1 ⟨h0,⟨z,hc⟩,hs1⟩
   refine ab.run lay [] ?_;simp[h0,hc,ibin_mulW,ibin_xorW];refine .done (h _ σ1 (Fi (hxb _ _)) ⟨n+1,z,by omega,by simpa using hc⟩ hs1)
 . simp[h0,h3,hc]
   refine ab.run lay [] ?_;simp[h0,h3,hc,ibin_mulW,ibin_xorW,bt];refine ab.zY (fun e σ1=>e 0 = .ref c 0∧(∃ s,σ1 c=some (.cells [ints nums,int ((n:Int)+1),.lit (.int .u64 s)]))∧∀ y,y≠c->σ1 y=σ y) (by refine⟨by simp[h0],⟨_,by simp;rfl⟩,fun y hy=>?_⟩;simp[aa.ak,hy,hs1 y hy]) ?_
   clear h0 h3 hc hs1
   rintro env σ1 ⟨h0,⟨z,hc⟩,hs1⟩
   refine ab.run lay [] ?_;simp[h0,hc,ibin_mulW,ibin_xorW];refine .done (h _ σ1 (Fi (hxb _ _)) ⟨n+1,z,by omega,by simpa using hc⟩ hs1)
end Go.Proofs.YtelgggdkahhhfaaGreatDoor
namespace Go.Proofs.YtelgggdkahhhfaaGreatDoor
open Go.aZ Go.Conc
set_option maxHeartbeats 1000000
set_option maxRecDepth 4000
variable {m:Mo} {σ:aa} {KF:cV->aa->Prop}
def pi (c:Nat) (nums:List Int) (k:Nat) (σ σ':aa):Prop:=dJ c nums k σ'∧∀ y,y≠c->σ' y=σ y
theorem pi.trans {c:Nat} {nums:List Int} {k k':Nat} {σ σ' σ'':aa} (h:pi c nums k σ σ') (h':pi c nums k' σ' σ''):pi c nums k' σ σ'':=⟨h'.1,fun y hy=>(h'.2 y hy).trans (h.2 y hy)⟩
theorem dJ.mono {c:Nat} {nums:List Int} {k k':Nat} (h:dJ c nums k σ) (hk:k≤k'):dJ c nums k' σ:=by
 obtain⟨n,s,h1,h2⟩:=h;exact⟨n,s,by omega,h2⟩
theorem Fj {n:Int} (h:0≤n∧n<18446744073709551616):IntKind.u64.wrap n=n:=by
 simp only[IntKind.wrap,IntKind.signed,IntKind.bits];simp;omega
theorem Io {n:Int} (h : -9223372036854775808≤n∧n≤9223372036854775807):IntKind.i64.wrap n=n:=by
 simp[IntKind.wrap,IntKind.signed,IntKind.bits];omega
section
variable {c k:Nat} {nums:List Int}
theorem gS {n:Int} (hk:k<1000000) (hn:nums.length<1152921504606846976) (hnn : -4611686018427387904≤n∧n<4611686018427387904) (hb:dJ c nums k σ) (h:∀ (x:Int) σ',0≤x∧(x≤n∨x=0)->pi c nums (k+1) σ σ'->KF (.val (int x)) σ'):ar Tryz.prog m 12 [.ref c 0,int n] σ KF:=by
 refine ar.start lay [] [] 2 Tryz.func12 rfl rfl (by rfl) (by kernel_rfl) ?_
 simp[Tryz.f12];refine ap Tryz.func34 rfl rfl (GU hk hn hb fun x σ' hx h1 h2=>?_)
 refine ab.run lay [] ?_;simp;refine aF.intro (fun g1=>?_) (fun g1=>?_) <;> simp[-Int.not_lt,-Int.not_le] at g1
 . simp
   exact .done (h 0 σ' ⟨by omega,.inr rfl⟩ ⟨h1,h2⟩)
 . have eW:IntKind.u64.wrap n=n:=Fj (by omega)
   have e1:me .add .u64 n 1=some (.int .u64 (n+1)):=by
    show some (Value.int .u64 (IntKind.u64.wrap (n+1)))=_;rw[Fj (by omega)]
   obtain⟨r,hr,e2⟩:∃ r:Int,(0≤r∧r≤n)∧me .rem .u64 x (n+1)=some (.int .u64 r):=by
    refine⟨x.tmod (n+1),⟨Int.tmod_nonneg _ hx.1,?_⟩,by simp[me];omega⟩
    have:=Int.tmod_lt_of_pos x (show 0<n+1 by omega)
    omega
   have eR:IntKind.i64.wrap r=r:=Io (by omega)
   simp[eW,e1,e2,eR];exact .done (h r σ' ⟨hr.1,.inl hr.2⟩ ⟨h1,h2⟩)
theorem od {lo hi:Int} (hk:k<1000000) (hn:nums.length<1152921504606846976) (hlo : -1000000000≤lo∧lo≤1000000000) (hhi : -1000000000≤hi∧hi≤1000000000) (hb:dJ c nums k σ) (h:∀ (x:Int) σ',lo≤x∧(x≤hi∨x=lo)->pi c nums (k+1) σ σ'->KF (.val (int x)) σ'):ar Tryz.prog m 13 [.ref c 0,int lo,int hi] σ KF:=by
 have r1 : -9223372036854775808≤hi-lo∧hi-lo≤9223372036854775807:=by omega
 refine ar.start lay [] [] 3 Tryz.func13 rfl rfl (by rfl) (by kernel_rfl) ?_
 simp[Tryz.f13,r1.1,r1.2];refine ap Tryz.func12 rfl rfl (gS hk hn ⟨by omega,by omega⟩ hb fun x σ' hx hd=>?_)
 have r2 : -9223372036854775808≤lo+x∧lo+x≤9223372036854775807:=by omega
 refine ab.run lay [] ?_;simp[r2.1,r2.2];exact .done (h _ σ' ⟨by omega,by omega⟩ hd)
theorem oe {l:List Int} {sp:bK} (hk:k<1000000) (hn:nums.length<1152921504606846976) (hl:0<l.length∧l.length<1000000) (hb:dJ c nums k σ) (h:∀ (x:Int) σ',x∈l->pi c nums (k+1) σ σ'->KF (.val (int x)) σ'):ar Tryz.prog m 30 [.ref c 0,.sl 1 (l.map int) sp] σ KF:=by
 have r1 : -9223372036854775808≤(l.length:Int)-1∧(l.length:Int)-1≤9223372036854775807:=by omega
 refine ar.start lay [] [] 2 Tryz.func30 rfl rfl (by rfl) (by kernel_rfl) ?_
 simp[Tryz.f30,r1.1,r1.2];refine ap Tryz.func12 rfl rfl (gS hk hn ⟨by omega,by omega⟩ hb fun x σ' hx hd=>?_)
 have g1:x.toNat<l.length:=by omega
 have g2:x<l.length:=by omega
 have e:(x.toNat:Int)=x:=by omega
 refine ab.run lay [] ?_;simp[hx.1,g1,g2];exact .done (h _ σ' (List.getElem_mem g1) hd)
theorem GV {n:Int} (hk:k<1000000) (hn:nums.length<1152921504606846976) (hnn:0≤n∧n<1000000000) (hb:dJ c nums k σ) (h:∀ (x:Bool) σ',pi c nums (k+1) σ σ'->KF (.val (bool x)) σ'):ar Tryz.prog m 49 [.ref c 0,int n] σ KF:=by
 have r1 : -9223372036854775808≤n-1∧n-1≤9223372036854775807:=by omega
 refine ar.start lay [] [] 2 Tryz.func49 rfl rfl (by rfl) (by kernel_rfl) ?_
 simp[Tryz.f49,r1.1,r1.2];refine ap Tryz.func12 rfl rfl (gS hk hn ⟨by omega,by omega⟩ hb fun x σ' hx hd=>?_)
 refine ab.run lay [] ?_;simp;exact .done (h _ σ' hd)
end
end Go.Proofs.YtelgggdkahhhfaaGreatDoor
namespace Go.Proofs.YtelgggdkahhhfaaGreatDoor
open Go.aZ Go.Conc
set_option maxHeartbeats 1000000
set_option maxRecDepth 4000
variable {m:Mo} {σ:aa} {KF:cV->aa->Prop}
structure ub (ga:Int) (e:m7):Prop where
 hour:0≤e.hour∧e.hour≤40
 place:0≤e.place∧e.place<ga
 gL:0≤e.gL∧e.gL≤1
 marks:e.marks.Sublist [0,1,2]
 bb:14≤e.bb∧e.bb≤16
 lG:0≤e.lG∧e.lG≤2
theorem uc {l:List Int} (h:l.Sublist [0,1,2]):nZ none l=0∧l.length≤3:=by
 cases h <;> (rename_i h;cases h <;> (rename_i h;cases h <;> (rename_i h;cases h;decide)))
theorem ub.check {ga:Int} {e:m7} (h:ub ga e):cS ga e=0:=by
 obtain⟨h1,h2,h3,h4,h5,h6⟩:=h;have h4:=(uc h4).1;unfold cS dD;have e1:(0≤e.hour):=h1.1;have e2:e.hour≤72:=by omega
 have e3:e.place≤ga-1:=by omega
 have e4:e.gL≤5:=by omega
 have e5:0≤e.bb:=by omega
 have e6:e.bb≤30:=by omega
 simp[h1.1,e2,h2.1,e3,h3.1,e4,h4,e5,e6,h6.1,h6.2]
theorem vD {σ0 σ σ2:aa} {a:AV} {kk:Nat} {es:List AV} {c:Nat} (h:Tok σ0 σ a kk es) (h0:σ0 c=none) (hc:∃ l,σ c=some (.cells l)) (hs:∀ y,y≠c->σ2 y=σ y):Tok σ0 σ2 a kk es:=by
 refine⟨fun y x hy=>?_,?_⟩
 . have:y≠c:=fun e=>by subst e;rw[h0] at hy;cases hy
   rw[hs y this];exact h.1 y x hy
 rcases h.2 with q|q|⟨b,e,q1,q2,q3⟩
 . exact .inl q
 . exact .inr (.inl q)
 . refine .inr (.inr ⟨b,e,q1,q2,?_⟩)
   have:b≠c:=fun e=>by subst e;obtain⟨l,hl⟩:=hc;rw[hl] at q3;cases q3
   rw[hs b this];exact q3
section
variable {c k:Nat} {nums:List Int}
theorem r7 {ga:Int} (hk:k+11<1000000) (hn:nums.length<1152921504606846976) (hsp:1≤ga∧ga≤1000) (hb:dJ c nums k σ) (h:∀ (e:m7) σ',ub ga e->pi c nums (k+11) σ σ'->KF (.val (gM e)) σ'):ar Tryz.prog m 31 [.ref c 0,int ga] σ KF:=by
 have r1 : -9223372036854775808≤ga-1∧ga-1≤9223372036854775807:=by omega
 obtain⟨n0,s0,_,hc0⟩:=id hb;refine ar.start lay [] [] 2 Tryz.func31 rfl rfl (by rfl) (by kernel_rfl) ?_
 simp[Tryz.f31];refine dL.intro fun c4 h4=>?_
 have n4:c≠c4:=fun e=>by subst e;rw[hc0] at h4;cases h4
 have hb1:∀ x,dJ c nums k (σ.set c4 x):=fun x=>⟨n0,s0,by assumption,by rw[aa.ak _ _ n4];exact hc0⟩
 simp;refine ap Tryz.func12 rfl rfl (gS (by omega) hn ⟨by omega,by omega⟩ (hb1 _) fun x1 σ1 hx1 hd1=>?_)
 refine ab.run lay [] ?_;simp;refine ap Tryz.func12 rfl rfl (gS (by omega) hn ⟨by omega,by omega⟩ hd1.1 fun x2 σ2 hx2 hd2=>?_)
 refine ab.run lay [] ?_;simp;refine ap Tryz.func12 rfl rfl (gS (by omega) hn ⟨by omega,by omega⟩ hd2.1 fun x3 σ3 hx3 hd3=>?_)
 refine ab.run lay [] ?_;simp;refine ap Tryz.func30 rfl rfl (oe (l:=[x1,x2,x3]) (by omega) hn ⟨by simp,by simp⟩ hd3.1 fun hr σ4 hx4 hd4=>?_)
 refine ab.run lay [] ?_;simp[r1.1,r1.2];refine ap Tryz.func12 rfl rfl (gS (by omega) hn ⟨by omega,by omega⟩ hd4.1 fun pl σ5 hx5 hd5=>?_)
 refine ab.run lay [] ?_;simp;refine ap Tryz.func30 rfl rfl (oe (l:=[0,0,0,1]) (by omega) hn ⟨by simp,by simp⟩ hd5.1 fun co σ6 hx6 hd6=>?_)
 refine ab.run lay [] ?_;simp;refine ap Tryz.func30 rfl rfl (oe (l:=[14,14,15,15,16]) (by omega) hn ⟨by simp,by simp⟩ hd6.1 fun he σ7 hx7 hd7=>?_)
 refine ab.run lay [] ?_;simp;refine ap Tryz.func30 rfl rfl (oe (l:=[0,0,1,2]) (by omega) hn ⟨by simp,by simp⟩ hd7.1 fun sh σ8 hx8 hd8=>?_)
 refine ab.run lay [] ?_;simp;refine dL.intro fun c5 h5=>?_
 simp;have hd08:pi c nums (k+8) (σ.set c4 (.cells [int 0,int 0,int 0,.lit (.slice none 0 0),int 0,int 0])) σ8:=hd1.trans (hd2.trans (hd3.trans (hd4.trans (hd5.trans (hd6.trans (hd7.trans hd8))))));have n45:c4≠c:=Ne.symm n4;have h84:σ8 c4=some (.cells [int 0,int 0,int 0,.lit (.slice none 0 0),int 0,int 0]):=by rw[hd08.2 c4 n45,aa.ao]
 have n5:c5≠c:=fun e=>by subst e;obtain⟨_,_,_,q⟩:=hd8.1;rw[q] at h5;cases h5
 have n54:c5≠c4:=fun e=>by subst e;rw[h84] at h5;cases h5
 have h85:σ c5=none:=by rw[hd08.2 c5 n5,aa.ak _ _ n54] at h5;exact h5
 have hr0:0≤hr∧hr≤40:=by simp at hx4;omega
 have co0:0≤co∧co≤1:=by simp at hx6;omega
 have he0:14≤he∧he≤16:=by simp at hx7;omega
 have sh0:0≤sh∧sh≤2:=by simp at hx8;omega
 have pl0:0≤pl∧pl<ga:=by omega
 refine ab.loop 3 (fun j s => ∃ env σ' a mk,s=⟨env,σ',[],.no⟩∧env 0 = .ref c 0∧env 4 = .ref c4 0∧env 5 = .ref c5 0∧env 6=int j∧dJ c nums (k+8+j) σ'∧σ' c4=some (.cells [int 0,int 0,int 0,.lit (.slice none 0 0),int 0,int 0])∧σ' c5=some (.cells [int hr,int pl,int co,a,int he,int sh])∧Tok (σ.del c) σ' a 1 (mk.map int)∧mk.Sublist ((List.range j).map fun i:Nat=>(i:Int))) ⟨_,_,.lit (.slice none 0 0),[],rfl,by simp,by simp,by simp,by simp,?_,?_,?_,?_,by simp⟩ ?_
 . obtain⟨n,z,h1,h2⟩:=hd08.1
   exact⟨n,z,by omega,by rw[aa.ak _ _ (Ne.symm n5)];exact h2⟩
 . rw[aa.ak _ _ (Ne.symm n54)];exact h84
 . simp
 . refine⟨fun y x hy=>?_,.inl ⟨rfl,rfl⟩⟩
   have y1:y≠c:=fun e=>by subst e;simp[aa.del] at hy
   have y0:σ y=some x:=by simpa[aa.del,y1] using hy
   have y5:y≠c5:=fun e=>by subst e;rw[h85] at y0;cases y0
   have y4:y≠c4:=fun e=>by subst e;rw[h4] at y0;cases y0
   rw[aa.ak _ _ y5,hd08.2 y y1,aa.ak _ _ y4];exact y0
 rintro c0 j _ hj ⟨env,σ',a,mk,rfl,e0,e4,e5,e6,hbj,q4,q5,htok,hmk⟩ ih
 have hml:mk.length≤j:=by have:=hmk.length_le;rwa [List.length_map,List.length_range] at this
 rcases Nat.lt_or_ge j 3 with g1|g1
 . have g1':(j:Int)<3:=by omega
   refine ab.run lay [] ?_;simp[e0,e4,e5,e6,g1'];refine ap Tryz.func49 rfl rfl (GV (by omega) hn ⟨by omega,by omega⟩ hbj fun x σ2 hd=>?_)
   have hbc:∃ l,σ' c=some (.cells l):=by obtain⟨_,_,_,q⟩:=hbj;exact⟨_,q⟩
   have htok2:Tok (σ.del c) σ2 a 1 (mk.map int):=vD htok (by simp[aa.del]) hbc hd.2
   have htc:=htok2.cells;have s4:σ2 c4=some (.cells [int 0,int 0,int 0,.lit (.slice none 0 0),int 0,int 0]):=by rw[hd.2 c4 n45];exact q4
   have s5:σ2 c5=some (.cells [int hr,int pl,int co,a,int he,int sh]):=by rw[hd.2 c5 n5];exact q5
   have hrs:(List.range (j+1)).map (fun i:Nat=>(i:Int))=(List.range j).map (fun i:Nat=>(i:Int)) ++ [(j:Int)]:=by rw[List.range_succ,List.map_append];rfl
   have f1 : -9223372036854775808≤(j:Int)+1∧(j:Int)+1≤9223372036854775807:=by omega
   refine ab.run lay [] ?_;simp[e0,e4,e5,e6,s5,htc.1,htc.2,f1.1,f1.2];cases x with
   | false=>
     simp[e0,e4,e5,e6,s5,htc.1,htc.2,f1.1,f1.2];refine ih _ g1 ⟨_,_,a,mk,rfl,by simp[e0,e4,e5,e6,s5,htc.1,htc.2,f1.1,f1.2],by simp[e0,e4,e5,e6,s5,htc.1,htc.2,f1.1,f1.2],by simp[e0,e4,e5,e6,s5,htc.1,htc.2,f1.1,f1.2],by simp,hd.1,s4,s5,htok2,?_⟩
     rw[hrs];exact hmk.trans (List.sublist_append_left _ _)
   | true=>
     simp[e0,e4,e5,e6,s5,htc.1,htc.2,f1.1,f1.2];refine aU lay rfl rfl rfl dz rfl dz rfl tO (by decide) (by simp;omega) (σ0:=σ2.off a) (es:=mk.map int) (xs:=[int j]) (by simpa using htok2.here.1) (.inr ⟨_,rfl⟩) fun a' σ3 ht'=>?_
     have hta:=ht'.cells;have nta:∀ y l,σ2 y=some (.cells l)->gF a≠some y:=fun y l hy e=>by obtain⟨_,_,q⟩:=htok2.dO e;rw[hy] at q;cases q
     have k3:∀ y l,σ2 y=some (.cells l)->σ3 y=some (.cells l):=fun y l hy=>ht'.1 _ _ (by rw[aa.mP (nta y l hy)];exact hy)
     have t5:=k3 _ _ s5;have t4:=k3 _ _ s4;refine ab.run lay [] ?_;simp[e0,e4,e5,e6,s5,htc.1,htc.2,f1.1,f1.2,t5,hta.1,hta.2,bt];obtain⟨nb,zb,hb1,hb2⟩:=hd.1;have tc:=k3 _ _ hb2
     have htb:Tok (σ.del c) σ3 a' 1 ((mk ++ [(j:Int)]).map int):=by
      have:=ht'.base htok2.here.2;simpa using this
     refine ih _ g1 ⟨_,_,a',mk ++ [(j:Int)],rfl,by simp[e0,e4,e5,e6,s5,htc.1,htc.2,f1.1,f1.2],by simp[e0,e4,e5,e6,s5,htc.1,htc.2,f1.1,f1.2],by simp[e0,e4,e5,e6,s5,htc.1,htc.2,f1.1,f1.2],by simp,⟨nb,zb,hb1,by rw[aa.ak _ _ (Ne.symm n5)];exact tc⟩,by rw[aa.ak _ _ (Ne.symm n54)];exact t4,aa.ao _ _ _,htb.beside (by simp[aa.del,n5,h85]) (fun e=>by obtain⟨_,_,q⟩:=htb.dO e;rw[t5] at q;cases q),?_⟩
     rw[hrs];exact hmk.append (List.Sublist.refl _)
 . have:j=3:=by omega
   subst this;have htc:=htok.cells;refine ab.run lay [] ?_;simp[e0,e4,e5,e6,q4,q5,htc.1,htc.2,bt];obtain⟨nb,zb,hb1,hb2⟩:=hbj;have hmk':mk.Sublist [0,1,2]:=hmk;refine .nu (a':=gM ⟨hr,pl,co,mk,he,sh⟩) (vz rfl fun i x y x1 x2=>?_) (.less (σ':=σ.set c (.cells [ints nums,int nb,.lit (.int .u64 zb)])) (fun y x hy=>?_) (.done (h ⟨hr,pl,co,mk,he,sh⟩ _ ⟨hr0,pl0,co0,hmk',he0,sh0⟩ ⟨⟨nb,zb,by omega,aa.ao _ _ _⟩,fun y hy=>aa.ak _ _ hy⟩)))
   . match i with
     | 0=>simp at x1 x2;subst x1;subst x2;exact .refl _
     | 1=>simp at x1 x2;subst x1;subst x2;exact .refl _
     | 2=>simp at x1 x2;subst x1;subst x2;exact .refl _
     | 3=>simp at x1 x2;subst x1;subst x2;exact htok.W
     | 4=>simp at x1 x2;subst x1;subst x2;exact .refl _
     | 5=>simp at x1 x2;subst x1;subst x2;exact .refl _
     | i+6=>simp at x1
   . by_cases y1:y=c
     . subst y1
       rw[aa.ao] at hy;rw[aa.ak _ _ n4,hb2];exact hy
     . rw[aa.ak _ _ y1] at hy
       have y4:y≠c4:=fun e=>by subst e;rw[h4] at hy;cases hy
       rw[aa.ak _ _ y4];exact htok.1 y x (by simpa[aa.del,y1] using hy)
end
end Go.Proofs.YtelgggdkahhhfaaGreatDoor

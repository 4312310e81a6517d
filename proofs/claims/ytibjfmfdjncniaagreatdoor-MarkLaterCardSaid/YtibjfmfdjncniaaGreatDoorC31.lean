/- Part 31 of the proof. -/
import Derived.Test.YtibjfmfdjncniaaGreatDoorC30
set_option linter.all false
namespace Go.Proofs.YtibjfmfdjncniaaGreatDoor
open Go.Pal Go.Conc
set_option maxHeartbeats 1000000
set_option maxRecDepth 4000
variable {m:Mo} {σ:Store} {KF:Res->Store->Prop}
theorem flat1:∀ {es:List AV},(∀ a∈es,a.cells=[a])->flatten es=es
  | [],_=>rfl
  | a :: es,h=>by
    rw[flatten_cons,h a (List.mem_cons_self ..),flat1 fun x hx=>h x (List.mem_cons_of_mem _ hx)];rfl
theorem W_slE {es es':List AV} {sp:Spare} (hl:es.length=es'.length) (hc:∀ a∈es,a.cells=[a]) (hc':∀ a∈es',a.cells=[a]) (hw:∀ (i:Nat) a a',es[i]? = some a->es'[i]? = some a'->a.W a'):(AV.sl 1 es sp).W (.sl 1 es' .any):=fun k x hx=>by
  cases hx with
  | sl b off cap kk N E _ _ c g1 g2 g3 g4 g5 g6 g7=>
    rw[flat1 hc] at g5 g6;rw[hl] at g1 ⊢;refine .sl b off cap 1 N E es' .any c g1 g2 g3 (fun e he=>by rw[hc' e he];rfl) (fun j hj=>?_) (fun j a ha=>?_) trivial
    . rw[flat1 hc'] at hj
      exact g5 j (by omega)
    . rw[flat1 hc'] at ha
      have hj:j<es.length:=by rw[hl];exact (List.getElem?_eq_some_iff.1 ha).1
      exact hw j es[j] a (by simp[hj]) ha k _ (g6 j _ (by simp[hj]))
  | slnil=>
    have:es'=[]:=by cases es' with|nil=>rfl|cons _ _=>simp at hl
    subst this;exact .slnil 1
theorem W_aggE {l l':List AV} (hl:l.length=l'.length) (hw:∀ (i:Nat) a a',l[i]? = some a->l'[i]? = some a'->a.W a'):(AV.agg l).W (.agg l'):=fun k x hx=>by
  cases hx with
  | agg c _ g1 g2=>
    refine .agg c l' (by omega) fun i v a' hv ha'=>?_
    have hi:i<l.length:=by rw[hl];exact (List.getElem?_eq_some_iff.1 ha').1
    exact hw i l[i] a' (by simp[hi]) ha' k v (g2 i v _ hv (by simp[hi]))
def fiveL:List Ent:=[⟨0,0,1,[0],15,0⟩,⟨3,1,1,[0],16,1⟩,⟨4,0,1,[0,2],15,2⟩,⟨10,0,2,[],14,0⟩,⟨12,0,1,[2],15,0⟩]
def bookF (n:Nat) (most:Int):Fr:=⟨fiveL.take n,[[0,2],[2,0]],1,2,3,most⟩
theorem entry_ok {a b c d e:Int} {l:List Int} (h:KF (.val (entA ⟨a,b,c,l,d,e⟩)) σ):FnOK Tryz.prog m 84 [int a,int b,int c,int d,int e,ints l] σ KF:=by
  refine FnOK.start lay [] [] 6 Tryz.func84 rfl rfl (by rfl) (by kernel_rfl) ?_
  simp[Tryz.f84];refine newW.intro fun k hk=>?_
  simp;exact .less (by repeat (first|exact Store.le_refl _|assumption|refine Store.le_upd ?_ (by assumption) | refine Store.le_del ?_ (by assumption))) (.done h)
theorem five_ok (h:KF (.val (entsA fiveL)) σ):FnOK Tryz.prog m 51 [] σ KF:=by
  have w1:∀ a b c d e:Int,∀ l:List Int,Wl [int a,int b,int c,int d,int e,.sl 1 (l.map int) .exact] [int a,int b,int c,int d,int e,ints l]:=fun a b c d e l => .cons (.refl _) (.cons (.refl _) (.cons (.refl _) (.cons (.refl _) (.cons (.refl _) (.cons (W_any 1 _ .exact) .nil)))))
  have w0:∀ a b c d e:Int,Wl [int a,int b,int c,int d,int e,.lit (.slice none 0 0)] [int a,int b,int c,int d,int e,ints []]:=fun a b c d e => .cons (.refl _) (.cons (.refl _) (.cons (.refl _) (.cons (.refl _) (.cons (.refl _) (.cons (W_nil 1) .nil)))))
  refine FnOK.start lay [] [] 0 Tryz.func51 rfl rfl (by rfl) (by kernel_rfl) ?_
  simp[Tryz.f51];refine callFnW Tryz.func84 rfl rfl (w1 0 0 1 15 0 [0]) (entry_ok ?_);refine Resume.run lay [] ?_;simp;refine callFnW Tryz.func84 rfl rfl (w1 3 1 1 16 1 [0]) (entry_ok ?_);refine Resume.run lay [] ?_;simp;refine callFnW Tryz.func84 rfl rfl (w1 4 0 1 15 2 [0,2]) (entry_ok ?_);refine Resume.run lay [] ?_;simp;refine callFnW Tryz.func84 rfl rfl (w0 10 0 2 14 0) (entry_ok ?_);refine Resume.run lay [] ?_;simp;refine callFnW Tryz.func84 rfl rfl (w1 12 0 1 15 0 [2]) (entry_ok ?_);refine Resume.run lay [] ?_;simp;exact .weak (W_any 6 _ .exact) (.done h)
theorem book_ok {n:Nat} {most:Int} (hn:n≤5) (h:KF (.val (fairA (bookF n most))) σ):FnOK Tryz.prog m 29 [int n,int most] σ KF:=by
  refine FnOK.start lay [] [] 2 Tryz.func29 rfl rfl (by rfl) (by kernel_rfl) ?_
  simp[Tryz.f29];refine newW.intro fun k hk=>?_
  simp;refine callFn Tryz.func51 rfl rfl (five_ok ?_);refine Resume.run lay [] ?_;simp;refine os_sliceSl lay rfl tt23 rfl tt45 (es:=fiveL.map entA) (sp:=.any) (l:=0) (h:=n) ?_ (fun cap hcap=>⟨rfl,⟨⟨.i64,by simp⟩,?_⟩,rfl⟩) (by simp[fiveL];omega) ?_
  . simp
  . simp[fiveL] at hcap;omega
  refine Resume.run lay [] ?_;simp[splice]
  have hrow:(AV.sl 1 [AV.sl 1 [int 0,int 2] .exact,.sl 1 [int 2,int 0] .exact] .exact).W (rows [[0,2],[2,0]]):=W_slE rfl (fun a ha=>by simp at ha;rcases ha with rfl|rfl <;> rfl) (fun a ha=>by simp at ha;rcases ha with rfl|rfl <;> rfl) (fun i a a' h1 h2=>by
    match i with
    | 0=>simp at h1 h2;subst h1;subst h2;exact W_any 1 [int 0,int 2] .exact
    | 1=>simp at h1 h2;subst h1;subst h2;exact W_any 1 [int 2,int 0] .exact
    | i+2=>simp at h1)
  refine .less (by repeat (first|exact Store.le_refl _|assumption|refine Store.le_upd ?_ (by assumption) | refine Store.le_del ?_ (by assumption))) (.weak (a':=fairA (bookF n most)) (W_aggE rfl fun i a a' h1 h2=>?_) (.done h))
  match i with
  | 0=>simp[fairL,bookF] at h1 h2;subst h1;subst h2;rw[← List.map_take];exact .refl _
  | 1=>simp[fairL,bookF] at h1 h2;subst h1;subst h2;exact hrow
  | 2=>simp[fairL,bookF] at h1 h2;subst h1;subst h2;exact .refl _
  | 3=>simp[fairL,bookF] at h1 h2;subst h1;subst h2;exact .refl _
  | 4=>simp[fairL,bookF] at h1 h2;subst h1;subst h2;exact .refl _
  | 5=>simp[fairL,bookF] at h1 h2;subst h1;subst h2;exact .refl _
  | i+6=>simp at h1
end Go.Proofs.YtibjfmfdjncniaaGreatDoor
namespace Go.Proofs.YtibjfmfdjncniaaGreatDoor
open Go.Pal Go.Conc
set_option maxHeartbeats 1000000
set_option maxRecDepth 4000
variable {m:Mo} {σ:Store} {KF:Res->Store->Prop}
def horsesOf (w:List Int):Int:=w.foldl (fun n k=>max n (k+1)) 0
def lesser:Option (List Int)->List Int->Option (List Int)
  | none,w=>some w
  | some v,w=>if horsesOf w<horsesOf v then some w else some v
def leastA:Option (List Int)->List AV
  | none=>[.lit (.slice none 0 0),int 0,bool false]
  | some w=>[ints w,int (horsesOf w),bool true]
theorem take_ok {c:Nat} {o:Option (List Int)} {w:List Int} (hc:σ c=some (.cells (leastA o))) (h:∀ σ',σ' c=some (.cells (leastA (lesser o w)))->(∀ x,x≠c->σ' x=σ x)->KF (.val (.tup [])) σ'):FnOK Tryz.prog m 37 [.ref c 0,ints w,int (horsesOf w)] σ KF:=by
  cases o with
  | none=>
    simp only[leastA] at hc;refine FnOK.start lay [] [] 3 Tryz.func37 rfl rfl (by rfl) (by kernel_rfl) ?_
    simp[Tryz.f37,hc];refine .done (h _ (Store.set_same _ _ _) fun x hx=>?_)
    simp[Store.set_ne,hx]
  | some v=>
    simp only[leastA] at hc;refine FnOK.start lay [] [] 3 Tryz.func37 rfl rfl (by rfl) (by kernel_rfl) ?_
    simp[Tryz.f37,hc]
    by_cases g:horsesOf w<horsesOf v
    . simp[condW,g,hc]
      simp only[lesser,if_pos g] at h;refine .done (h _ (Store.set_same _ _ _) fun x hx=>?_)
      simp[Store.set_ne,hx]
    . simp[condW,g,hc]
      simp only[lesser,if_neg g] at h;exact .done (h _ hc fun x _=>rfl)
theorem growL_mem (f:Fr) (begun:List Int):∀ (fuel:Nat) (way:List Int) (many:Int) (hs:List Int),(∀ x∈way,0≤x∧x<f.most)->∀ w∈growL f begun fuel way many hs,∀ x∈w,0≤x∧x<f.most
  | 0,way,many,hs,hb,w,hw=>by simp[growL] at hw;subst hw;exact hb
  | fuel+1,way,many,hs,hb,w,hw=>by
    rw[growL_succ,List.mem_flatMap] at hw;obtain⟨k,hk1,hk⟩:=hw;have:=List.mem_range.1 hk1;unfold growK at hk;split at hk
    . cases hk
    split at hk
    . refine growL_mem f begun fuel _ _ _ (fun x hx=>?_) w hk
      rcases List.mem_append.1 hx with hx|hx
      . exact hb x hx
      . simp at hx;subst hx;omega
    . cases hk
section
variable {b mb:Nat} {f:Fr} {Un:Store->Prop} {Ld:Store->List (Int × AV)->Prop}
theorem Fewest_ok (hs:m.solo=true) {f:Fr} {w:List Int} (hf:f.Fits) (hc:check f=0) (hw:(waysOf f []).foldl lesser none=some w) (hlen:(waysOf f []).length<1152921504606846976) (h:KF (.val (.tup [ints w,int (horsesOf w),int 0])) σ):FnOK Tryz.prog m 15 [fairA f] σ KF:=by
  have hg:=Fr.good hf hc;have hm6:=hg.six;have hway:waysOf f []≠[]:=fun e=>by rw[e] at hw;cases hw
  have hwl:∀ w∈waysOf f [],w.length=f.ents.length:=fun w hw=>by have:=growL_len f [] _ _ _ _ w hw;simpa using this
  have hwm:∀ w∈waysOf f [],∀ x∈w,0≤x∧x<f.most:=fun w hw=>growL_mem f [] _ _ _ _ (by simp) w hw
  refine FnOK.start lay [] pl15 1 Tryz.func15 rfl rfl (by rfl) (by kernel_rfl) ?_
  simp[Tryz.f15];have hW:Wl [fairA f,AV.lit (.slice none 0 0)] [fairA f,.sl 1 (([]:List Int).map int) .any]:=.cons (.refl _) (.cons (W_nil 1) .nil);refine callFnW Tryz.func35 rfl rfl hW (opened_ok (l:=[]) (sp:=.any) hs hf hc (by simp) (by simp) hway fun b mb σ0 hne hu hfr hle0=>?_)
  refine Resume.run lay [] ?_;simp;have LK:LkM Tryz.prog m nn b 6 mb .u8 (Known f) (UnS b 6 mb .u8 (Known f)) (LdS b 6 mb .u8):=lkM_solo muChk muExt muFn hs hne;refine newW.intro fun c7 h7=>?_
  simp;have hW:Wl [fpA b mb f 0,AV.lit (.slice none 0 0)] [fpA b mb f 0,ints []]:=.cons (.refl _) (.cons (W_nil 1) .nil);refine callFnW Tryz.func36 rfl rfl hW (ways_ok (begun:=[]) ?_);refine Resume.run lay [] ?_;simp;refine Resume.rangeFunc rfl fun hpl r l hr hl hrl=>?_
  obtain⟨a1,_,hr⟩:=Store.set_none hr;obtain⟨a2,_,hl⟩:=Store.set_none hl;have hr0:σ0 r=none∧r≠c7:=⟨hr,a1⟩;have hl0:σ0 l=none∧l≠c7:=⟨hl,a2⟩;generalize hal:ALoop.mk _ _ _ _ _ _ _ _ _=al
  have hY:Yld m (.fn (.yield l) [] []) (waysOf f []) (fun k F σ'=>(∀ c,F c ↔ c=l∨c=c7)∧σ' l=some (.loop al)∧σ' c7=some (.cells (leastA (((waysOf f []).take k).foldl lesser none)))) (fun F σ'=>False):=by
    refine⟨fun k F σ' KF' hk hI hT hF=>?_,fun k F σ1 σ2 he hI=>?_,fun F σ1 σ2 he hI=>hI.elim,fun k F σ' c hI hc=>?_⟩
    . obtain⟨hFd,g1,g3⟩:=hI
      have hmem:(waysOf f [])[k]∈waysOf f []:=List.getElem_mem hk
      have hsucc:((waysOf f []).take (k+1)).foldl lesser none=lesser (((waysOf f []).take k).foldl lesser none) (waysOf f [])[k]:=by
        rw[List.take_succ_eq_append_getElem hk,List.foldl_append];rfl
      subst hal;refine CallV.yieldW (hold:=pl15) hpl Tryz.func15 g1 rfl ?_;refine Resume.run lay [] ?_;simp[updAll];refine Resume.beginRound g1 rfl ?_;refine Resume.run lay [] ?_;simp[updAll];refine callFn Tryz.func38 rfl rfl (horses_ok (by rw[hwl _ hmem];have:=hg.six;omega) (fun x hx=>by have:=hwm _ hmem x hx;have:=hg.most;omega) ?_)
      refine Resume.run lay [] ?_;simp;refine callFn Tryz.func37 rfl rfl (take_ok (o:=((waysOf f []).take k).foldl lesser none) (w:=(waysOf f [])[k]) ((Store.set_ne _ _ (Ne.symm hl0.2)).trans g3) fun σ2 q1 q2=>?_)
      refine Resume.run lay [] ?_;simp;refine⟨rfl,rfl,_,((q2 l hl0.2).trans (Store.set_same _ _ _)),?_⟩;refine hT F _ (fun c x hc hx=>⟨?_,hc⟩) ⟨hFd,Store.set_same _ _ _,?_⟩
      . have p1:c≠l:=fun e=>hc ((hFd c).2 (.inl e))
        have p3:c≠c7:=fun e=>hc ((hFd c).2 (.inr e))
        exact (Store.set_ne _ _ p1).trans ((q2 c p3).trans ((Store.set_ne _ _ p1).trans hx))
      . rw[hsucc]
        exact (Store.set_ne _ _ (Ne.symm hl0.2)).trans q1
    . obtain⟨hFd,g1,g3⟩:=hI
      exact⟨hFd,by rw[he l ((hFd l).2 (.inl rfl))];exact g1,by rw[he c7 ((hFd c7).2 (.inr rfl))];exact g3⟩
    . obtain⟨hFd,g1,g3⟩:=hI
      rcases (hFd c).1 hc with rfl|rfl
      . exact⟨_,g1,rfl⟩
      . exact⟨_,g3,rfl⟩
  obtain⟨xb,hxb,hpb⟩:=LK.unb hu;have nb:∀ c,σ0 c=none->c≠b:=fun c hc e=>by subst e;rw[hc] at hxb;cases hxb
  have hle:σ0.Le (((σ0.set c7 (.cells (leastA none))).set r (.raw (.deferred (some [])))).set l (.loop al)):=(by repeat (first|exact Store.le_refl _|assumption|refine Store.le_upd ?_ (by assumption) | refine Store.le_del ?_ (by assumption)))
  have sr:(((σ0.set c7 (.cells (leastA none))).set r (.raw (.deferred (some [])))).set l (.loop al)) r=some (.raw (.deferred (some []))):=(Store.set_ne _ _ hrl).trans (Store.set_same _ _ _);have s7:(((σ0.set c7 (.cells (leastA none))).set r (.raw (.deferred (some [])))).set l (.loop al)) c7=some (.cells (leastA none)):=(Store.set_ne _ _ (Ne.symm hl0.2)).trans ((Store.set_ne _ _ (Ne.symm hr0.2)).trans (Store.set_same _ _ _))
  refine callFnC Tryz.func54 rfl rfl rfl (ways1_ok (F:=fun c=>c=l∨c=c7) LK hg (by simp) hY ⟨rfl,rfl⟩ (LK.un (fun c _ ⟨x,h1,_⟩=>(hle _ _ h1).trans h1.symm) hu) ⟨fun c=>Iff.rfl,Store.set_same _ _ _,by simpa[leastA] using s7⟩ fun F' σ' hmv hu' hend=>?_)
  have hr':=(hmv r _ sr (fun e=>by rcases e with e|e;exact hrl e;exact hr0.2 e) (nb r hr) (.inr rfl)).1
  have hkeep:LKeep b mb σ0 σ':=fun c x h1 h2 h3'=>(hmv c x (hle c x h1) (fun e=>by rcases e with e|e <;> subst e <;> simp_all) h2 h3').1
  rcases hend with ⟨_,q1,q3⟩|q
  . rw[List.take_length,hw] at q3
    subst hal;refine⟨_,q1,by simp,rfl,?_⟩
    have q3':(σ'.del l) c7=some (.cells [ints w,int (horsesOf w),bool true]):=by simp only[Store.del,Ne.symm hl0.2,if_false];exact q3
    refine Resume.run lay [] ?_;simp[q3'];refine Resume.run lay [] ?_;simp;refine⟨by simp only[Store.del,hrl,if_false];exact hr',.less (fun c x hx=>?_) (.done h)⟩
    have hx0:=hle0 c x hx;have c1:c≠r:=fun e=>by subst e;rw[hr] at hx0;cases hx0
    have c2:c≠l:=fun e=>by subst e;rw[hl] at hx0;cases hx0
    have c3:c≠b:=fun e=>by subst e;rw[hfr.1] at hx;cases hx
    have c4:c≠mb:=fun e=>by subst e;rw[hfr.2] at hx;cases hx
    rw[Store.set_ne _ _ c1];simp only[Store.del,c2,if_false];exact hkeep c x hx0 c3 (.inl c4)
  . exact q.elim
end
end Go.Proofs.YtibjfmfdjncniaaGreatDoor
namespace Go.Proofs.YtibjfmfdjncniaaGreatDoor
open Go.Pal Go.Conc
set_option maxHeartbeats 1000000
set_option maxRecDepth 4000
variable {m:Mo} {σ:Store} {KF:Res->Store->Prop}
def leftE (l:List Ent) (out:List Int):List Ent:=(l.zipIdx.filter fun p => !decide ((p.2:Int)∈out)).map Prod.fst
theorem leftE_take (l:List Ent) (out:List Int) (k:Nat) (h:k<l.length):leftE (l.take (k+1)) out=leftE (l.take k) out ++ if (k:Int)∈out then [] else [l[k]]:=by
  unfold leftE;rw[List.take_succ_eq_append_getElem h,List.zipIdx_append,List.filter_append,List.map_append];congr 1;rw[List.length_take,Nat.min_eq_left (by omega)]
  by_cases hk:(k:Int)∈out <;> simp[hk]
theorem leftE_len (l:List Ent) (out:List Int):(leftE l out).length≤l.length:=by
  unfold leftE;rw[List.length_map];refine Nat.le_trans (List.length_filter_le _ _) ?_;simp
def withoutF (f:Fr) (out:List Int):Fr:={ f with ents:=leftE f.ents out }
theorem without_ok {f:Fr} {out:List Int} (hf:f.Good) (hl:out.length<1152921504606846976) (h:KF (.val (fairA (withoutF f out))) σ):FnOK Tryz.prog m 22 [fairA f,ints out] σ KF:=by
  have h6:=hf.six;refine FnOK.start lay [2] [] 2 Tryz.func22 rfl rfl (by rfl) (by kernel_rfl) ?_
  simp[Tryz.f22];refine newW.intro fun c2 h2=>?_
  simp;refine newW.intro fun c4 h4=>?_
  obtain⟨z1,z2,h4⟩:=Store.set_none h4;simp[z1,z2,Store.set_ne];generalize hσb:(σ.set c2 (.cells (fairL f))).set c4 (.cells [AV.lit (.slice none 0 0),.lit (.slice none 0 0),int 0,int 0,int 0,int 0])=σb;have hle:σ.Le σb:=by subst hσb;exact Store.le_set (Store.le_set (Store.le_refl _) h2) (by rw[Store.set_ne _ _ z1];exact h4)
  have b2:σb c2=some (.cells (fairL f)):=by subst hσb;simp[Store.set_ne,Store.set_same,z1,z2]
  have b4:σb c4=some (.cells [AV.lit (.slice none 0 0),.lit (.slice none 0 0),int 0,int 0,int 0,int 0]):=by subst hσb;simp[Store.set_same]
  refine Resume.loop f.ents.length (fun k s => ∃ env σ',s=⟨env,σ',[],.no⟩∧env 1=ints out∧env 2 = .ref c2 0∧env 4 = .ref c4 0∧env 9=entsA f.ents∧env 10=int f.ents.length∧env 11=int k∧Tok σb σ' (env 5) 6 ((leftE (f.ents.take k) out).map entA)) ⟨_,σb,by rw[← hσb],by simp,by simp,by simp,by simp,by simp,by simp,by simpa[leftE] using Tok.nil σb 6⟩ ?_
  rintro c0 k _ hk ⟨env,σ',rfl,e1,e2,e4,e9,e10,e11,htok⟩ ih
  have htc:=htok.cells;refine Resume.run lay [2] ?_;simp[e1,e2,e4,e9,e10,e11,htc.1,htc.2];refine condW.intro (fun g1=>?_) (fun g1=>?_) <;> (try simp[-Int.not_lt,-Int.not_le,-Nat.not_lt,-Nat.not_le] at g1) <;> (try simp[e1,e2,e4,e9,e10,e11,htc.1,htc.2,g1])
  . refine newW.intro fun c7 h7=>?_
    simp[e1,e2,e4,e9,e10,e11,htc.1,htc.2];refine callFn Tryz.func43 rfl rfl (Contains_ok hl ?_);refine Resume.run lay [2] ?_;simp[e1,e2,e4,e9,e10,e11,htc.1,htc.2];refine condW.intro (fun g2=>?_) (fun g2=>?_) <;> (try simp[-Int.not_lt,-Int.not_le,-Nat.not_lt,-Nat.not_le] at g2) <;> (try simp[e1,e2,e4,e9,e10,e11,htc.1,htc.2,g2])
    . refine⟨by omega,ih _ g1 ⟨_,_,rfl,by simp[e1,e2,e4,e9,e10,e11,htc.1,htc.2],by simp[e1,e2,e4,e9,e10,e11,htc.1,htc.2],by simp[e1,e2,e4,e9,e10,e11,htc.1,htc.2],by simp[e1,e2,e4,e9,e10,e11,htc.1,htc.2],by simp[e1,e2,e4,e9,e10,e11,htc.1,htc.2],by simp,?_⟩⟩
      have:=htok.up (Store.le_set (x:=.cells [int f.ents[k].hour,int f.ents[k].place,int f.ents[k].coat,ints f.ents[k].marks,int f.ents[k].height,int f.ents[k].shod]) (Store.le_refl _) h7);rw[leftE_take _ _ _ g1,if_pos g2,List.append_nil];simpa using this
    . have hlk:=leftE_len (f.ents.take k) out
      rw[List.length_take] at hlk;refine os_append lay rfl rfl rfl tt23 rfl tt23 rfl tt45 (by decide) (by simp;omega) (σ0:=σb) (es:=(leftE (f.ents.take k) out).map entA) (xs:=[entA f.ents[k]]) (by simpa using htok.up (Store.le_set (Store.le_refl _) h7)) (.inr ⟨_,rfl⟩) fun a' σ2 ht'=>?_
      refine Resume.run lay [2] ?_;simp[e1,e2,e4,e9,e10,e11,htc.1,htc.2];refine⟨by omega,ih _ g1 ⟨_,_,rfl,by simp[e1,e2,e4,e9,e10,e11,htc.1,htc.2],by simp[e1,e2,e4,e9,e10,e11,htc.1,htc.2],by simp[e1,e2,e4,e9,e10,e11,htc.1,htc.2],by simp[e1,e2,e4,e9,e10,e11,htc.1,htc.2],by simp[e1,e2,e4,e9,e10,e11,htc.1,htc.2],by simp,?_⟩⟩
      rw[leftE_take _ _ _ g1,if_neg g2,List.map_append];simpa using ht'
  . have hk':k=f.ents.length:=by omega
    subst hk';rw[List.take_length] at htok;simp[e1,e2,e4,e9,e10,e11,htc.1,htc.2,htok.1 _ _ b2,fairL,splice,htok.1 _ _ b4,Store.set_ne,z1,z2];refine .less (fun c x hx=>?_) (.weak (a':=fairA (withoutF f out)) (W_aggE rfl fun i a a' q1 q2=>?_) (.done h))
    . have n2:c≠c2:=fun e=>by subst e;rw[h2] at hx;cases hx
      have n4:c≠c4:=fun e=>by subst e;rw[h4] at hx;cases hx
      rw[Store.set_ne _ _ n4,Store.set_ne _ _ n2];exact htok.1 _ _ (hle _ _ hx)
    . match i with
      | 0=>simp[fairL,withoutF] at q1 q2;subst q1;subst q2;exact htok.W
      | 1=>simp[fairL,withoutF] at q1 q2;subst q1;subst q2;exact .refl _
      | 2=>simp[fairL,withoutF] at q1 q2;subst q1;subst q2;exact .refl _
      | 3=>simp[fairL,withoutF] at q1 q2;subst q1;subst q2;exact .refl _
      | 4=>simp[fairL,withoutF] at q1 q2;subst q1;subst q2;exact .refl _
      | 5=>simp[fairL,withoutF] at q1 q2;subst q1;subst q2;exact .refl _
      | i+6=>simp at q1
end Go.Proofs.YtibjfmfdjncniaaGreatDoor
namespace Go.Proofs.YtibjfmfdjncniaaGreatDoor
open Go.Pal Go.Conc
set_option maxHeartbeats 1000000
set_option maxRecDepth 4000
variable {m:Mo} {σ:Store} {KF:Res->Store->Prop}
def growW (f:Fr):Nat->Nat->List Int->Option (List Int)
  | 0,_,out=>if waysOf (withoutF f out) []≠[] then some out else none
  | more+1,frm,out=>(List.range' frm (f.ents.length-frm)).findSome? fun n=>growW f more (n+1) (out ++ [(n:Int)])
theorem leftE_mem (l:List Ent) (out:List Int):∀ e∈leftE l out,e∈l:=fun e he=>by
  unfold leftE at he;obtain⟨p,hp,rfl⟩:=List.mem_map.1 he;have:=(List.mem_filter.1 hp).1;exact List.fst_mem_of_mem_zipIdx this
theorem withoutF_good {f:Fr} (hf:f.Good) (out:List Int):(withoutF f out).Good:=by
  have hl:=leftE_len f.ents out;exact⟨⟨Nat.lt_of_le_of_lt hl hf.fits.ents,hf.fits.roads,hf.fits.row,fun e he=>hf.fits.marks e (leftE_mem _ _ e he)⟩,hf.fr,hf.to,hf.le,hf.dye,hf.most,Nat.le_trans hl hf.six,fun e he=>hf.ent e (leftE_mem _ _ e he),hf.rds⟩
namespace W
abbrev pl20:List Entry:=[⟨7,.take [1,2,3,4,5,7,10,11,12,13] false (.both 0 (.both 6 (.one 8 (.one 9 (.one 14 (.done)))) (.one 8 (.one 6 (.one 9 (.one 14 (.done)))))) (.both 6 (.both 0 (.one 8 (.one 9 (.one 14 (.done)))) (.one 8 (.both 0 (.one 9 (.one 14 (.done))) (.one 9 (.take [0] true (.one 14 (.done))))))) (.one 8 (.both 0 (.one 6 (.one 9 (.one 14 (.done)))) (.one 6 (.both 0 (.one 9 (.one 14 (.done))) (.one 9 (.take [0] true (.one 14 (.done))))))))))⟩]
def KeepX (x:Nat) (σ σ':Store):Prop := ∀ c v,σ c=some v->c≠x->σ' c=some v
abbrev wrongA (f:Fr) (c5 c6:Nat):AV:=.fn (.func 20) [] [.ref c5 0,.cp (fairA f) 0,.ref c6 0]
theorem wrong1_ok (hs:m.solo=true) {f:Fr} (hf:f.Good) {c5 c6:Nat} (h56:c5≠c6):∀ (more frm:Nat) (out:List Int) (sp:Spare) (σ:Store) (KF:Res->Store->Prop) (v:AV),σ c5=some (.cells [v])->σ c6=some (.cells [wrongA f c5 c6])->frm≤f.ents.length->out.length+more≤6 ->
    (∀ σ',KeepX c5 σ σ'->(∃ v',σ' c5=some (.cells [v']))->(∀ w,growW f more frm out=some w->∃ sp,σ' c5=some (.cells [.sl 1 (w.map int) sp]))->KF (.val (bool (growW f more frm out).isSome)) σ')->FnOK Tryz.prog m 20 [.sl 1 (out.map int) sp,int frm,int more,.ref c5 0,.cp (fairA f) 0,.ref c6 0] σ KF:=by
  intro more
  induction more with
  | zero=>
    intro frm out sp σ KF v h5 h6 hfrm hlen h;refine FnOK.start lay [] pl20 6 Tryz.func20 rfl rfl (by rfl) (by kernel_rfl) ?_
    simp[Tryz.f20,h5,h6];have hW:Wl [fairA f,AV.sl 1 (out.map int) sp] [fairA f,ints out]:=.cons (.refl _) (.cons (W_any 1 _ sp) .nil);refine callFnW Tryz.func22 rfl rfl hW (without_ok hf (by omega) ?_)
    refine Resume.run lay [] ?_;simp;refine callFn Tryz.func21 rfl rfl (newFair_ok fun b mb σ2 hn=>?_)
    have hu:UnS b 6 mb .u8 (Known (withoutF f out)) σ2:=by
      rw[hn.eq];exact⟨Store.set_same _ _ _,[],(Store.set_ne _ _ (Ne.symm hn.ne)).trans (Store.set_same _ _ _),fun n a h=>by simp[alook] at h⟩
    refine Resume.run lay [] ?_;simp;refine callFn Tryz.func23 rfl rfl (some_ok (lkM_solo muChk muExt muFn hs hn.ne) (withoutF_good hf out) hu fun σ3 q1 q2=>?_)
    refine Resume.run lay [] ?_;simp
    have hg:(growW f 0 frm out).isSome = !decide (waysOf (withoutF f out) []=[]):=by
      unfold growW
      by_cases g:waysOf (withoutF f out) []=[] <;> simp[g]
    rw[← hg]
    have key:∀ c x,(σ.set c5 (.cells [.sl 1 (out.map int) sp])) c=some x->σ3 c=some x:=fun c x hx=>by
      have n1:c≠b:=fun e=>by subst e;rw[hn.hb] at hx;cases hx
      have n2:c≠mb:=fun e=>by subst e;rw[hn.hmb] at hx;cases hx
      exact q2 c x (hn.le c x hx) n1 (.inl n2)
    refine .done (h σ3 (fun c x hx hc=>key c x ((Store.set_ne _ _ hc).trans hx)) ⟨_,key c5 _ (Store.set_same _ _ _)⟩ fun w hw=>⟨sp,?_⟩)
    have:w=out:=by
      unfold growW at hw;split at hw
      . exact (Option.some.inj hw).symm
      . cases hw
    subst this;exact key c5 _ (Store.set_same _ _ _)
  | succ more IH=>
    intro frm out sp σ KF v h5 h6 hfrm hlen h;refine FnOK.start lay [] pl20 6 Tryz.func20 rfl rfl (by rfl) (by kernel_rfl) ?_
    simp[Tryz.f20,h5,h6];have hb0:((more:Int)+1 == 0)=false:=by simp;omega
    simp[condW,hb0];refine Resume.loop (f.ents.length-frm) (fun k s => ∃ env σ',s=⟨env,σ',[],.no⟩∧env 0 = .sl 1 (out.map int) sp∧env 2=int (more+1)∧env 4 = .cp (fairA f) 0∧env 5 = .ref c6 0∧env 10=int ((frm:Int)+k)∧KeepX c5 σ σ'∧(∃ v',σ' c5=some (.cells [v']))∧growW f (more+1) frm out=(List.range' (frm+k) (f.ents.length-(frm+k))).findSome? fun n=>growW f more (n+1) (out ++ [(n:Int)])) ⟨_,_,rfl,by simp,by simp,by simp,by simp,by simp,fun c v h _=>h,⟨_,h5⟩,rfl⟩ ?_
    rintro c0 k _ hk ⟨env,σ',rfl,e0,e2,e4,e5,e10,hkeep,⟨v',h5'⟩,hgr⟩ ih
    have h6':=hkeep _ _ h6 (Ne.symm h56);have hlen6:=hf.six;refine Resume.run lay [] ?_;simp[e0,e2,e4,e5,e10,h6'];refine condW.intro (fun g1=>?_) (fun g1=>?_) <;> (try simp[-Int.not_lt,-Int.not_le,-Nat.not_lt,-Nat.not_le] at g1) <;> (try simp[e0,e2,e4,e5,e10,h6',g1])
    . have r1 : -9223372036854775808≤(frm:Int)+k+1∧(frm:Int)+k+1≤9223372036854775807:=by omega
      have r2 : -9223372036854775808≤(more:Int)∧(more:Int)≤9223372036854775807:=by omega
      have hcall:∀ σ3 sp' (KF':Res->Store->Prop),σ'.Le σ3->(∀ v σ4,KeepX c5 σ σ4->(∃ v',σ4 c5=some (.cells [v']))->(v=true->(growW f (more+1) frm out).isSome=true∧∀ w,growW f (more+1) frm out=some w->∃ sp,σ4 c5=some (.cells [.sl 1 (w.map int) sp]))->(v=false->growW f (more+1) frm out=(List.range' (frm+(k+1)) (f.ents.length-(frm+(k+1)))).findSome? fun n=>growW f more (n+1) (out ++ [(n:Int)]))->KF' (.val (bool v)) σ4)->FnOK Tryz.prog m 20 [.sl 1 (out.map int ++ [int ((frm:Int)+k)]) sp',int ((frm:Int)+k+1),int more,.ref c5 0,.cp (fairA f) 0,.ref c6 0] σ3 KF':=fun σ3 sp' KF' hle hK=>by
        have hsplit:growW f (more+1) frm out=(growW f more (frm+k+1) (out ++ [((frm+k:Nat):Int)])).or ((List.range' (frm+(k+1)) (f.ents.length-(frm+(k+1)))).findSome? fun n=>growW f more (n+1) (out ++ [(n:Int)])):=by
          rw[hgr];obtain⟨n,hn⟩:∃ n,f.ents.length-(frm+k)=n+1:=⟨f.ents.length-(frm+k)-1,by omega⟩
          have hn':f.ents.length-(frm+(k+1))=n:=by omega
          rw[hn,hn',List.range'_succ,List.findSome?_cons];cases growW f more (frm+k+1) (out ++ [((frm+k:Nat):Int)]) <;> rfl
        have:=IH (frm+k+1) (out ++ [((frm+k:Nat):Int)]) sp' σ3 KF' v' (hle _ _ h5') (hle _ _ h6') (by omega) (by simp;omega) fun σ4 q1 q2 q3=>hK _ σ4 (fun c x hx hc=>q1 c x (hle _ _ (hkeep c x hx hc)) hc) q2 (fun hv=>by
          rw[hsplit];cases hg:growW f more (frm+k+1) (out ++ [((frm+k:Nat):Int)]) with
          | none=>rw[hg] at hv;cases hv
          | some w=>exact⟨rfl,fun w' hw'=>q3 w' (by rw[hg];exact hw')⟩) (fun hv=>by
          rw[hsplit];cases hg:growW f more (frm+k+1) (out ++ [((frm+k:Nat):Int)]) with
          | none=>rfl
          | some w=>rw[hg] at hv;cases hv)
        simpa using this
      simp[e0,e2,e4,e5,e10,h6',r1.1,r1.2,r2.1,r2.2]
      repeat' (first
                | apply And.intro
                | (refine os_slice3Sl lay rfl tt22 rfl tt3 (es:=out.map int) (sp:=sp) (l:=0) (h:=out.length) (by simp[e0]) (fun cap hcap=>⟨⟨⟨.i64,by simp⟩,by simpa using hcap⟩,⟨⟨.i64,by simp⟩,Nat.le_refl _⟩,rfl⟩) (by simp) fun a ha=>?_
                   have hta:Tok σ' σ' a 1 (out.map int):=by
                     rcases ha with rfl|⟨e,rfl⟩
                     . have:List.take (out.length-0) (List.drop 0 (out.map int))=out.map int:=by rw[List.drop_zero,List.take_of_length_le (by simp)]
                       rw[this];exact .exact _ _ _
                     . rw[e];exact .nil _ _
                   clear ha;refine PendW.go lay [] ?_;simp[h6',e0,e2,e4,e5,e10,r1.1,r1.2,r2.1,r2.2])
                | (refine os_append lay rfl rfl rfl tt22 rfl tt22 rfl tt3 (by decide) (by simp;omega) (σ0:=σ') (es:=out.map int) (xs:=[int ((frm:Int)+k)]) (by simpa using hta) (.inr ⟨_,by simp;rfl⟩) fun a' σ3 ht'=>?_
                   obtain⟨sp',rfl⟩:∃ sp',a' = .sl 1 (out.map int ++ [int ((frm:Int)+k)]) sp':=by
                     rcases ht'.2 with ⟨_,e⟩|e|⟨_,_,_,e,_⟩
                     . simp at e
                     . exact⟨_,e⟩
                     . exact⟨_,e⟩
                   have s36:=ht'.1 _ _ h6';refine PendW.go lay [] ?_;simp[s36,e0,e2,e4,e5,e10,r1.1,r1.2,r2.1,r2.2])
                | (refine callFnC Tryz.func20 rfl rfl (by simp) (hcall σ3 sp' _ ht'.1 fun v σ4 q1 q2 q3 q4=>?_)
                   refine PendW.go lay [] ?_;simp[e0,e2,e4,e5,e10,r1.1,r1.2,r2.1,r2.2];cases v with
                   | true=>
                     refine Resume.run lay [] ?_;simp[condW,e0,e2,e4,e5,e10,r1.1,r1.2,r2.1,r2.2];obtain⟨w1,w2⟩:=q3 rfl;have hK:=h σ4 q1 q2 w2;rw[w1] at hK;exact .done hK
                   | false=>
                     refine Resume.run lay [] ?_;simp[condW,e0,e2,e4,e5,e10,r1.1,r1.2,r2.1,r2.2];refine ih _ (by omega) ⟨_,_,rfl,by simp[e0],by simp[e2],by simp[e4],by simp[e5],by simp;omega,q1,q2,q4 rfl⟩))
    . have:f.ents.length-(frm+k)=0:=by omega
      rw[this] at hgr;rw[hgr] at h;exact .done (h _ hkeep ⟨_,h5'⟩ fun w hw=>by cases hw)
end W
end Go.Proofs.YtibjfmfdjncniaaGreatDoor
namespace Go.Proofs.YtibjfmfdjncniaaGreatDoor
open Go.Pal Go.Conc
set_option maxHeartbeats 1000000
set_option maxRecDepth 4000
variable {m:Mo} {σ:Store} {KF:Res->Store->Prop}
open W
def wrongOf (f:Fr):Option (List Int):=(List.range' 0 (f.ents.length+1)).findSome? fun many=>growW f many 0 []
theorem Wrong_ok (hs:m.solo=true) {f:Fr} {w:List Int} (hf:f.Fits) (hc:check f=0) (hw:wrongOf f=some w) (h:KF (.val (.tup [ints w,int 0])) σ):FnOK Tryz.prog m 7 [fairA f] σ KF:=by
  have hg:=Fr.good hf hc;have h6:=hg.six;refine FnOK.start lay [] [] 1 Tryz.func7 rfl rfl (by rfl) (by kernel_rfl) ?_
  simp[Tryz.f7];refine callFn Tryz.func19 rfl rfl (Check_ok hf ?_);refine Resume.run lay [] ?_;simp[hc];refine newW.intro fun c5 h5=>?_
  simp;refine newW.intro fun c6 h6'=>?_
  obtain⟨z1,z2,h6'⟩:=Store.set_none h6';simp[z1,z2,Store.set_ne];refine⟨by omega,?_⟩
  generalize hσb:(σ.set c5 (.cells [AV.lit (.slice none 0 0)])).set c6 (.cells [wrongA f c5 c6])=σb;have hle:σ.Le σb:=by subst hσb;exact Store.le_set (Store.le_set (Store.le_refl _) h5) (by rw[Store.set_ne _ _ z1];exact h6')
  have b5:σb c5=some (.cells [AV.lit (.slice none 0 0)]):=by subst hσb;simp[Store.set_ne,Store.set_same,z1,z2]
  have b6:σb c6=some (.cells [wrongA f c5 c6]):=by subst hσb;simp[Store.set_same]
  have hend:∀ σ',KeepX c5 σb σ'->σ.Le σ':=fun σ' hk c x hx=>hk c x (hle c x hx) (fun e=>by subst e;rw[h5] at hx;cases hx)
  refine Resume.loop (f.ents.length+1) (fun k s => ∃ env σ',s=⟨env,σ',[],.no⟩∧env 5 = .ref c5 0∧env 6 = .ref c6 0∧env 17=int ((f.ents.length:Int)+1)∧env 18=int k∧KeepX c5 σb σ'∧(∃ v',σ' c5=some (.cells [v']))∧((List.range' k (f.ents.length+1-k)).findSome? fun many=>growW f many 0 [])=some w) ⟨_,σb,by rw[← hσb],by simp,by simp,by simp,by simp,fun c v h _=>h,⟨_,b5⟩,hw⟩ ?_
  rintro c0 k _ hk ⟨env,σ',rfl,e5,e6,e17,e18,hkeep,⟨v',h5'⟩,hgr⟩ ih
  have h6'':=hkeep _ _ b6 z1;refine Resume.run lay [] ?_;simp[e5,e6,e17,e18,h6''];refine condW.intro (fun g1=>?_) (fun g1=>?_) <;> (try simp[-Int.not_lt,-Int.not_le,-Nat.not_lt,-Nat.not_le] at g1) <;> (try simp[e5,e6,e17,e18,h6'',g1])
  . have hk6:k≤f.ents.length:=by omega
    obtain⟨n,hn⟩:∃ n,f.ents.length+1-k=n+1:=⟨f.ents.length-k,by omega⟩
    have hn':f.ents.length+1-(k+1)=n:=by omega
    rw[hn,List.range'_succ,List.findSome?_cons] at hgr;have hW:Wl [AV.lit (.slice none 0 0),int 0,int k,.ref c5 0,.cp (fairA f) 0,.ref c6 0] [.sl 1 (([]:List Int).map int) .any,int (0:Nat),int k,.ref c5 0,.cp (fairA f) 0,.ref c6 0]:=.cons (W_nil 1) (.cons (.refl _) (.cons (.refl _) (.cons (.refl _) (.cons (.refl _) (.cons (.refl _) .nil)))));refine callFnC Tryz.func20 rfl rfl rfl (FnOK.wargs (wrong1_ok hs hg (Ne.symm z1) k 0 [] .any σ' _ v' h5' h6'' (by omega) (by simp;omega) fun σ3 q1 q2 q3=>?_) hW)
    have hk3:KeepX c5 σb σ3:=fun c x hx hc=>q1 c x (hkeep c x hx hc) hc
    cases hgw:growW f k 0 [] with
    | some w'=>
      rw[hgw] at hgr;have:w'=w:=by simpa using hgr
      subst this;obtain⟨sp,h5w⟩:=q3 _ hgw;refine Resume.freezeAt 5 (b:=c5) (.sl 1 (w'.map int) sp) h5w (by simp only[Env.upd];exact e5) rfl ?_
      refine Resume.wat 5 (a':=.cp (ints w') 0) (by simp;exact W_cp1 rfl rfl (W_any 1 _ sp)) ?_
      refine Resume.run lay [] ?_;simp[e5,e6,e17,e18,h6''];refine .less (fun c x hx=>?_) (.done h)
      have n5:c≠c5:=fun e=>by subst e;rw[h5] at hx;cases hx
      simp only[Store.del,n5,if_false];exact hend _ hk3 c x hx
    | none=>
      rw[hgw] at hgr;refine Resume.run lay [] ?_;simp[e5,e6,e17,e18,h6''];refine⟨by omega,ih _ (by omega) ⟨_,_,rfl,by simp[e5,e6,e17,e18,h6''],by simp[e5,e6,e17,e18,h6''],by simp[e5,e6,e17,e18,h6''],by simp,hk3,q2,?_⟩⟩
      rw[hn'];simpa using hgr
  . rw[show f.ents.length+1-k=0 by omega] at hgr
    cases hgr
end Go.Proofs.YtibjfmfdjncniaaGreatDoor
namespace Go.Proofs.YtibjfmfdjncniaaGreatDoor
open Go.Pal Go.Conc
set_option maxHeartbeats 1000000
set_option maxRecDepth 4000
theorem book_check43:check (bookF 4 3)=0:=by decide +kernel
theorem book_check53:check (bookF 5 3)=0:=by decide +kernel
theorem book_check42:check (bookF 4 2)=0:=by decide +kernel
theorem book_why:whyN (bookF 4 3) [0,1]=0:=by decide +kernel
theorem book_heights:heightsOf (bookF 4 3) [2]=[13,14,15]:=by decide +kernel
theorem book_count:countOf (bookF 5 3)=4:=by decide +kernel
theorem book_ways:waysOf (bookF 4 3) []≠[]:=by decide +kernel
theorem book_fewest:(waysOf (bookF 4 3) []).foldl lesser none=some [0,0,1,2]∧horsesOf [0,0,1,2]=3:=by decide +kernel
theorem book_same:verdictOf (((waysOf (bookF 4 3) []).filter (sameP 1 2)).length:Int) (waysOf (bookF 4 3) []).length=2:=by decide +kernel
theorem book_wrong:wrongOf (bookF 4 2)=some [1]:=by decide +kernel
end Go.Proofs.YtibjfmfdjncniaaGreatDoor
namespace Go.Proofs.YtibjfmfdjncniaaGreatDoor
open Go.Pal Go.Conc
set_option maxHeartbeats 1000000
set_option maxRecDepth 4000
variable {m:Mo} {σ:Store} {KF:Res->Store->Prop}
theorem book_fits (n:Nat) (most:Int):(bookF n most).Fits:=by
  refine⟨?_,by simp[bookF],fun r hr=>?_,fun e he=>?_⟩
  . simp[bookF,fiveL];omega
  . simp[bookF] at hr;rcases hr with rfl|rfl <;> simp
  . have:=List.mem_of_mem_take (show e∈fiveL.take n from he)
    simp[fiveL] at this
    rcases this with rfl|rfl|rfl|rfl|rfl <;> simp
theorem marked_ok (hs:m.solo=true) (h:KF (.val (bool true)) σ):FnOK Tryz.prog m 12 [] σ KF:=by
  refine FnOK.start lay [] [] 0 Tryz.func12 rfl rfl (by rfl) (by kernel_rfl) ?_
  simp[Tryz.f12];refine callFn Tryz.func29 rfl rfl (book_ok (n:=4) (most:=3) (by omega) ?_)
  refine Resume.run lay [] ?_;simp;have hW:Wl [fairA (bookF 4 3),.sl 1 [int 0,int 1] .exact] [fairA (bookF 4 3),ints [0,1]]:=.cons (.refl _) (.cons (W_any 1 [int 0,int 1] .exact) .nil);refine callFnW Tryz.func28 rfl rfl hW (Can_ok (book_fits 4 3) book_check43 ?_ (by simp) ?_)
  . exact⟨by decide +kernel,by simp⟩
  refine Resume.run lay [] ?_;simp[book_why];refine callFn Tryz.func29 rfl rfl (book_ok (n:=4) (most:=3) (by omega) ?_)
  refine Resume.run lay [] ?_;simp;have hW:Wl [fairA (bookF 4 3),.sl 1 [int 2] .exact] [fairA (bookF 4 3),ints [2]]:=.cons (.refl _) (.cons (W_any 1 [int 2] .exact) .nil);refine callFnW Tryz.func30 rfl rfl hW (Heights_ok (book_fits 4 3) book_check43 ?_ ?_)
  . exact⟨by decide +kernel,by simp⟩
  refine Resume.run lay [] ?_;simp;refine callFn Tryz.func29 rfl rfl (book_ok (n:=5) (most:=3) (by omega) ?_)
  refine Resume.run lay [] ?_;simp;refine callFn Tryz.func9 rfl rfl (Count_ok hs (book_fits 5 3) book_check53 (by decide +kernel) ?_)
  refine Resume.run lay [] ?_;simp[book_count];refine callFn Tryz.func29 rfl rfl (book_ok (n:=4) (most:=3) (by omega) ?_)
  refine Resume.run lay [] ?_;simp;refine callFn Tryz.func15 rfl rfl (Fewest_ok hs (book_fits 4 3) book_check43 book_fewest.1 (by decide +kernel) ?_)
  refine Resume.run lay [] ?_;simp[book_fewest.2];refine callFn Tryz.func29 rfl rfl (book_ok (n:=4) (most:=3) (by omega) ?_)
  refine Resume.run lay [] ?_;simp;refine callFn Tryz.func31 rfl rfl (Same_ok hs (book_fits 4 3) book_check43 (by decide) (by decide) book_ways (by decide +kernel) ?_)
  refine Resume.run lay [] ?_;simp[book_same];refine callFn Tryz.func29 rfl rfl (book_ok (n:=4) (most:=2) (by omega) ?_)
  refine Resume.run lay [] ?_;simp;refine callFn Tryz.func7 rfl rfl (Wrong_ok hs (book_fits 4 2) book_check42 book_wrong ?_);refine Resume.run lay [] ?_;simp;refine callFnW Tryz.func11 rfl rfl (args':=[ints (heightsOf (bookF 4 3) [2]),ints [13,14,15]]) (.cons (.refl _) (.cons (W_any 1 [int 13,int 14,int 15] .exact) .nil)) (SameInts_ok (by decide +kernel) (by decide +kernel) ?_)
  refine Resume.run lay [] ?_;simp[book_heights];refine callFnW Tryz.func11 rfl rfl (args':=[ints [0,0,1,2],ints [0,0,1,2]]) (.cons (.refl _) (.cons (W_any 1 [int 0,int 0,int 1,int 2] .exact) .nil)) (SameInts_ok (by simp) (by simp) ?_)
  refine Resume.run lay [] ?_;simp;refine callFnW Tryz.func11 rfl rfl (args':=[ints [1],ints [1]]) (.cons (.refl _) (.cons (W_any 1 [int 1] .exact) .nil)) (SameInts_ok (by simp) (by simp) ?_)
  refine Resume.run lay [] ?_;simp;exact .done h
end Go.Proofs.YtibjfmfdjncniaaGreatDoor
namespace Go.Proofs.YtibjfmfdjncniaaGreatDoor
open Go.Pal Go.Conc
set_option maxHeartbeats 1000000
set_option maxRecDepth 4000
variable {m:Mo} {σ:Store} {KF:Res->Store->Prop}
def BagAt (c:Nat) (nums:List Int) (k:Nat) (σ:Store):Prop := ∃ (n:Nat) (s:Int),n≤k∧σ c=some (.cells [ints nums,int n,.lit (.int .u64 s)])
theorem NewBag_ok {nums:List Int} (h:∀ c σ',σ c=none->BagAt c nums 0 σ'->(∀ x,x≠c->σ' x=σ x)->KF (.val (.ref c 0)) σ'):FnOK Tryz.prog m 6 [ints nums] σ KF:=by
  refine FnOK.start lay [5] [] 1 Tryz.func6 rfl rfl (by rfl) (by kernel_rfl) ?_
  simp[Tryz.f6];refine newW.intro fun c hc=>?_
  simp;exact .done (h c _ hc ⟨0,_,Nat.le_refl _,Store.set_same _ _ _⟩ fun x hx=>Store.set_ne _ _ hx)
end Go.Proofs.YtibjfmfdjncniaaGreatDoor
namespace Go.Proofs.YtibjfmfdjncniaaGreatDoor
open Go.Pal Go.Conc
set_option maxHeartbeats 1000000
set_option maxRecDepth 4000
variable {m:Mo} {σ:Store} {KF:Res->Store->Prop}
theorem xorW_bd (a b:Int):0≤IntKind.u64.wrap (((BitVec.ofInt 64 a ^^^ BitVec.ofInt 64 b).toNat:Nat):Int)∧IntKind.u64.wrap (((BitVec.ofInt 64 a ^^^ BitVec.ofInt 64 b).toNat:Nat):Int)<18446744073709551616:=by
  generalize (((BitVec.ofInt 64 a ^^^ BitVec.ofInt 64 b).toNat:Nat):Int)=x;simp only[IntKind.wrap,IntKind.signed,IntKind.bits];simp;omega
theorem shr_bd {x:Int} (h:0≤x∧x<18446744073709551616):0≤x.fdiv (2 ^ min 11 IntKind.u64.bits)∧x.fdiv (2 ^ min 11 IntKind.u64.bits)<9007199254740992:=by
  have e:(2:Int) ^ min 11 IntKind.u64.bits=2048:=by decide
  rw[e,Int.fdiv_eq_ediv_of_nonneg _ (by omega)]
  omega
theorem draw_ok {c k:Nat} {nums:List Int} (hk:k<1000000) (hn:nums.length<1152921504606846976) (hb:BagAt c nums k σ) (h:∀ (x:Int) σ',0≤x∧x<9007199254740992->BagAt c nums (k+1) σ'->(∀ y,y≠c->σ' y=σ y)->KF (.val (.lit (.int .u64 x))) σ'):FnOK Tryz.prog m 34 [.ref c 0] σ KF:=by
  obtain⟨n,s,hnk,hc⟩:=hb;have r1 : -9223372036854775808≤(n:Int)+1∧(n:Int)+1≤9223372036854775807:=by omega
  obtain⟨fm,ibin_mulW⟩:∃ f:Int->Int->Int,∀ a b,ibin .mul .u64 a b=some (.int .u64 (f a b)):=⟨_,fun _ _=>rfl⟩
  obtain⟨fx,ibin_xorW,hxb⟩:∃ f:Int->Int->Int,(∀ a b,ibin .xor .u64 a b=some (.int .u64 (f a b)))∧∀ a b,0≤f a b∧f a b<18446744073709551616:=⟨_,fun _ _=>rfl,xorW_bd⟩
  refine FnOK.startN lay [] pl34 27 1 Tryz.func34 rfl rfl (by rfl) (by kernel_rfl) ?_
  simp[Tryz.f34,hc,r1.1,r1.2,splice,ibin_mulW];refine Resume.stand (fun e σ1=>e 0 = .ref c 0∧(∃ z,e 3 = .lit (.int .u64 z))∧σ1 c=some (.cells [ints nums,int ((n:Int)+1),.lit (.int .u64 s)])∧∀ y,y≠c->σ1 y=σ y) (by simp[Store.set_ne];intro y hy;exact Store.set_ne _ _ hy) ?_
  clear hc
  rintro env σ1 ⟨h0,⟨z,h3⟩,hc,hs1⟩
  refine Resume.runN lay [] 2 ?_;simp[h0,h3,hc];refine Resume.runN lay [] 2 ?_;simp[h0,h3,hc];refine condW.intro (fun g1=>?_) (fun g1=>?_) <;> simp[-Int.not_lt,-Int.not_le,-Nat.not_lt,-Nat.not_le] at g1
  . have g2:(n:Int)<nums.length:=by omega
    have g3:n<nums.length:=by omega
    have r2 : -9223372036854775808≤(n:Int)∧(n:Int)≤9223372036854775807:=by omega
    simp[h0,h3,hc,g2,g3,r2.1,r2.2,ibin_mulW,ibin_xorW];refine Resume.stand (fun e σ1=>e 0 = .ref c 0∧(∃ z,e 3 = .lit (.int .u64 z))∧σ1 c=some (.cells [ints nums,int ((n:Int)+1),.lit (.int .u64 s)])∧∀ y,y≠c->σ1 y=σ y) (by simp[h0,h3,hc];exact hs1) ?_
    clear h0 h3 hc hs1
    rintro env σ1 ⟨h0,⟨z,h3⟩,hc,hs1⟩
    refine Resume.run lay [] ?_;simp[h0,h3,hc,ibin_mulW,ibin_xorW,splice];refine Resume.stand (fun e σ1=>e 0 = .ref c 0∧(∃ s,σ1 c=some (.cells [ints nums,int ((n:Int)+1),.lit (.int .u64 s)]))∧∀ y,y≠c->σ1 y=σ y) (by refine⟨by simp[h0],⟨_,by simp;rfl⟩,fun y hy=>?_⟩;simp[Store.set_ne,hy,hs1 y hy]) ?_
    clear h0 h3 hc hs1
    rintro env σ1 ⟨h0,⟨z,hc⟩,hs1⟩
    refine Resume.run lay [] ?_;simp[h0,hc,ibin_mulW,ibin_xorW];refine .done (h _ σ1 (shr_bd (hxb _ _)) ⟨n+1,z,by omega,by simpa using hc⟩ hs1)
  . simp[h0,h3,hc]
    refine Resume.run lay [] ?_;simp[h0,h3,hc,ibin_mulW,ibin_xorW,splice];refine Resume.stand (fun e σ1=>e 0 = .ref c 0∧(∃ s,σ1 c=some (.cells [ints nums,int ((n:Int)+1),.lit (.int .u64 s)]))∧∀ y,y≠c->σ1 y=σ y) (by refine⟨by simp[h0],⟨_,by simp;rfl⟩,fun y hy=>?_⟩;simp[Store.set_ne,hy,hs1 y hy]) ?_
    clear h0 h3 hc hs1
    rintro env σ1 ⟨h0,⟨z,hc⟩,hs1⟩
    refine Resume.run lay [] ?_;simp[h0,hc,ibin_mulW,ibin_xorW];refine .done (h _ σ1 (shr_bd (hxb _ _)) ⟨n+1,z,by omega,by simpa using hc⟩ hs1)
end Go.Proofs.YtibjfmfdjncniaaGreatDoor
namespace Go.Proofs.YtibjfmfdjncniaaGreatDoor
open Go.Pal Go.Conc
set_option maxHeartbeats 1000000
set_option maxRecDepth 4000
variable {m:Mo} {σ:Store} {KF:Res->Store->Prop}
def Drew (c:Nat) (nums:List Int) (k:Nat) (σ σ':Store):Prop:=BagAt c nums k σ'∧∀ y,y≠c->σ' y=σ y
theorem Drew.trans {c:Nat} {nums:List Int} {k k':Nat} {σ σ' σ'':Store} (h:Drew c nums k σ σ') (h':Drew c nums k' σ' σ''):Drew c nums k' σ σ'':=⟨h'.1,fun y hy=>(h'.2 y hy).trans (h.2 y hy)⟩
theorem BagAt.mono {c:Nat} {nums:List Int} {k k':Nat} (h:BagAt c nums k σ) (hk:k≤k'):BagAt c nums k' σ:=by
  obtain⟨n,s,h1,h2⟩:=h;exact⟨n,s,by omega,h2⟩
theorem wrap_u {n:Int} (h:0≤n∧n<18446744073709551616):IntKind.u64.wrap n=n:=by
  simp only[IntKind.wrap,IntKind.signed,IntKind.bits];simp;omega
theorem wrap_i {n:Int} (h : -9223372036854775808≤n∧n≤9223372036854775807):IntKind.i64.wrap n=n:=by
  simp[IntKind.wrap,IntKind.signed,IntKind.bits];omega
section
variable {c k:Nat} {nums:List Int}
theorem UpTo_ok {n:Int} (hk:k<1000000) (hn:nums.length<1152921504606846976) (hnn : -4611686018427387904≤n∧n<4611686018427387904) (hb:BagAt c nums k σ) (h:∀ (x:Int) σ',0≤x∧(x≤n∨x=0)->Drew c nums (k+1) σ σ'->KF (.val (int x)) σ'):FnOK Tryz.prog m 14 [.ref c 0,int n] σ KF:=by
  refine FnOK.start lay [] [] 2 Tryz.func14 rfl rfl (by rfl) (by kernel_rfl) ?_
  simp[Tryz.f14];refine callFn Tryz.func34 rfl rfl (draw_ok hk hn hb fun x σ' hx h1 h2=>?_)
  refine Resume.run lay [] ?_;simp;refine condW.intro (fun g1=>?_) (fun g1=>?_) <;> simp[-Int.not_lt,-Int.not_le] at g1
  . simp
    exact .done (h 0 σ' ⟨by omega,.inr rfl⟩ ⟨h1,h2⟩)
  . have eW:IntKind.u64.wrap n=n:=wrap_u (by omega)
    have e1:ibin .add .u64 n 1=some (.int .u64 (n+1)):=by
      show some (Value.int .u64 (IntKind.u64.wrap (n+1)))=_;rw[wrap_u (by omega)]
    obtain⟨r,hr,e2⟩:∃ r:Int,(0≤r∧r≤n)∧ibin .rem .u64 x (n+1)=some (.int .u64 r):=by
      refine⟨x.tmod (n+1),⟨Int.tmod_nonneg _ hx.1,?_⟩,by simp[ibin];omega⟩
      have:=Int.tmod_lt_of_pos x (show 0<n+1 by omega)
      omega
    have eR:IntKind.i64.wrap r=r:=wrap_i (by omega)
    simp[eW,e1,e2,eR];exact .done (h r σ' ⟨hr.1,.inl hr.2⟩ ⟨h1,h2⟩)
theorem Among_ok {lo hi:Int} (hk:k<1000000) (hn:nums.length<1152921504606846976) (hlo : -1000000000≤lo∧lo≤1000000000) (hhi : -1000000000≤hi∧hi≤1000000000) (hb:BagAt c nums k σ) (h:∀ (x:Int) σ',lo≤x∧(x≤hi∨x=lo)->Drew c nums (k+1) σ σ'->KF (.val (int x)) σ'):FnOK Tryz.prog m 16 [.ref c 0,int lo,int hi] σ KF:=by
  have r1 : -9223372036854775808≤hi-lo∧hi-lo≤9223372036854775807:=by omega
  refine FnOK.start lay [] [] 3 Tryz.func16 rfl rfl (by rfl) (by kernel_rfl) ?_
  simp[Tryz.f16,r1.1,r1.2];refine callFn Tryz.func14 rfl rfl (UpTo_ok hk hn ⟨by omega,by omega⟩ hb fun x σ' hx hd=>?_)
  have r2 : -9223372036854775808≤lo+x∧lo+x≤9223372036854775807:=by omega
  refine Resume.run lay [] ?_;simp[r2.1,r2.2];exact .done (h _ σ' ⟨by omega,by omega⟩ hd)
theorem Pick_ok {l:List Int} {sp:Spare} (hk:k<1000000) (hn:nums.length<1152921504606846976) (hl:0<l.length∧l.length<1000000) (hb:BagAt c nums k σ) (h:∀ (x:Int) σ',x∈l->Drew c nums (k+1) σ σ'->KF (.val (int x)) σ'):FnOK Tryz.prog m 17 [.ref c 0,.sl 1 (l.map int) sp] σ KF:=by
  have r1 : -9223372036854775808≤(l.length:Int)-1∧(l.length:Int)-1≤9223372036854775807:=by omega
  refine FnOK.start lay [] [] 2 Tryz.func17 rfl rfl (by rfl) (by kernel_rfl) ?_
  simp[Tryz.f17,r1.1,r1.2];refine callFn Tryz.func14 rfl rfl (UpTo_ok hk hn ⟨by omega,by omega⟩ hb fun x σ' hx hd=>?_)
  have g1:x.toNat<l.length:=by omega
  have g2:x<l.length:=by omega
  have e:(x.toNat:Int)=x:=by omega
  refine Resume.run lay [] ?_;simp[hx.1,g1,g2];exact .done (h _ σ' (List.getElem_mem g1) hd)
theorem Once_ok {n:Int} (hk:k<1000000) (hn:nums.length<1152921504606846976) (hnn:0≤n∧n<1000000000) (hb:BagAt c nums k σ) (h:∀ (x:Bool) σ',Drew c nums (k+1) σ σ'->KF (.val (bool x)) σ'):FnOK Tryz.prog m 39 [.ref c 0,int n] σ KF:=by
  have r1 : -9223372036854775808≤n-1∧n-1≤9223372036854775807:=by omega
  refine FnOK.start lay [] [] 2 Tryz.func39 rfl rfl (by rfl) (by kernel_rfl) ?_
  simp[Tryz.f39,r1.1,r1.2];refine callFn Tryz.func14 rfl rfl (UpTo_ok hk hn ⟨by omega,by omega⟩ hb fun x σ' hx hd=>?_)
  refine Resume.run lay [] ?_;simp;exact .done (h _ σ' hd)
end
end Go.Proofs.YtibjfmfdjncniaaGreatDoor
namespace Go.Proofs.YtibjfmfdjncniaaGreatDoor
open Go.Pal Go.Conc
set_option maxHeartbeats 1000000
set_option maxRecDepth 4000
variable {m:Mo} {σ:Store} {KF:Res->Store->Prop}
structure EntOK (spots:Int) (e:Ent):Prop where
  hour:0≤e.hour∧e.hour≤40
  place:0≤e.place∧e.place<spots
  coat:0≤e.coat∧e.coat≤1
  marks:e.marks.Sublist [0,1,2]
  height:14≤e.height∧e.height≤16
  shod:0≤e.shod∧e.shod≤2
theorem sub_marks {l:List Int} (h:l.Sublist [0,1,2]):chkM none l=0∧l.length≤3:=by
  cases h <;> (rename_i h;cases h <;> (rename_i h;cases h <;> (rename_i h;cases h;decide)))
theorem EntOK.check {spots:Int} {e:Ent} (h:EntOK spots e):checkEntry spots e=0:=by
  obtain⟨h1,h2,h3,h4,h5,h6⟩:=h;have h4:=(sub_marks h4).1;unfold checkEntry isIn;have e1:(0≤e.hour):=h1.1;have e2:e.hour≤72:=by omega
  have e3:e.place≤spots-1:=by omega
  have e4:e.coat≤5:=by omega
  have e5:0≤e.height:=by omega
  have e6:e.height≤30:=by omega
  simp[h1.1,e2,h2.1,e3,h3.1,e4,h4,e5,e6,h6.1,h6.2]
theorem tok_but {σ0 σ σ2:Store} {a:AV} {kk:Nat} {es:List AV} {c:Nat} (h:Tok σ0 σ a kk es) (h0:σ0 c=none) (hc:∃ l,σ c=some (.cells l)) (hs:∀ y,y≠c->σ2 y=σ y):Tok σ0 σ2 a kk es:=by
  refine⟨fun y x hy=>?_,?_⟩
  . have:y≠c:=fun e=>by subst e;rw[h0] at hy;cases hy
    rw[hs y this];exact h.1 y x hy
  rcases h.2 with q|q|⟨b,e,q1,q2,q3⟩
  . exact .inl q
  . exact .inr (.inl q)
  . refine .inr (.inr ⟨b,e,q1,q2,?_⟩)
    have:b≠c:=fun e=>by subst e;obtain⟨l,hl⟩:=hc;rw[hl] at q3;cases q3
    rw[hs b this];exact q3
section
variable {c k:Nat} {nums:List Int}
theorem EntryOf_ok {spots:Int} (hk:k+11<1000000) (hn:nums.length<1152921504606846976) (hsp:1≤spots∧spots≤1000) (hb:BagAt c nums k σ) (h:∀ (e:Ent) σ',EntOK spots e->Drew c nums (k+11) σ σ'->KF (.val (entA e)) σ'):FnOK Tryz.prog m 18 [.ref c 0,int spots] σ KF:=by
  have r1 : -9223372036854775808≤spots-1∧spots-1≤9223372036854775807:=by omega
  obtain⟨n0,s0,_,hc0⟩:=id hb;refine FnOK.start lay [] [] 2 Tryz.func18 rfl rfl (by rfl) (by kernel_rfl) ?_
  simp[Tryz.f18];refine newW.intro fun c4 h4=>?_
  have n4:c≠c4:=fun e=>by subst e;rw[hc0] at h4;cases h4
  have hb1:∀ x,BagAt c nums k (σ.set c4 x):=fun x=>⟨n0,s0,by assumption,by rw[Store.set_ne _ _ n4];exact hc0⟩
  simp;refine callFn Tryz.func14 rfl rfl (UpTo_ok (by omega) hn ⟨by omega,by omega⟩ (hb1 _) fun x1 σ1 hx1 hd1=>?_)
  refine Resume.run lay [] ?_;simp;refine callFn Tryz.func14 rfl rfl (UpTo_ok (by omega) hn ⟨by omega,by omega⟩ hd1.1 fun x2 σ2 hx2 hd2=>?_)
  refine Resume.run lay [] ?_;simp;refine callFn Tryz.func14 rfl rfl (UpTo_ok (by omega) hn ⟨by omega,by omega⟩ hd2.1 fun x3 σ3 hx3 hd3=>?_)
  refine Resume.run lay [] ?_;simp;refine callFn Tryz.func17 rfl rfl (Pick_ok (l:=[x1,x2,x3]) (by omega) hn ⟨by simp,by simp⟩ hd3.1 fun hr σ4 hx4 hd4=>?_)
  refine Resume.run lay [] ?_;simp[r1.1,r1.2];refine callFn Tryz.func14 rfl rfl (UpTo_ok (by omega) hn ⟨by omega,by omega⟩ hd4.1 fun pl σ5 hx5 hd5=>?_)
  refine Resume.run lay [] ?_;simp;refine callFn Tryz.func17 rfl rfl (Pick_ok (l:=[0,0,0,1]) (by omega) hn ⟨by simp,by simp⟩ hd5.1 fun co σ6 hx6 hd6=>?_)
  refine Resume.run lay [] ?_;simp;refine callFn Tryz.func17 rfl rfl (Pick_ok (l:=[14,14,15,15,16]) (by omega) hn ⟨by simp,by simp⟩ hd6.1 fun he σ7 hx7 hd7=>?_)
  refine Resume.run lay [] ?_;simp;refine callFn Tryz.func17 rfl rfl (Pick_ok (l:=[0,0,1,2]) (by omega) hn ⟨by simp,by simp⟩ hd7.1 fun sh σ8 hx8 hd8=>?_)
  refine Resume.run lay [] ?_;simp;refine newW.intro fun c5 h5=>?_
  simp;have hd08:Drew c nums (k+8) (σ.set c4 (.cells [int 0,int 0,int 0,.lit (.slice none 0 0),int 0,int 0])) σ8:=hd1.trans (hd2.trans (hd3.trans (hd4.trans (hd5.trans (hd6.trans (hd7.trans hd8))))));have n45:c4≠c:=Ne.symm n4;have h84:σ8 c4=some (.cells [int 0,int 0,int 0,.lit (.slice none 0 0),int 0,int 0]):=by rw[hd08.2 c4 n45,Store.set_same]
  have n5:c5≠c:=fun e=>by subst e;obtain⟨_,_,_,q⟩:=hd8.1;rw[q] at h5;cases h5
  have n54:c5≠c4:=fun e=>by subst e;rw[h84] at h5;cases h5
  have h85:σ c5=none:=by rw[hd08.2 c5 n5,Store.set_ne _ _ n54] at h5;exact h5
  have hr0:0≤hr∧hr≤40:=by simp at hx4;omega
  have co0:0≤co∧co≤1:=by simp at hx6;omega
  have he0:14≤he∧he≤16:=by simp at hx7;omega
  have sh0:0≤sh∧sh≤2:=by simp at hx8;omega
  have pl0:0≤pl∧pl<spots:=by omega
  refine Resume.loop 3 (fun j s => ∃ env σ' a mk,s=⟨env,σ',[],.no⟩∧env 0 = .ref c 0∧env 4 = .ref c4 0∧env 5 = .ref c5 0∧env 6=int j∧BagAt c nums (k+8+j) σ'∧σ' c4=some (.cells [int 0,int 0,int 0,.lit (.slice none 0 0),int 0,int 0])∧σ' c5=some (.cells [int hr,int pl,int co,a,int he,int sh])∧Tok (σ.del c) σ' a 1 (mk.map int)∧mk.Sublist ((List.range j).map fun i:Nat=>(i:Int))) ⟨_,_,.lit (.slice none 0 0),[],rfl,by simp,by simp,by simp,by simp,?_,?_,?_,?_,by simp⟩ ?_
  . obtain⟨n,z,h1,h2⟩:=hd08.1
    exact⟨n,z,by omega,by rw[Store.set_ne _ _ (Ne.symm n5)];exact h2⟩
  . rw[Store.set_ne _ _ (Ne.symm n54)];exact h84
  . simp
  . refine⟨fun y x hy=>?_,.inl ⟨rfl,rfl⟩⟩
    have y1:y≠c:=fun e=>by subst e;simp[Store.del] at hy
    have y0:σ y=some x:=by simpa[Store.del,y1] using hy
    have y5:y≠c5:=fun e=>by subst e;rw[h85] at y0;cases y0
    have y4:y≠c4:=fun e=>by subst e;rw[h4] at y0;cases y0
    rw[Store.set_ne _ _ y5,hd08.2 y y1,Store.set_ne _ _ y4];exact y0
  rintro c0 j _ hj ⟨env,σ',a,mk,rfl,e0,e4,e5,e6,hbj,q4,q5,htok,hmk⟩ ih
  have hml:mk.length≤j:=by have:=hmk.length_le;rwa [List.length_map,List.length_range] at this
  rcases Nat.lt_or_ge j 3 with g1|g1
  . have g1':(j:Int)<3:=by omega
    refine Resume.run lay [] ?_;simp[e0,e4,e5,e6,g1'];refine callFn Tryz.func39 rfl rfl (Once_ok (by omega) hn ⟨by omega,by omega⟩ hbj fun x σ2 hd=>?_)
    have hbc:∃ l,σ' c=some (.cells l):=by obtain⟨_,_,_,q⟩:=hbj;exact⟨_,q⟩
    have htok2:Tok (σ.del c) σ2 a 1 (mk.map int):=tok_but htok (by simp[Store.del]) hbc hd.2
    have htc:=htok2.cells;have s4:σ2 c4=some (.cells [int 0,int 0,int 0,.lit (.slice none 0 0),int 0,int 0]):=by rw[hd.2 c4 n45];exact q4
    have s5:σ2 c5=some (.cells [int hr,int pl,int co,a,int he,int sh]):=by rw[hd.2 c5 n5];exact q5
    have hrs:(List.range (j+1)).map (fun i:Nat=>(i:Int))=(List.range j).map (fun i:Nat=>(i:Int)) ++ [(j:Int)]:=by rw[List.range_succ,List.map_append];rfl
    have f1 : -9223372036854775808≤(j:Int)+1∧(j:Int)+1≤9223372036854775807:=by omega
    refine Resume.run lay [] ?_;simp[e0,e4,e5,e6,s5,htc.1,htc.2,f1.1,f1.2];cases x with
    | false=>
      simp[e0,e4,e5,e6,s5,htc.1,htc.2,f1.1,f1.2];refine ih _ g1 ⟨_,_,a,mk,rfl,by simp[e0,e4,e5,e6,s5,htc.1,htc.2,f1.1,f1.2],by simp[e0,e4,e5,e6,s5,htc.1,htc.2,f1.1,f1.2],by simp[e0,e4,e5,e6,s5,htc.1,htc.2,f1.1,f1.2],by simp,hd.1,s4,s5,htok2,?_⟩
      rw[hrs];exact hmk.trans (List.sublist_append_left _ _)
    | true=>
      simp[e0,e4,e5,e6,s5,htc.1,htc.2,f1.1,f1.2];refine os_append lay rfl rfl rfl tt22 rfl tt22 rfl tt3 (by decide) (by simp;omega) (σ0:=σ2.off a) (es:=mk.map int) (xs:=[int j]) (by simpa using htok2.here.1) (.inr ⟨_,rfl⟩) fun a' σ3 ht'=>?_
      have hta:=ht'.cells;have nta:∀ y l,σ2 y=some (.cells l)->tokBlk a≠some y:=fun y l hy e=>by obtain⟨_,_,q⟩:=htok2.tok_some e;rw[hy] at q;cases q
      have k3:∀ y l,σ2 y=some (.cells l)->σ3 y=some (.cells l):=fun y l hy=>ht'.1 _ _ (by rw[Store.off_ne (nta y l hy)];exact hy)
      have t5:=k3 _ _ s5;have t4:=k3 _ _ s4;refine Resume.run lay [] ?_;simp[e0,e4,e5,e6,s5,htc.1,htc.2,f1.1,f1.2,t5,hta.1,hta.2,splice];obtain⟨nb,zb,hb1,hb2⟩:=hd.1;have tc:=k3 _ _ hb2
      have htb:Tok (σ.del c) σ3 a' 1 ((mk ++ [(j:Int)]).map int):=by
        have:=ht'.base htok2.here.2;simpa using this
      refine ih _ g1 ⟨_,_,a',mk ++ [(j:Int)],rfl,by simp[e0,e4,e5,e6,s5,htc.1,htc.2,f1.1,f1.2],by simp[e0,e4,e5,e6,s5,htc.1,htc.2,f1.1,f1.2],by simp[e0,e4,e5,e6,s5,htc.1,htc.2,f1.1,f1.2],by simp,⟨nb,zb,hb1,by rw[Store.set_ne _ _ (Ne.symm n5)];exact tc⟩,by rw[Store.set_ne _ _ (Ne.symm n54)];exact t4,Store.set_same _ _ _,htb.beside (by simp[Store.del,n5,h85]) (fun e=>by obtain⟨_,_,q⟩:=htb.tok_some e;rw[t5] at q;cases q),?_⟩
      rw[hrs];exact hmk.append (List.Sublist.refl _)
  . have:j=3:=by omega
    subst this;have htc:=htok.cells;refine Resume.run lay [] ?_;simp[e0,e4,e5,e6,q4,q5,htc.1,htc.2,splice];obtain⟨nb,zb,hb1,hb2⟩:=hbj;have hmk':mk.Sublist [0,1,2]:=hmk;refine .weak (a':=entA ⟨hr,pl,co,mk,he,sh⟩) (W_aggE rfl fun i x y x1 x2=>?_) (.less (σ':=σ.set c (.cells [ints nums,int nb,.lit (.int .u64 zb)])) (fun y x hy=>?_) (.done (h ⟨hr,pl,co,mk,he,sh⟩ _ ⟨hr0,pl0,co0,hmk',he0,sh0⟩ ⟨⟨nb,zb,by omega,Store.set_same _ _ _⟩,fun y hy=>Store.set_ne _ _ hy⟩)))
    . match i with
      | 0=>simp at x1 x2;subst x1;subst x2;exact .refl _
      | 1=>simp at x1 x2;subst x1;subst x2;exact .refl _
      | 2=>simp at x1 x2;subst x1;subst x2;exact .refl _
      | 3=>simp at x1 x2;subst x1;subst x2;exact htok.W
      | 4=>simp at x1 x2;subst x1;subst x2;exact .refl _
      | 5=>simp at x1 x2;subst x1;subst x2;exact .refl _
      | i+6=>simp at x1
    . by_cases y1:y=c
      . subst y1
        rw[Store.set_same] at hy;rw[Store.set_ne _ _ n4,hb2];exact hy
      . rw[Store.set_ne _ _ y1] at hy
        have y4:y≠c4:=fun e=>by subst e;rw[h4] at hy;cases hy
        rw[Store.set_ne _ _ y4];exact htok.1 y x (by simpa[Store.del,y1] using hy)
end
end Go.Proofs.YtibjfmfdjncniaaGreatDoor

/- Part 30 of the proof. -/
import Derived.Test.YtelgggdkahhhfaaGreatDoorC29
set_option linter.all false
namespace Go.Proofs.YtelgggdkahhhfaaGreatDoor
open Go.aZ Go.Conc
set_option maxHeartbeats 1000000
set_option maxRecDepth 4000
variable {m:Mo} {σ:aa} {KF:cV->aa->Prop}
section
variable {b mb:Nat} {f:Fr} {begun:List Int} {y:AV} {W:List (List Int)} {I:Nat->(Nat->Prop)->aa->Prop} {E:(Nat->Prop)->aa->Prop} {Un:aa->Prop} {Ld:aa->List (Int × AV)->Prop} {c4 cg cp:Nat}
def ko (f:Fr) (begun:List Int) (fuel:Nat) (bT:List Int) (many:Int) (hs:List Int) (k:Nat):List (List Int):=
 if bT.length<begun.length∧begun.getD bT.length 0≠(k:Int) then []
 else if jm f (bo (hs.getD k 0) bT.length)=true then fY f begun fuel (bT ++ [(k:Int)]) (max many ((k:Int)+1)) (hs.set k (bo (hs.getD k 0) bT.length)) else []
theorem kN (f:Fr) (begun:List Int) (fuel:Nat) (bT:List Int) (many:Int) (hs:List Int):fY f begun (fuel+1) bT many hs=(List.range (min (many+1) f.most).toNat).flatMap (ko f begun fuel bT many hs):=rfl
theorem xx (K:Nat->List (List Int)) {k cnt:Nat} (h:k<cnt):∃ rest,(List.range cnt).flatMap K=(List.range k).flatMap K ++ (K k ++ rest):=by
 obtain⟨n,rfl⟩:∃ n,cnt=k+1+n:=⟨cnt-(k+1),by omega⟩
 induction n with
 | zero=>exact⟨[],by rw[Nat.add_zero,List.range_succ,List.flatMap_append];simp⟩
 | succ n ih=>
   obtain⟨rest,hr⟩:=ih (by omega)
   refine⟨rest ++ K (k+1+n),?_⟩;rw[show k+1+(n+1)=(k+1+n)+1 by omega,List.range_succ,List.flatMap_append,hr]
   simp
theorem GO (LK:Ch Tryz.prog m nn b 6 mb .u8 (fE f) Un Ld) (hf:f.Good) (hbg:begun.length<1152921504606846976) (Y:Ik m y W I E) (hyc:y.cells=[y]):∀ fuel:Nat,Ez m b mb f begun y W I E Un c4 cg cp fuel:=by
 have h6:=hf.vt;have hmo:=hf.most;intro fuel
 induction fuel with
 | zero=>
   intro bT many hs sp F σ pre post KF hlen hmany hh hw hu hW hI hR;have hl:(bT.length:Int)=f.aB.length:=by omega
   refine ar.start lay [] [] 6 Tryz.func77 rfl rfl (by rfl) (by kernel_rfl) ?_
   simp[Tryz.f77,hl,hyc];have hk:pre.length<W.length:=by rw[hW];simp[fY]
   have hWk:W[pre.length]=bT:=by subst hW;simp[fY]
   refine cI.weaken (args':=[ints bT]) ?_ ⟨fq 1 _ sp,trivial⟩;rw[← hWk];refine Y.step pre.length F σ _ hk hI (fun F' σ' h1 h2=>?_) (fun F' σ' h1 h2=>?_)
   . refine ab.run lay [] ?_
     simp;exact .done (hR.1 F' σ' (xv h1) (rY LK hu h1 (fun c hc=>Y.Hv _ _ _ c hI hc)) h2)
   . refine ab.run lay [] ?_
     simp;exact .done (hR.2 F' σ' (xv h1) (rY LK hu h1 (fun c hc=>Y.Hv _ _ _ c hI hc)) h2)
 | succ fuel ihf=>
   intro bT many hs sp F σ pre post KF hlen hmany hh hw hu hW hI hR;have hl:((bT.length:Int) == f.aB.length)=false:=by rw[beq_eq_false_iff_ne];omega
   have hsp:=hw.pt;rw[kN] at hW hR;obtain⟨cnt,hcnt⟩:∃ cnt:Nat,cnt=(min (many+1) f.most).toNat:=⟨_,rfl⟩;rw[← hcnt] at hW hR;have hmin:(if f.most<many+1 then f.most else many+1)=(cnt:Int):=by rw[hcnt];split <;> omega
   have hc6:cnt≤6:=by omega
   have m1 : -9223372036854775808≤many+1∧many+1≤9223372036854775807:=by omega
   refine ar.start lay [] [] 6 Tryz.func77 rfl rfl (by rfl) (by kernel_rfl) ?_
   simp[Tryz.f77,hl,m1.1,m1.2,hmin];refine ab.loop cnt (fun k s => ∃ env σ' F',s=⟨env,σ',[],.no⟩∧env 0 = .sl 1 (bT.map int) sp∧env 1=int many∧env 2 = .cp (io b mb f 0) 0∧env 4 = .cp (ints begun) 0∧env 5 = .ref cp 0∧env 29=int cnt∧env 30=int k∧Mv b mb F F' σ σ'∧Un σ'∧I (pre.length+((List.range k).flatMap (ko f begun fuel bT many hs)).length) F' σ') ⟨_,_,F,rfl,by simp,by simp,by simp,by simp,by simp,by simp,by simp,Mv.refl b mb F σ,hu,hI⟩ ?_
   rintro c0 k _ hk ⟨env,σ',F',rfl,h0,h1,h2,h4,h5,h29,h30,hmv,hu',hI'⟩ ih
   rcases Nat.lt_or_ge k cnt with g1|g1
   . have hw':=hw.mv (LK.Ia hu) hmv
     have hsp':=hw'.pt;obtain⟨rest,hsplit⟩:=xx (ko f begun fuel bT many hs) g1
     have hnext:((List.range (k+1)).flatMap (ko f begun fuel bT many hs)).length=((List.range k).flatMap (ko f begun fuel bT many hs)).length+(ko f begun fuel bT many hs k).length:=by
      rw[List.range_succ,List.flatMap_append,List.length_append];simp
     by_cases g2:bT.length<begun.length∧begun.getD bT.length 0≠(k:Int)
     . have hK:ko f begun fuel bT many hs k=[]:=if_pos g2
       have e1:begun.getD bT.length 0=begun[bT.length]:=by simp[List.getD_eq_getElem?_getD,g2.1]
       have e2:(begun[bT.length] != (k:Int))=true:=by have:=g2.2;rw[e1] at this;simpa using this
       refine ab.run lay [] ?_;simp[h0,h1,h2,h4,h5,h29,h30,g1,g2.1,e2];refine⟨by omega,ih _ g1 ⟨_,_,F',rfl,by simp[h0,h1,h2,h4,h5,h29,h30],by simp[h0,h1,h2,h4,h5,h29,h30],by simp[h0,h1,h2,h4,h5,h29,h30],by simp[h0,h1,h2,h4,h5,h29,h30],by simp[h0,h1,h2,h4,h5,h29,h30],by simp[h0,h1,h2,h4,h5,h29,h30],by simp,hmv,hu',?_⟩⟩
       rw[hnext,hK];exact hI'
     . have hK:ko f begun fuel bT many hs k=if jm f (bo (hs.getD k 0) bT.length)=true then fY f begun fuel (bT ++ [(k:Int)]) (max many ((k:Int)+1)) (hs.set k (bo (hs.getD k 0) bT.length)) else []:=if_neg g2
       have hcall:∀ KF':cV->aa->Prop,(∀ (v:Bool) σ2 F2,Mv b mb F F2 σ σ2->Un σ2->(v=true->I (pre.length+((List.range (k+1)).flatMap (ko f begun fuel bT many hs)).length) F2 σ2)->(v=false->E F2 σ2)->KF' (.val (bool v)) σ2)->ar Tryz.prog m 73 [.sl 1 (bT.map int) sp,int many,int k,.ref c4 0,.cp (io b mb f 0) 0,.ref cg 0] σ' KF':=fun KF' hKF=>by
        refine Im LK hf hbg Y ihf (pre:=pre ++ (List.range k).flatMap (ko f begun fuel bT many hs)) (post:=rest ++ post) hlen hmany (by omega) hh hw' hu' hK (by rw[hW,hsplit];simp) (by rw[List.length_append];exact hI') ⟨fun F2 σ2 q1 q2 q3=>?_,fun F2 σ2 q1 q2 q3=>?_⟩
        . refine hKF true σ2 F2 (hmv.trans q1) q2 (fun _=>?_) (fun e=>by cases e)
          rw[hnext,← Nat.add_assoc,← List.length_append];exact q3
        . exact hKF false σ2 F2 (hmv.trans q1) q2 (fun e=>by cases e) (fun _=>q3)
       by_cases g3:bT.length<begun.length
       . have e1:begun.getD bT.length 0=begun[bT.length]:=by simp[List.getD_eq_getElem?_getD,g3]
         have e2:(begun[bT.length] != (k:Int))=false:=by
          have:begun[bT.length]=(k:Int):=by
           rw[← e1];exact Classical.byContradiction fun q=>g2 ⟨g3,q⟩
          simp[this]
         refine ab.run lay [] ?_;simp[h0,h1,h2,h4,h5,h29,h30,g1,g3,e2,hsp'];refine dW Tryz.func73 rfl rfl (by simp) (hcall _ fun v σ2 F2 q1 q2 q3 q4=>?_)
         cases v
         . refine ab.run lay [] ?_
           simp[h0,h1,h2,h4,h5,h29,h30];exact .done (hR.2 F2 σ2 q1 q2 (q4 rfl))
         . refine ab.run lay [] ?_
           simp[h0,h1,h2,h4,h5,h29,h30];exact⟨by omega,ih _ g1 ⟨_,_,F2,rfl,by simp[h0,h1,h2,h4,h5,h29,h30],by simp[h0,h1,h2,h4,h5,h29,h30],by simp[h0,h1,h2,h4,h5,h29,h30],by simp[h0,h1,h2,h4,h5,h29,h30],by simp[h0,h1,h2,h4,h5,h29,h30],by simp[h0,h1,h2,h4,h5,h29,h30],by simp,q1,q2,q3 rfl⟩⟩
       . refine ab.run lay [] ?_
         simp[h0,h1,h2,h4,h5,h29,h30,g1,g3,hsp'];refine dW Tryz.func73 rfl rfl (by simp) (hcall _ fun v σ2 F2 q1 q2 q3 q4=>?_)
         cases v
         . refine ab.run lay [] ?_
           simp[h0,h1,h2,h4,h5,h29,h30];exact .done (hR.2 F2 σ2 q1 q2 (q4 rfl))
         . refine ab.run lay [] ?_
           simp[h0,h1,h2,h4,h5,h29,h30];exact⟨by omega,ih _ g1 ⟨_,_,F2,rfl,by simp[h0,h1,h2,h4,h5,h29,h30],by simp[h0,h1,h2,h4,h5,h29,h30],by simp[h0,h1,h2,h4,h5,h29,h30],by simp[h0,h1,h2,h4,h5,h29,h30],by simp[h0,h1,h2,h4,h5,h29,h30],by simp[h0,h1,h2,h4,h5,h29,h30],by simp,q1,q2,q3 rfl⟩⟩
   . have:k=cnt:=by omega
     subst this;refine ab.run lay [] ?_;simp[h0,h1,h2,h4,h5,h29,h30];exact .done (hR.1 F' σ' hmv hu' hI')
end
end Go.Proofs.YtelgggdkahhhfaaGreatDoor
namespace Go.Proofs.YtelgggdkahhhfaaGreatDoor
open Go.aZ Go.Conc
set_option maxHeartbeats 1000000
set_option maxRecDepth 4000
variable {m:Mo} {σ:aa} {KF:cV->aa->Prop}
section
variable {b mb:Nat} {f:Fr} {begun:List Int} {y:AV} {I:Nat->(Nat->Prop)->aa->Prop} {E:(Nat->Prop)->aa->Prop} {Un:aa->Prop} {Ld:aa->List (Int × AV)->Prop}
theorem qt {sp:bK} (h:KF (.val (.fn (.func 72) [] [.cp (io b mb f 0) 0,.cp (.sl 1 (begun.map int) sp) 0])) σ):ar Tryz.prog m 45 [io b mb f 0,.sl 1 (begun.map int) sp] σ KF:=by
 refine ar.start lay [] [] 2 Tryz.func45 rfl rfl (by rfl) (by kernel_rfl) ?_
 simp[Tryz.f45];exact .done h
theorem OF (f:Fr):Hs f 0 [0,0,0,0,0,0]:=by
 refine⟨rfl,fun x hx e he=>?_,fun x hx=>?_⟩
 . have hb:bx 0=[]:=by decide +kernel
   simp at hx;subst hx;rw[hb] at he;cases he
 . simp at hx;subst hx;omega
theorem Mv.le {F F':Nat->Prop} {σ0 σ':aa} (h:Mv b mb F F' σ σ') (hle:σ0.Le σ):Mv b mb F F' σ0 σ':=fun c x h1 h2 h3 h4=>h c x (hle c x h1) h2 h3 h4
theorem oc (LK:Ch Tryz.prog m nn b 6 mb .u8 (fE f) Un Ld) (hf:f.Good) (hbg:begun.length<1152921504606846976) (Y:Ik m y (az f begun) I E) (hyc:y.cells=[y]∧y.flat=true) {F:Nat->Prop} (hu:Un σ) (hI:I 0 F σ)
 (h:∀ F' σ',Mv b mb F F' σ σ'->Un σ'->(I (az f begun).length F' σ'∨E F' σ')->KF (.val (.cB [])) σ'):ar Tryz.prog m 72 [y,.cp (io b mb f 0) 0,.cp (ints begun) 0] σ KF:=by
 refine ar.start lay [] [] 3 Tryz.func72 rfl rfl (by rfl) (by kernel_rfl) ?_
 simp[Tryz.f72,hyc.1,hyc.2];refine dL.intro fun c4 h4=>?_
 simp;refine dL.intro fun cg hg=>?_
 obtain⟨n1,n2,hg⟩:=aa.aR hg;simp;refine dL.intro fun cp hp=>?_
 obtain⟨n3,n4,hp⟩:=aa.aR hp;obtain⟨n5,n6,hp⟩:=aa.aR hp;simp[n1,n2,n3,n4,n5,n6,aa.ak,hyc.1,hyc.2];have hle:σ.Le ((((σ.set c4 (.cells [u8 0,u8 0,u8 0,u8 0,u8 0,u8 0])).set cg (.cells [.lit .nilFunc])).set cp (.cells [aL (io b mb f 0) c4 cg])).set cg (.cells [rZ (io b mb f 0) y begun cp])):=(by repeat (first|exact aa.le_refl _|assumption|refine aa.gE ?_ (by assumption) | refine aa.i8 ?_ (by assumption)))
 have s4:((((σ.set c4 (.cells [u8 0,u8 0,u8 0,u8 0,u8 0,u8 0])).set cg (.cells [.lit .nilFunc])).set cp (.cells [aL (io b mb f 0) c4 cg])).set cg (.cells [rZ (io b mb f 0) y begun cp])) c4=some (.cells (([0,0,0,0,0,0]:List Int).map u8)):=by simp[n1,n2,n3,n4,n5,n6,aa.ak]
 have sg:((((σ.set c4 (.cells [u8 0,u8 0,u8 0,u8 0,u8 0,u8 0])).set cg (.cells [.lit .nilFunc])).set cp (.cells [aL (io b mb f 0) c4 cg])).set cg (.cells [rZ (io b mb f 0) y begun cp])) cg=some (.cells [rZ (io b mb f 0) y begun cp]):=by simp
 have sp:((((σ.set c4 (.cells [u8 0,u8 0,u8 0,u8 0,u8 0,u8 0])).set cg (.cells [.lit .nilFunc])).set cp (.cells [aL (io b mb f 0) c4 cg])).set cg (.cells [rZ (io b mb f 0) y begun cp])) cp=some (.cells [aL (io b mb f 0) c4 cg]):=by simp[n1,n2,n3,n4,n5,n6,aa.ak]
 have hnF:∀ c,σ c=none -> ¬ F c:=fun c hc hF=>by
  obtain⟨x,hx,_⟩:=Y.Hv _ _ _ _ hI hF;rw[hc] at hx;cases hx
 refine cI.weaken (args':=[.sl 1 (([]:List Int).map int) .any,int 0]) ?_ ⟨iC 1,.refl _,trivial⟩
 refine dW Tryz.func77 rfl rfl rfl (GO (y:=y) LK hf hbg Y hyc.1 f.aB.length [] 0 [0,0,0,0,0,0] .any F _ [] [] _ (by simp) (by omega) (OF f) ⟨s4,sg,sp,⟨hnF _ h4,hnF _ hg,hnF _ hp⟩,⟨n2,n6⟩⟩ (LK.un (fun c _ ⟨x,h1,_⟩=>by rw[h1];exact hle _ _ h1) hu) (by simp[az]) (Y.frame _ _ _ _ (fun c hc=>by
  obtain⟨x,hx,_⟩:=Y.Hv _ _ _ _ hI hc;rw[hx];exact hle _ _ hx) hI) ⟨fun F' σ' q1 q2 q3=>?_,fun F' σ' q1 q2 q3=>?_⟩)
 . refine ab.run lay [] ?_
   simp;refine .done (h F' σ' (q1.le hle) q2 (.inl ?_));simpa[az] using q3
 . refine ab.run lay [] ?_
   simp;exact .done (h F' σ' (q1.le hle) q2 (.inr q3))
end
end Go.Proofs.YtelgggdkahhhfaaGreatDoor
namespace Go.Proofs.YtelgggdkahhhfaaGreatDoor
open Go.aZ Go.Conc
set_option maxHeartbeats 1000000
set_option maxRecDepth 4000
variable {m:Mo} {σ:aa} {KF:cV->aa->Prop}
section
variable {b mb:Nat} {f:Fr} {Un:aa->Prop} {Ld:aa->List (Int × AV)->Prop}
theorem vy (LK:Ch Tryz.prog m nn b 6 mb .u8 (fE f) Un Ld) (hf:f.Good) (hu:Un σ) (h:∀ σ',Un σ'->kj b mb σ σ'->KF (.val (bool (decide (az f []≠[])))) σ'):ar Tryz.prog m 41 [io b mb f 0] σ KF:=by
 refine ar.start lay [] [] 1 Tryz.func41 rfl rfl (by rfl) (by kernel_rfl) ?_
 simp[Tryz.f41];refine dL.intro fun c3 h3=>?_
 simp;have hW:Wl [io b mb f 0,AV.lit (.slice none 0 0)] [io b mb f 0,ints []]:=.cons (.refl _) (.cons (iC 1) .nil);refine bD Tryz.func45 rfl rfl hW (qt (begun:=[]) ?_);refine ab.run lay [] ?_;simp;refine ab.rangeFunc rfl fun hpl r l hr hl hrl=>?_
 obtain⟨r1,r2,hr⟩:=aa.aR hr;obtain⟨l1,l2,hl⟩:=aa.aR hl;generalize hal:lb.mk _ _ _ _ _ _ _ _ _=al
 have hY:Ik m (.fn (.yield l) [] []) (az f []) (fun k F σ'=>k=0∧(∀ c,F c ↔ c=l∨c=c3)∧σ' l=some (.loop al)∧σ' c3=some (.cells [bool false])) (fun F σ'=>az f []≠[]∧(∀ c,F c ↔ c=l∨c=c3)∧σ' l=some (.loop { al with state:=.done,pending:=some (.exit 0) })∧σ' c3=some (.cells [bool true])):=by
  refine⟨fun k F σ' KF' hk hI hT hF=>?_,fun k F σ1 σ2 he hI=>?_,fun F σ1 σ2 he hI=>?_,fun k F σ' c hI hc=>?_⟩
  . obtain⟨rfl,hFd,g1,g2⟩:=hI
    have e3:∀ x,(σ'.set l x) c3=some (.cells [bool false]):=fun x=>by rw[aa.ak _ _ l2];exact g2
    subst hal;refine cI.uL (hold:=[]) hpl Tryz.func41 g1 rfl ?_;refine ab.run lay [] ?_;simp[gu];refine ab.beginRound g1 rfl ?_;refine ab.run lay [] ?_;simp[gu,e3];have hne:az f []≠[]:=fun e=>by rw[e] at hk;cases hk
    refine⟨rfl,rfl,_,((aa.ak _ _ l1).trans (aa.ao _ _ _)),?_⟩;refine hF F _ (fun c x hc hx=>⟨?_,hc⟩) ⟨hne,hFd,aa.ao _ _ _,(aa.ak _ _ l2).trans (aa.ao _ _ _)⟩
    have c1:c≠l:=fun e=>hc ((hFd c).2 (.inl e))
    have c2:c≠c3:=fun e=>hc ((hFd c).2 (.inr e))
    exact (aa.ak _ _ c1).trans ((aa.ak _ _ c2).trans ((aa.ak _ _ c1).trans hx))
  . obtain⟨rfl,hFd,g1,g2⟩:=hI
    exact⟨rfl,hFd,by rw[he l ((hFd l).2 (.inl rfl))];exact g1,by rw[he c3 ((hFd c3).2 (.inr rfl))];exact g2⟩
  . obtain⟨q,hFd,g1,g2⟩:=hI
    exact⟨q,hFd,by rw[he l ((hFd l).2 (.inl rfl))];exact g1,by rw[he c3 ((hFd c3).2 (.inr rfl))];exact g2⟩
  . obtain⟨rfl,hFd,g1,g2⟩:=hI
    rcases (hFd c).1 hc with rfl|rfl
    . exact⟨_,g1,rfl⟩
    . exact⟨_,g2,rfl⟩
 obtain⟨xb,hxb,hpb⟩:=LK.Ia hu;have nb:∀ c,σ c=none->c≠b:=fun c hc e=>by subst e;rw[hc] at hxb;cases hxb
 have hle:σ.Le (((σ.set c3 (.cells [bool false])).set r (.raw (.deferred (some [])))).set l (.loop al)):=(by repeat (first|exact aa.le_refl _|assumption|refine aa.gE ?_ (by assumption) | refine aa.i8 ?_ (by assumption)))
 have sr:(((σ.set c3 (.cells [bool false])).set r (.raw (.deferred (some [])))).set l (.loop al)) r=some (.raw (.deferred (some []))):=by rw[aa.ak _ _ hrl,aa.ao]
 refine dW Tryz.func72 rfl rfl rfl (oc (F:=fun c=>c=l∨c=c3) LK hf (by simp) hY ⟨rfl,rfl⟩ (LK.un (fun c _ ⟨x,h1,_⟩=>(hle _ _ h1).trans h1.symm) hu) ⟨rfl,fun c=>Iff.rfl,aa.ao _ _ _,(aa.ak _ _ l2).trans ((aa.ak _ _ r2).trans (aa.ao _ _ _))⟩ fun F' σ' hmv hu' hend=>?_)
 have hr':=(hmv r _ sr (fun e=>by rcases e with e|e;exact hrl e;exact r1 e) (nb r hr) (.inr rfl)).1
 have hkeep:kj b mb σ σ':=fun c x h1 h2 h3'=>(hmv c x (hle c x h1) (fun e=>by rcases e with e|e <;> subst e <;> simp_all) h2 h3').1
 have hfinS:∀ σ2,σ2=(σ'.del l).set r (.raw (.deferred none))->Un σ2∧kj b mb σ σ2:=fun σ2 e=>by
  subst e;refine⟨LK.un (σ:=σ') (fun c _ ⟨x,h1,h2⟩=>?_) hu',fun c x h1 h2 h3'=>?_⟩
  . have c1:c≠r:=fun e=>by subst e;rw[hr'] at h1;cases h1;cases h2
    have c2:c≠l:=fun e=>by
     subst e
     rcases hend with ⟨_,_,g,_⟩|⟨_,_,g,_⟩ <;> rw[g] at h1 <;> cases h1 <;> cases h2
    rw[aa.ak _ _ c1];simp[aa.del,c2]
  . have c1:c≠r:=fun e=>by subst e;rw[hr] at h1;cases h1
    have c2:c≠l:=fun e=>by subst e;rw[hl] at h1;cases h1
    rw[aa.ak _ _ c1];simp only[aa.del,c2,if_false];exact hkeep c x h1 h2 h3'
 rcases hend with ⟨q0,_,q1,q2⟩|⟨q0,_,q1,q2⟩
 . have hv:decide (az f []≠[])=false:=by simp[List.length_eq_zero_iff.1 q0]
   rw[hv] at h;subst hal;refine⟨_,q1,by simp,rfl,?_⟩
   have q2':(σ'.del l) c3=some (.cells [bool false]):=by simp only[aa.del,l2,Ne.symm l2,if_false];simpa[l2,Ne.symm l2] using q2
   refine ab.run lay [] ?_;simp[q2'];refine⟨by simp only[aa.del,hrl,if_false];exact hr',.done ?_⟩
   obtain⟨e1,e2⟩:=hfinS _ rfl;exact h _ e1 e2
 . have hv:decide (az f []≠[])=true:=by simp[q0]
   rw[hv] at h;subst hal;refine⟨_,q1,by simp,rfl,?_⟩
   have q2':(σ'.del l) c3=some (.cells [bool true]):=by simp only[aa.del,l2,Ne.symm l2,if_false];simpa[l2,Ne.symm l2] using q2
   refine ab.run lay [] ?_;simp[q2'];refine⟨by simp only[aa.del,hrl,if_false];exact hr',.done ?_⟩
   obtain⟨e1,e2⟩:=hfinS _ rfl;exact h _ e1 e2
end
end Go.Proofs.YtelgggdkahhhfaaGreatDoor
namespace Go.Proofs.YtelgggdkahhhfaaGreatDoor
open Go Go.aZ
set_option maxRecDepth 100000
abbrev ng:Ce:=⟨62,64,66,85,86,97,84,92,100,87,116,117,118,119,101,96,147,149,154⟩
theorem EC:∀ (b:Nat) (kind:CallKind),aH (A0 Tryz.prog ng b kind).1=some (ng.fR,[])∧(A0 Tryz.prog ng b kind).1.env.all plain=true∧(A0 Tryz.prog ng b kind).2=[]∧(A0 Tryz.prog ng b kind).1.kind=kind:=by intro b kind;exact⟨by kernel_rfl,by kernel_rfl,by kernel_rfl,by kernel_rfl⟩
theorem ED:∀ (b:Nat) (kind:CallKind),aH (A1 Tryz.prog ng b kind).1=some (ng.F8,[])∧(A1 Tryz.prog ng b kind).1.env.all plain=true∧(A1 Tryz.prog ng b kind).2=[]∧(A1 Tryz.prog ng b kind).1.kind=kind:=by intro b kind;exact⟨by kernel_rfl,by kernel_rfl,by kernel_rfl,by kernel_rfl⟩
theorem EE:∀ (b:Nat) (kind:CallKind),aH (A2 Tryz.prog ng b kind).1=some (ng.nG,[pt b 0,u64 4294967296])∧qj (A2 Tryz.prog ng b kind)=true∧(A2 Tryz.prog ng b kind).1.env.all plain=true∧(A2 Tryz.prog ng b kind).2.all (·.env.all plain)=true:=by intro b kind;exact⟨by kernel_rfl,by kernel_rfl,by kernel_rfl,by kernel_rfl⟩
theorem EF:∀ (b:Nat) (kind:CallKind) (fl:Fl),ir (A3 Tryz.prog ng b kind (f1 fl true)).1=some (ng.tS,ng.tU,pt b 1):=by intro b kind fl;kernel_rfl
theorem EG:∀ (b:Nat) (kind:CallKind) (fl:Fl),aH (A4 Tryz.prog ng b kind (f1 fl true)).1=some (ng.rd,[pt b 1])∧(A4 Tryz.prog ng b kind (f1 fl true)).1.kind=kind:=by intro b kind fl;exact⟨by kernel_rfl,by kernel_rfl⟩
theorem EH:∀ (b:Nat) (kind:CallKind) (fl:Fl),mU (A5 Tryz.prog ng b kind (f0 (f1 fl true) false)).1=some ng.en∧(A5 Tryz.prog ng b kind (f0 (f1 fl true) false)).2=[]∧(A5 Tryz.prog ng b kind (f0 (f1 fl true) false)).1.kind=kind∧(A5 Tryz.prog ng b kind (f0 (f1 fl true) false)).1.fn=ng.add:=by intro b kind fl;exact⟨by kernel_rfl,by kernel_rfl,by kernel_rfl,by kernel_rfl⟩
theorem EI:∀ (b:Nat) (kind:CallKind) (fl:Fl),mU (A3 Tryz.prog ng b kind (f0 (f1 fl false) false)).1=some ng.en∧(A3 Tryz.prog ng b kind (f0 (f1 fl false) false)).2=[]∧(A3 Tryz.prog ng b kind (f0 (f1 fl false) false)).1.kind=kind∧(A3 Tryz.prog ng b kind (f0 (f1 fl false) false)).1.fn=ng.add:=by intro b kind fl;exact⟨by kernel_rfl,by kernel_rfl,by kernel_rfl,by kernel_rfl⟩
theorem EJ:∀ (b:Nat),ir (D0 Tryz.prog ng b).1=some (ng.tG,ng.tU,pt b 0)∧(D0 Tryz.prog ng b).1.env.all plain=true∧(D0 Tryz.prog ng b).2.all (·.env.all plain)=true:=by intro b;exact⟨by kernel_rfl,by kernel_rfl,by kernel_rfl⟩
theorem EK:∀ (b:Nat),aH (D1 Tryz.prog ng b).1=some (ng.rel,[pt b 0])∧qj (D1 Tryz.prog ng b)=true∧(D1 Tryz.prog ng b).1.env.all plain=true∧(D1 Tryz.prog ng b).2.all (·.env.all plain)=true:=by intro b;exact⟨by kernel_rfl,by kernel_rfl,by kernel_rfl,by kernel_rfl⟩
theorem EL:∀ (b:Nat),aH (D2 Tryz.prog ng b).1=some (ng.fR,[])∧qj (D2 Tryz.prog ng b)=true∧(D2 Tryz.prog ng b).1.env.all plain=true∧(D2 Tryz.prog ng b).2.all (·.env.all plain)=true:=by intro b;exact⟨by kernel_rfl,by kernel_rfl,by kernel_rfl,by kernel_rfl⟩
theorem EM:∀ (b:Nat),aH (D3 Tryz.prog ng b).1=some (ng.F8,[])∧qj (D3 Tryz.prog ng b)=true∧(D3 Tryz.prog ng b).1.env.all plain=true∧(D3 Tryz.prog ng b).2.all (·.env.all plain)=true:=by intro b;exact⟨by kernel_rfl,by kernel_rfl,by kernel_rfl,by kernel_rfl⟩
theorem EN:∀ (b:Nat),aH (D4 Tryz.prog ng b).1=some (ng.nG,[pt b 0,u64 18446744069414584320])∧qj (D4 Tryz.prog ng b)=true∧(D4 Tryz.prog ng b).1.env.all plain=true∧(D4 Tryz.prog ng b).2.all (·.env.all plain)=true:=by intro b;exact⟨by kernel_rfl,by kernel_rfl,by kernel_rfl,by kernel_rfl⟩
theorem EO:∀ (b:Nat) (fl:Fl) (x:Bool),mU (DE Tryz.prog ng b (f0 fl x) 0).1=some ng.en:=by intro b fl x;cases x <;> kernel_rfl
theorem BX:∀ (b:Nat) (fl:Fl) (x:Bool),hQ (jq Tryz.prog (f0 fl x) (DE Tryz.prog ng b (f0 fl x) 0)).1 ng.done=true∧(jq Tryz.prog (f0 fl x) (DE Tryz.prog ng b (f0 fl x) 0)).2=[]∧(jq Tryz.prog (f0 fl x) (DE Tryz.prog ng b (f0 fl x) 0)).1.kind = .deferred:=by intro b fl x;cases x <;> exact⟨by kernel_rfl,by kernel_rfl,by kernel_rfl⟩
theorem EP:∀ (b:Nat) (fl:Fl),mU (DE Tryz.prog ng b (f0 fl false) 1).1=some ng.en:=by intro b fl;kernel_rfl
theorem BY:∀ (b:Nat) (fl:Fl),hQ (jq Tryz.prog (f0 fl false) (DE Tryz.prog ng b (f0 fl false) 1)).1 ng.done=true∧(jq Tryz.prog (f0 fl false) (DE Tryz.prog ng b (f0 fl false) 1)).2=[]∧(jq Tryz.prog (f0 fl false) (DE Tryz.prog ng b (f0 fl false) 1)).1.kind = .deferred:=by intro b fl;exact⟨by kernel_rfl,by kernel_rfl,by kernel_rfl⟩
theorem EQ:∀ (b:Nat) (fl:Fl),aH (DE Tryz.prog ng b (f0 fl true) 1).1=some (ng.qd,[pt b 0])∧qj (DE Tryz.prog ng b (f0 fl true) 1)=true:=by intro b fl;exact⟨by kernel_rfl,by kernel_rfl⟩
theorem ER:∀ (b:Nat) (fl:Fl),aH (D6 Tryz.prog ng b (f0 fl true)).1=some (ng.Ax,[pt b 0,u64 0])∧qj (D6 Tryz.prog ng b (f0 fl true))=true:=by intro b fl;exact⟨by kernel_rfl,by kernel_rfl⟩
theorem ES:∀ (b:Nat) (fl:Fl),aH (D7 Tryz.prog ng b (f0 fl true)).1=some (ng.kC,[pt b 1,ff,i64 0])∧qj (D7 Tryz.prog ng b (f0 fl true))=true:=by intro b fl;exact⟨by kernel_rfl,by kernel_rfl⟩
theorem ET:∀ (b:Nat) (fl:Fl),mU (D8 Tryz.prog ng b (f0 fl true)).1=some ng.en:=by intro b fl;kernel_rfl
theorem EU:∀ (b:Nat) (fl:Fl),hQ (jq Tryz.prog (f0 fl true) (D8 Tryz.prog ng b (f0 fl true))).1 ng.done=true∧(jq Tryz.prog (f0 fl true) (D8 Tryz.prog ng b (f0 fl true))).2=[]∧(jq Tryz.prog (f0 fl true) (D8 Tryz.prog ng b (f0 fl true))).1.kind = .deferred:=by intro b fl;exact⟨by kernel_rfl,by kernel_rfl,by kernel_rfl⟩
theorem EV:∀ (b:Nat) (kind:CallKind),aH (W0 Tryz.prog ng b kind).1=some (ng.fR,[])∧(W0 Tryz.prog ng b kind).1.env.all plain=true∧(W0 Tryz.prog ng b kind).2=[]∧(W0 Tryz.prog ng b kind).1.kind=kind:=by intro b kind;exact⟨by kernel_rfl,by kernel_rfl,by kernel_rfl,by kernel_rfl⟩
theorem EW:∀ (b:Nat) (kind:CallKind),aH (W1 Tryz.prog ng b kind).1=some (ng.qd,[pt b 0])∧qj (W1 Tryz.prog ng b kind)=true∧(W1 Tryz.prog ng b kind).1.env.all plain=true∧(W1 Tryz.prog ng b kind).2.all (·.env.all plain)=true:=by intro b kind;exact⟨by kernel_rfl,by kernel_rfl,by kernel_rfl,by kernel_rfl⟩
theorem EX:∀ (b:Nat) (kind:CallKind) (fl:Fl),aH (WE Tryz.prog ng b kind (f0 fl true)).1=some (ng.en,[])∧(WE Tryz.prog ng b kind (f0 fl true)).1.kind=kind:=by intro b kind fl;exact⟨by kernel_rfl,by kernel_rfl⟩
theorem EY:∀ (b:Nat) (kind:CallKind) (fl:Fl),ir (WC Tryz.prog ng b kind (f0 fl true)).1=some (ng.tG,ng.tU,pt b 0):=by intro b kind fl;kernel_rfl
theorem EZ:∀ (b:Nat) (kind:CallKind) (fl:Fl),aH (WA Tryz.prog ng b kind (f0 fl true)).1=some (ng.acq,[pt b 0])∧(WA Tryz.prog ng b kind (f0 fl true)).1.kind=kind:=by intro b kind fl;exact⟨by kernel_rfl,by kernel_rfl⟩
theorem E0:∀ (b:Nat) (kind:CallKind) (fl:Fl),hQ (WB Tryz.prog ng b kind (f0 fl true)).1 ng.wait=true∧(WB Tryz.prog ng b kind (f0 fl true)).2=[]∧(WB Tryz.prog ng b kind (f0 fl true)).1.kind=kind:=by intro b kind fl;exact⟨by kernel_rfl,by kernel_rfl,by kernel_rfl⟩
theorem E1:∀ (b:Nat) (kind:CallKind) (fl:Fl),aH (WE Tryz.prog ng b kind (f0 fl false)).1=some (ng.rg,[pt b 0,.cE 0,.cE 1])∧qj (WE Tryz.prog ng b kind (f0 fl false))=true:=by intro b kind fl;exact⟨by kernel_rfl,by kernel_rfl⟩
theorem E2:∀ (b:Nat) (kind:CallKind) (fl:Fl),zE [5] [[0]] (next Tryz.prog (f0 fl false) (WE Tryz.prog ng b kind (f0 fl false)) ff)=W1 Tryz.prog ng b kind:=by intro b kind fl;kernel_rfl
theorem E3:∀ (b:Nat) (kind:CallKind) (fl:Fl),ir (W3 Tryz.prog ng b kind (f0 fl false)).1=some (ng.tS,ng.tU,pt b 1):=by intro b kind fl;kernel_rfl
theorem E4:∀ (b:Nat) (kind:CallKind) (fl:Fl),aH (I1 Tryz.prog ng b kind (f0 fl false)).1=some (ng.wr,[pt b 1])∧(I1 Tryz.prog ng b kind (f0 fl false)).1.kind=kind:=by intro b kind fl;exact⟨by kernel_rfl,by kernel_rfl⟩
theorem E5:∀ (b:Nat) (kind:CallKind) (fl:Fl),aH (W4 Tryz.prog ng b kind (f0 fl false)).1=some (ng.yd,[pt b 1,ff])∧(W4 Tryz.prog ng b kind (f0 fl false)).1.kind=kind:=by intro b kind fl;exact⟨by kernel_rfl,by kernel_rfl⟩
theorem E6:∀ (b:Nat) (kind:CallKind) (fl:Fl),aH (W5 Tryz.prog ng b kind (f0 fl false)).1=some (ng.qd,[pt b 0])∧qj (W5 Tryz.prog ng b kind (f0 fl false))=true:=by intro b kind fl;exact⟨by kernel_rfl,by kernel_rfl⟩
theorem E7:∀ (b:Nat) (kind:CallKind) (fl:Fl),aH (I2 Tryz.prog ng b kind (f0 fl false)).1=some (ng.en,[])∧(I2 Tryz.prog ng b kind (f0 fl false)).1.kind=kind:=by intro b kind fl;exact⟨by kernel_rfl,by kernel_rfl⟩
theorem E8:∀ (b:Nat) (kind:CallKind) (fl:Fl),ir (JY Tryz.prog ng b kind (f0 fl false)).1=some (ng.tG,ng.tU,pt b 0):=by intro b kind fl;kernel_rfl
theorem E9:∀ (b:Nat) (kind:CallKind) (fl:Fl),aH (I3 Tryz.prog ng b kind (f0 fl false)).1=some (ng.acq,[pt b 0])∧(I3 Tryz.prog ng b kind (f0 fl false)).1.kind=kind:=by intro b kind fl;exact⟨by kernel_rfl,by kernel_rfl⟩
theorem Fa:∀ (b:Nat) (kind:CallKind) (fl:Fl),hQ (Hk Tryz.prog ng b kind (f0 fl false)).1 ng.wait=true∧(Hk Tryz.prog ng b kind (f0 fl false)).2=[]∧(Hk Tryz.prog ng b kind (f0 fl false)).1.kind=kind:=by intro b kind fl;exact⟨by kernel_rfl,by kernel_rfl,by kernel_rfl⟩
theorem KH:gk Tryz.prog ng where
 a0:=EC
 a1:=ED
 a2:=EE
 a3:=EF
 a4:=EG
 a5:=EH
 a6:=EI
 d0:=EJ
 d1:=EK
 d2:=EL
 d3:=EM
 d4:=EN
 d5:=EO
 MQ:=BX
 d6:=EP
 MR:=BY
 d7:=EQ
 d8:=ER
 d9:=ES
 da:=ET
 db:=EU
 w0:=EV
 w1:=EW
 w2:=EX
 w3:=EY
 w4:=EZ
 w5:=E0
 w6:=E1
 w7:=E2
 w8:=E3
 w9:=E4
 wa:=E5
 wb:=E6
 wc:=E7
 wd:=E8
 we:=E9
 wf:=Fa
theorem KI:iD Tryz.prog ng where
 fR:=⟨_,rfl,rfl,rfl,rfl,rfl⟩
 en:=⟨_,rfl,rfl,rfl,rfl,rfl⟩
 acq:=⟨_,rfl,rfl,rfl,rfl,rfl⟩
 rel:=⟨_,rfl,rfl,rfl,rfl,rfl⟩
 rd:=⟨_,rfl,rfl,rfl,rfl,rfl⟩
 wr:=⟨_,rfl,rfl,rfl,rfl,rfl⟩
 F8:=⟨_,rfl,rfl,rfl,rfl,rfl⟩
 nG:=⟨_,rfl,rfl,rfl,rfl,rfl⟩
 qd:=⟨_,rfl,rfl,rfl,rfl,rfl⟩
 Ax:=⟨_,rfl,rfl,rfl,rfl,rfl⟩
 rg:=⟨_,rfl,rfl,rfl,rfl,rfl⟩
 yd:=⟨_,rfl,rfl,rfl,rfl,rfl⟩
 kC:=⟨_,rfl,rfl,rfl,rfl,rfl⟩
 MT:=⟨_,rfl,rfl,rfl⟩
 MU:=⟨_,rfl,rfl,rfl⟩
 HU:=⟨_,_,rfl,rfl,rfl,rfl⟩
 C6:=⟨_,_,rfl,rfl,rfl,rfl⟩
 C7:=⟨_,_,rfl,rfl,rfl,rfl⟩
end Go.Proofs.YtelgggdkahhhfaaGreatDoor
namespace Go.Proofs.YtelgggdkahhhfaaGreatDoor
open Go.aZ Go.Conc
set_option maxHeartbeats 1000000
set_option maxRecDepth 4000
variable {m:Mo} {σ:aa} {KF:cV->aa->Prop}
theorem BZ:mV Tryz.prog nn:=⟨⟨_,_,Tryz.func105,rfl,rfl,rfl⟩,⟨_,_,Tryz.func106,rfl,rfl,rfl⟩⟩
section
variable {b mb:Nat} {f:Fr} {A:cC} {j:Nat} {begun:List Int}
theorem yT {k0:ag} (hng:A.ng=ng) {body:Code} (hb:Tryz.f65.body=some body):ab Tryz.prog (rk Tryz.prog A) 65 4 none [] [.code body] ⟨cz [.ref A.gb 0,.cp (.chan A.cF) 0],ik A.fb,[],.told .deferred [bI Tryz.prog] k0⟩ (fun _ _=>False):=by
 simp only[Tryz.f65,Option.some.injEq] at hb;subst hb;refine ab.runN lay [] 2 ?_;simp;refine ab.DH rfl (by rw[hng];rfl) rfl (by simp) (by rw[hng];exact Tryz.func66) rfl rfl rfl ?_
 refine ab.run lay [] ?_;simp;exact ab.yz rfl rfl (by simp) rfl rfl rfl rfl rfl Tryz.func65 rfl rfl
theorem r5 {k0:ag} (hA:A.fb=b∧A.mb=mb∧A.fo=6∧A.nm=nn∧A.ng=ng) (hG:∀ x,A.GI x ↔ ∃ l,x=mapA .u8 l∧fE f l) (hf:f.Good) (hres:A.res j=int (az f begun).length) (hbg:begun.length<1152921504606846976) (hlen:(az f begun).length<1152921504606846976) {body:Code} (hb:Tryz.f63.body=some body) :
 ab Tryz.prog (iK Tryz.prog A j) 63 13 none [] [.code body] ⟨cz [.ref A.gb 0,.cp (io b mb f 0) 0,.cp (ints begun) 0,.cp (.chan A.cF) 0],ik A.fb,[],.told .deferred [bI Tryz.prog] k0⟩ (fun _ _=>False):=by
 obtain⟨rfl,rfl,hfo,hnm,hng⟩:=hA;simp only[Tryz.f63,Option.some.injEq] at hb;subst hb;have LK:=DI (P:=Tryz.prog) (A:=A) (j:=j) (kd:=.u8) hG;rw[hfo,hnm] at LK;refine ab.run lay [] ?_;simp;refine ab.defer rfl rfl rfl rfl (by simp) rfl ?_
 refine ab.run lay [] ?_;simp;refine dL.intro fun cn hcn=>?_
 simp;refine ap Tryz.func45 rfl rfl (qt (begun:=begun) (sp:=.any) ?_);refine ab.run lay [] ?_;simp;refine ab.rangeFunc rfl fun hpl r l hr hl hrl=>?_
 obtain⟨r1,r2,hr⟩:=aa.aR hr;obtain⟨l1,l2,hl⟩:=aa.aR hl;generalize hal:lb.mk _ _ _ _ _ _ _ _ _=al
 have hY:Ik (iK Tryz.prog A j) (.fn (.yield l) [] []) (az f begun) (fun k F σ'=>(∀ c,F c ↔ c=l∨c=cn)∧σ' l=some (.loop al)∧σ' cn=some (.cells [int k])) (fun F σ'=>False):=by
  refine⟨fun k F σ' KF' hk hI hT hF=>?_,fun k F σ1 σ2 he hI=>?_,fun F σ1 σ2 he hI=>hI.elim,fun k F σ' c hI hc=>?_⟩
  . obtain⟨hFd,g1,g2⟩:=hI
    have e3:∀ x,(σ'.set l x) cn=some (.cells [int k]):=fun x=>(aa.ak _ _ l2).trans g2
    have f1 : -9223372036854775808≤(k:Int)+1∧(k:Int)+1≤9223372036854775807:=by omega
    subst hal;refine cI.uL (hold:=[]) hpl Tryz.func63 g1 rfl ?_;refine ab.run lay [] ?_;simp[gu];refine ab.beginRound g1 rfl ?_;refine ab.run lay [] ?_;simp[gu,e3,f1.1,f1.2];refine⟨rfl,rfl,_,((aa.ak _ _ l1).trans (aa.ao _ _ _)),?_⟩;refine hT F _ (fun c x hc hx=>⟨?_,hc⟩) ⟨hFd,aa.ao _ _ _,(aa.ak _ _ l2).trans (aa.ao _ _ _)⟩
    have c1:c≠l:=fun e=>hc ((hFd c).2 (.inl e))
    have c2:c≠cn:=fun e=>hc ((hFd c).2 (.inr e))
    exact (aa.ak _ _ c1).trans ((aa.ak _ _ c2).trans ((aa.ak _ _ c1).trans hx))
  . obtain⟨hFd,g1,g2⟩:=hI
    exact⟨hFd,by rw[he l ((hFd l).2 (.inl rfl))];exact g1,by rw[he cn ((hFd cn).2 (.inr rfl))];exact g2⟩
  . obtain⟨hFd,g1,g2⟩:=hI
    rcases (hFd c).1 hc with rfl|rfl
    . exact⟨_,g1,rfl⟩
    . exact⟨_,g2,rfl⟩
 have hu:M5 A.fb (((ik A.fb).set cn (.cells [int 0])).set r (.raw (.deferred (some []))) |>.set l (.loop al)):=by
  have h0:(ik A.fb) A.fb=some .eE:=by simp[ik]
  have q1:A.fb≠cn:=fun e=>by rw[← e,h0] at hcn;cases hcn
  have q2:A.fb≠r:=fun e=>by rw[← e,h0] at hr;cases hr
  have q3:A.fb≠l:=fun e=>by rw[← e,h0] at hl;cases hl
  show _=_;rw[aa.ak _ _ q3,aa.ak _ _ q2,aa.ak _ _ q1];exact h0
 have nb:∀ c,(ik A.fb) c=none->c≠A.fb:=fun c hc e=>by subst e;simp[ik] at hc
 have sr:(((ik A.fb).set cn (.cells [int 0])).set r (.raw (.deferred (some []))) |>.set l (.loop al)) r=some (.raw (.deferred (some []))):=(aa.ak _ _ hrl).trans (aa.ao _ _ _)
 refine dW Tryz.func72 rfl rfl rfl (oc (F:=fun c=>c=l∨c=cn) LK hf hbg hY ⟨rfl,rfl⟩ hu ⟨fun c=>Iff.rfl,aa.ao _ _ _,(aa.ak _ _ l2).trans ((aa.ak _ _ r2).trans (aa.ao _ _ _))⟩ fun F' σ' hmv hu' hend=>?_)
 have hr':=(hmv r _ sr (fun e=>by rcases e with e|e;exact hrl e;exact r1 e) (nb r hr) (.inr rfl)).1
 rcases hend with ⟨_,q1,q2⟩|hE
 . subst hal
   refine⟨_,q1,by simp,rfl,?_⟩
   have q2':(σ'.del l) cn=some (.cells [int (az f begun).length]):=by simp only[aa.del,l2,Ne.symm l2,if_false];simpa[l2,Ne.symm l2] using q2
   have hul:(σ'.del l) A.fb=some .eE:=by
    have q3:A.fb≠l:=fun e=>by
     have h0:(ik A.fb) A.fb=some .eE:=by simp[ik]
     rw[← e,h0] at hl;cases hl
    simp only[aa.del,q3,if_false];exact hu'
   have hrr:(σ'.del l) r=some (.raw (.deferred (some []))):=by simp only[aa.del,hrl,if_false];exact hr'
   refine ab.run lay [] ?_;simp[q2'];refine ab.DG rfl rfl (by simp) rfl rfl (by rw[hres];simp) hul rfl rfl Tryz.func63 rfl (by rw[hng];exact Tryz.func64) rfl rfl ?_
   refine ab.run lay [] ?_;simp;refine⟨rfl,.inl rfl,⟨_,rfl⟩,r,by rw[hng],hrr⟩
 . exact hE.elim
end
end Go.Proofs.YtelgggdkahhhfaaGreatDoor
namespace Go.Proofs.YtelgggdkahhhfaaGreatDoor
open Go.aZ Go.Conc
set_option maxHeartbeats 1000000
set_option maxRecDepth 4000
variable {m:Mo} {σ:aa} {KF:cV->aa->Prop}
def fZ (j:Nat):List Int:=if j=0 then [0,0] else [0,1]
def qu (f:Fr):Int:=if f.aB.length<2 then 1 else (az f [0,0]).length+(az f [0,1]).length
theorem Fb {v v':AV} (h1:v.cells=[v]) (h2:v'.cells=[v']) (h:v.W v'):(AV.cp v 0).W (.cp v' 0):=fun k x hx=>by
 cases hx with
 | cp b base off N E v c g1 g2 g3 g4=>
   rw[h1] at g2 g3 g4;refine .cp b base 0 N E v' c g1 (by rw[h2];exact g2) (fun j hj=>g3 j (by rw[h2] at hj;exact hj)) (fun j a ha=>?_)
   rw[h2] at ha
   have hj:j=0:=by
    have:=(List.getElem?_eq_some_iff.1 ha).1;simp at this;exact this
   subst hj;simp at ha;subst ha;exact h k _ (g4 0 v rfl)
section
variable {b mb:Nat} {f:Fr}
theorem Fc (hs:m.solo=true) (hf:f.Good) (hlen:(az f [0,0]).length<1000000000∧(az f [0,1]).length<1000000000) (hne:b≠mb) (hu:Gy b 6 mb .u8 (fE f) σ) (h:∀ σ',Gy b 6 mb .u8 (fE f) σ'->kj b mb σ σ'->KF (.val (int (qu f))) σ'):ar Tryz.prog m 36 [io b mb f 0] σ KF:=by
 have h6:=hf.vt;unfold qu at h;refine ar.start lay [] [] 1 Tryz.func36 rfl rfl (by rfl) (by kernel_rfl) ?_
 simp[Tryz.f36]
 by_cases g1:f.aB.length<2
 . have g1':(f.aB.length:Int)<2:=by omega
   rw[if_pos g1] at h;simp[g1'];exact .done (h σ hu (kj.refl b mb σ))
 have g1' : ¬ (f.aB.length:Int)<2:=by omega
 rw[if_neg g1] at h;obtain⟨u1,lm,u2,u3⟩:=hu;simp[g1'];refine xd lay rfl z5 rfl tO rfl (by decide) fun cF hcF=>?_
 refine ab.run lay [] ?_;simp;refine dL.intro fun c3 hc3=>?_
 obtain⟨n1,n2,hc3⟩:=aa.aR hc3;simp;refine dL.intro fun gb hgb=>?_
 obtain⟨n3,n4,hgb⟩:=aa.aR hgb;obtain⟨n5,n6,hgb⟩:=aa.aR hgb;simp[n1,n2,n3,n4,n5,n6];have cb:cF≠b:=fun e=>by rw[e,u1] at hcF;cases hcF
 have cm:cF≠mb:=fun e=>by rw[e,u2] at hcF;cases hcF
 have b3:c3≠b:=fun e=>by rw[e,u1] at hc3;cases hc3
 have m3:c3≠mb:=fun e=>by rw[e,u2] at hc3;cases hc3
 have gb':gb≠b:=fun e=>by rw[e,u1] at hgb;cases hgb
 have gm:gb≠mb:=fun e=>by rw[e,u2] at hgb;cases hgb
 refine ab.eP 3 (b:=c3) (.chan cF) (by simp[n3,n4,n5,n6,n1,n2,aa.ak]) (by simp) rfl ?_
 refine ab.bn hs ⟨2,cF,b,6,gb,mb,fun x => ∃ l,x=mapA .u8 l∧fE f l,fun j=>int (az f (fZ j)).length,nn,ng,by omega,cb,n6,cm,Ne.symm gb',hne,gm⟩ KH KI tW tX BZ (tm:=false) (a:=mapA .u8 lm) (by simp[aa.del,aa.ak,n1,n2,n3,n4,n5,n6]) (by simp[aa.del,aa.ak,n1,n2,n3,n4,n5,n6]) (by simp[aa.del,aa.set,b3,Ne.symm b3,gb',Ne.symm gb',cb,Ne.symm cb,u1]) (by simp[aa.del,aa.set,m3,Ne.symm m3,gm,Ne.symm gm,cm,Ne.symm cm,u2]) (by simp[mapA]) ⟨lm,rfl,u3⟩ rfl fun pb hpb Fin kd cs0 k0 hfin=>?_
 refine ab.DJ ?_;refine ab.runN lay [] 18 ?_;simp;refine dL.intro fun d1 hd1=>?_
 have d1b:d1≠b:=fun e=>by subst e;simp at hd1
 simp
 change ab _ _ _ _ _ _ _ _ _
 refine ab.eP 6 (b:=d1) (.sl 1 [int 0,int 0] .exact) (aa.ao _ _ _) (by simp) rfl ?_
 refine ab.Cg 6 (a':=.cp (ints [0,0]) 0) (by simp;exact Fb rfl rfl (fq 1 [int 0,int 0] .exact)) ?_
 refine ab.Gx rfl rfl rfl (by simp) Tryz.func62 rfl rfl rfl ?_
 refine ab.run lay [] ?_;simp;refine ab.sz (hold':=[]) rfl rfl rfl (by simp) rfl Tryz.func63 rfl rfl (by show (4:Nat)≤13;decide) (by simp[iF.at,aa.del,aa.set,d1b,Ne.symm d1b,d1b,Ne.symm d1b]) (by kernel_rfl) (fun k1=>r5 (b:=b) (mb:=mb) (f:=f) (begun:=[0,0]) ⟨rfl,rfl,rfl,rfl,rfl⟩ (fun x=>Iff.rfl) hf rfl (by simp) (by omega) rfl) ?_
 refine ab.run lay [] ?_;simp;refine ab.again (by kernel_rfl) ?_
 refine ab.runN lay [] 18 ?_;simp;refine dL.intro fun d2 hd2=>?_
 have d2b:d2≠b:=fun e=>by subst e;simp[aa.del,aa.set,d1b,Ne.symm d1b] at hd2
 simp
 change ab _ _ _ _ _ _ _ _ _
 refine ab.eP 6 (b:=d2) (.sl 1 [int 0,int 1] .exact) (aa.ao _ _ _) (by simp) rfl ?_
 refine ab.Cg 6 (a':=.cp (ints [0,1]) 0) (by simp;exact Fb rfl rfl (fq 1 [int 0,int 1] .exact)) ?_
 refine ab.Gx rfl rfl rfl (by simp) Tryz.func62 rfl rfl rfl ?_
 refine ab.run lay [] ?_;simp;refine ab.sz (hold':=[]) rfl rfl rfl (by simp) rfl Tryz.func63 rfl rfl (by show (4:Nat)≤13;decide) (by simp[iF.at,aa.del,aa.set,d2b,Ne.symm d2b,d1b,Ne.symm d1b]) (by kernel_rfl) (fun k1=>r5 (b:=b) (mb:=mb) (f:=f) (begun:=[0,1]) ⟨rfl,rfl,rfl,rfl,rfl⟩ (fun x=>Iff.rfl) hf rfl (by simp) (by omega) rfl) ?_
 refine ab.run lay [] ?_;simp;refine ab.again (by kernel_rfl) ?_
 refine ab.run lay [] ?_;simp;refine ab.LQ (hold':=[]) rfl rfl rfl (by simp) rfl Tryz.func65 rfl rfl (by show (2:Nat)≤4;decide) (by simp[iF.at,aa.del,aa.set,d2b,Ne.symm d2b,d1b,Ne.symm d1b]) (by kernel_rfl) (fun k1=>yT rfl rfl) ?_
 refine ab.run lay [] ?_;simp;refine ab.DJ ?_;refine ab.run lay [] ?_;simp;refine ab.zX lay rfl rfl z5 rfl tO (by simp) rfl rfl fun j1 hj1=>?_
 have hbn:∀ j,(az f (fZ j)).length<1000000000:=fun j=>by
  unfold fZ;split
  . exact hlen.1
  . exact hlen.2
 have f1 : -9223372036854775808≤((az f (fZ j1)).length:Int)∧((az f (fZ j1)).length:Int)≤9223372036854775807:=by have:=hbn j1;omega
 refine ab.run lay [] ?_;simp[iF.at,f1.1,f1.2];refine ab.again (by kernel_rfl) ?_
 refine ab.run lay [] ?_;simp;refine ab.zX lay rfl rfl z5 rfl tO (by simp) rfl rfl fun j2 hj2=>?_
 have f2 : -9223372036854775808≤((az f (fZ j1)).length:Int)+((az f (fZ j2)).length:Int)∧((az f (fZ j1)).length:Int)+((az f (fZ j2)).length:Int)≤9223372036854775807:=by have:=hbn j1;have:=hbn j2;omega
 refine ab.run lay [] ?_;simp[iF.at,f2.1,f2.2];refine ab.again (by kernel_rfl) ?_
 refine ab.run lay [] ?_;simp;refine ab.vm lay rfl rfl z5 rfl tO (by simp) rfl rfl (by simp[aa.del,aa.set,d2b,Ne.symm d2b,d1b,Ne.symm d1b]) rfl hfin fun a ha=>?_
 refine ab.run lay [] ?_;simp
 have hsum:((az f (fZ j1)).length:Int)+((az f (fZ j2)).length:Int)=((az f [0,0]).length:Int)+((az f [0,1]).length:Int):=by
  have h1:j1∈List.range 2:=hj1;have h2:j2∈(List.range 2).erase j1:=hj2;have:j1=0∨j1=1:=by have:=List.mem_range.1 h1;omega
  rcases this with rfl|rfl
  . have:j2=1:=by simpa[List.range,List.range.loop] using h2
    subst this;rfl
  . have:j2=0:=by simpa[List.range,List.range.loop] using h2
    subst this;exact Int.add_comm _ _
 rw[hsum];obtain⟨la,rfl,hla⟩:=ha;refine .done (h _ ⟨aa.ao _ _ _,la,(aa.ak _ _ (Ne.symm hne)).trans (aa.ao _ _ _),hla⟩ fun c x h1 h2 h3=>?_)
 have e1:c≠mb:=fun e=>by
  subst e;rw[u2] at h1;cases h1
  rcases h3 with h3|h3
  . exact h3 rfl
  . cases h3
 have e2:c≠cF:=fun e=>by subst e;rw[hcF] at h1;cases h1
 have e3:c≠c3:=fun e=>by subst e;rw[hc3] at h1;cases h1
 have e4:c≠gb:=fun e=>by subst e;rw[hgb] at h1;cases h1
 have e5:c≠d1:=fun e=>by
  subst e;simp[aa.del,aa.set,e1,e2,e3,e4,h2,h1] at hd1
 have e6:c≠d2:=fun e=>by
  subst e;simp[aa.del,aa.set,e1,e2,e3,e4,e5,h2,h1] at hd2
 simp[aa.del,aa.set,e1,e2,e3,e4,e5,e6,h2,h1]
end
end Go.Proofs.YtelgggdkahhhfaaGreatDoor
namespace Go.Proofs.YtelgggdkahhhfaaGreatDoor
open Go.aZ Go.Conc
set_option maxHeartbeats 1000000
set_option maxRecDepth 4000
variable {m:Mo} {σ:aa} {KF:cV->aa->Prop}
section
variable {b mb:Nat} {f:Fr} {Un:aa->Prop} {Ld:aa->List (Int × AV)->Prop}
theorem yU (LK:Ch Tryz.prog m nn b 6 mb .u8 (fE f) Un Ld) (hf:f.Good) {so:AV} {p:List Int->Bool} (hsc:so.cells=[so]∧so.flat=true) (hso:∀ w∈az f [],∀ (σ:aa) (KF:cV->aa->Prop),KF (.val (bool (p w))) σ->cI Tryz.prog m so [ints w] σ KF) (hlen:(az f []).length<1152921504606846976) (hu:Un σ)
 (h:∀ σ',Un σ'->kj b mb σ σ'->KF (.val (.cB [int (((az f []).filter p).length),int (az f []).length])) σ'):ar Tryz.prog m 56 [io b mb f 0,so] σ KF:=by
 refine ar.start lay [] Ks 2 Tryz.func56 rfl rfl (by rfl) (by kernel_rfl) ?_
 simp[Tryz.f56,hsc.1,hsc.2];refine dL.intro fun c6 h6=>?_
 simp;refine dL.intro fun c7 h7=>?_
 obtain⟨z1,z2,h7⟩:=aa.aR h7;simp[z1,z2,aa.ak];have hW:Wl [io b mb f 0,AV.lit (.slice none 0 0)] [io b mb f 0,ints []]:=.cons (.refl _) (.cons (iC 1) .nil);refine bD Tryz.func45 rfl rfl hW (qt (begun:=[]) ?_);refine ab.run lay [] ?_;simp;refine ab.rangeFunc rfl fun hpl r l hr hl hrl=>?_
 obtain⟨a1,_,hr⟩:=aa.aR hr;obtain⟨a2,_,hr⟩:=aa.aR hr;obtain⟨_,_,hr⟩:=aa.aR hr;obtain⟨_,_,hr⟩:=aa.aR hr;obtain⟨a3,_,hl⟩:=aa.aR hl;obtain⟨a4,_,hl⟩:=aa.aR hl;obtain⟨_,_,hl⟩:=aa.aR hl;obtain⟨_,_,hl⟩:=aa.aR hl;have hr0:σ r=none∧r≠c6∧r≠c7:=⟨hr,a2,a1⟩;have hl0:σ l=none∧l≠c6∧l≠c7:=⟨hl,a4,a3⟩;generalize hal:lb.mk _ _ _ _ _ _ _ _ _=al
 have hY : Ik m (.fn (.yield l) [] []) (az f []) (fun k F σ'=>(∀ c,F c ↔ c=l∨c=c6∨c=c7)∧σ' l=some (.loop al)∧σ' c6=some (.cells [int ((((az f []).take k).filter p).length)])∧σ' c7=some (.cells [int k])) (fun F σ'=>False):=by
  refine⟨fun k F σ' KF' hk hI hT hF=>?_,fun k F σ1 σ2 he hI=>?_,fun F σ1 σ2 he hI=>hI.elim,fun k F σ' c hI hc=>?_⟩
  . obtain⟨hFd,g1,g2,g3⟩:=hI
    have e7:∀ x,(σ'.set l x) c7=some (.cells [int k]):=fun x=>(aa.ak _ _ (Ne.symm hl0.2.2)).trans g3
    have f1 : -9223372036854775808≤(k:Int)+1∧(k:Int)+1≤9223372036854775807:=by omega
    have hfl:(((az f []).take k).filter p).length≤k:=Nat.le_trans (List.length_filter_le _ _) (by rw[List.length_take];omega)
    have f2 : -9223372036854775808≤((((az f []).take k).filter p).length:Int)+1∧((((az f []).take k).filter p).length:Int)+1≤9223372036854775807:=by omega
    have hsucc:(((az f []).take (k+1)).filter p).length=(((az f []).take k).filter p).length+if p (az f [])[k] then 1 else 0:=by
     rw[List.take_succ_eq_append_getElem hk,List.filter_append,List.length_append];congr 1
     by_cases hp:p (az f [])[k] <;> simp[List.filter_cons,hp]
    have hmem:(az f [])[k]∈az f []:=List.getElem_mem hk;subst hal;refine cI.uL (hold:=Ks) hpl Tryz.func56 g1 rfl ?_;refine ab.run lay [] ?_;simp[gu];refine ab.beginRound g1 rfl ?_;refine ab.run lay [] ?_;simp[gu,e7,f1.1,f1.2,hsc.1];refine hso _ hmem _ _ ?_;have e6:∀ x y,((σ'.set l x).set c7 y) c6=some (.cells [int ((((az f []).take k).filter p).length)]):=fun x y=>(aa.ak _ _ (Ne.symm z1)).trans ((aa.ak _ _ (Ne.symm hl0.2.1)).trans g2)
    cases hp:p (az f [])[k]
    . refine ab.run lay [] ?_
      simp;refine⟨rfl,rfl,_,((aa.ak _ _ hl0.2.2).trans (aa.ao _ _ _)),?_⟩;refine hT F _ (fun c x hc hx=>⟨?_,hc⟩) ⟨hFd,aa.ao _ _ _,?_,(aa.ak _ _ (Ne.symm hl0.2.2)).trans (aa.ao _ _ _)⟩
      . have q1:c≠l:=fun e=>hc ((hFd c).2 (.inl e))
        have q3:c≠c7:=fun e=>hc ((hFd c).2 (.inr (.inr e)))
        exact (aa.ak _ _ q1).trans ((aa.ak _ _ q3).trans ((aa.ak _ _ q1).trans hx))
      . refine (aa.ak _ _ (Ne.symm hl0.2.1)).trans ((e6 _ _).trans ?_)
        rw[hsucc,hp];rfl
    . refine ab.run lay [] ?_
      simp[e6,f2.1,f2.2];refine⟨rfl,rfl,_,((aa.ak _ _ hl0.2.1).trans ((aa.ak _ _ hl0.2.2).trans (aa.ao _ _ _))),?_⟩;refine hT F _ (fun c x hc hx=>⟨?_,hc⟩) ⟨hFd,aa.ao _ _ _,?_,(aa.ak _ _ (Ne.symm hl0.2.2)).trans ((aa.ak _ _ z1).trans (aa.ao _ _ _))⟩
      . have q1:c≠l:=fun e=>hc ((hFd c).2 (.inl e))
        have q2:c≠c6:=fun e=>hc ((hFd c).2 (.inr (.inl e)))
        have q3:c≠c7:=fun e=>hc ((hFd c).2 (.inr (.inr e)))
        exact (aa.ak _ _ q1).trans ((aa.ak _ _ q2).trans ((aa.ak _ _ q3).trans ((aa.ak _ _ q1).trans hx)))
      . refine (aa.ak _ _ (Ne.symm hl0.2.1)).trans ((aa.ao _ _ _).trans ?_)
        rw[hsucc,hp];simp
  . obtain⟨hFd,g1,g2,g3⟩:=hI
    exact⟨hFd,by rw[he l ((hFd l).2 (.inl rfl))];exact g1,by rw[he c6 ((hFd c6).2 (.inr (.inl rfl)))];exact g2,by rw[he c7 ((hFd c7).2 (.inr (.inr rfl)))];exact g3⟩
  . obtain⟨hFd,g1,g2,g3⟩:=hI
    rcases (hFd c).1 hc with rfl|rfl|rfl
    . exact⟨_,g1,rfl⟩
    . exact⟨_,g2,rfl⟩
    . exact⟨_,g3,rfl⟩
 obtain⟨xb,hxb,hpb⟩:=LK.Ia hu;have nb:∀ c,σ c=none->c≠b:=fun c hc e=>by subst e;rw[hc] at hxb;cases hxb
 have hle:σ.Le ((((((σ.set c6 (.cells [int 0])).set c7 (.cells [int 0])).set c6 (.cells [int 0])).set c7 (.cells [int 0])).set r (.raw (.deferred (some [])))).set l (.loop al)):=(by repeat (first|exact aa.le_refl _|assumption|refine aa.gE ?_ (by assumption) | refine aa.i8 ?_ (by assumption)))
 have sr:((((((σ.set c6 (.cells [int 0])).set c7 (.cells [int 0])).set c6 (.cells [int 0])).set c7 (.cells [int 0])).set r (.raw (.deferred (some [])))).set l (.loop al)) r=some (.raw (.deferred (some []))):=(aa.ak _ _ hrl).trans (aa.ao _ _ _);have s7:((((((σ.set c6 (.cells [int 0])).set c7 (.cells [int 0])).set c6 (.cells [int 0])).set c7 (.cells [int 0])).set r (.raw (.deferred (some [])))).set l (.loop al)) c7=some (.cells [int 0]):=(aa.ak _ _ (Ne.symm hl0.2.2)).trans ((aa.ak _ _ (Ne.symm hr0.2.2)).trans (aa.ao _ _ _))
 have s6:((((((σ.set c6 (.cells [int 0])).set c7 (.cells [int 0])).set c6 (.cells [int 0])).set c7 (.cells [int 0])).set r (.raw (.deferred (some [])))).set l (.loop al)) c6=some (.cells [int 0]):=(aa.ak _ _ (Ne.symm hl0.2.1)).trans ((aa.ak _ _ (Ne.symm hr0.2.1)).trans ((aa.ak _ _ (Ne.symm z1)).trans (aa.ao _ _ _)))
 refine dW Tryz.func72 rfl rfl rfl (oc (F:=fun c=>c=l∨c=c6∨c=c7) LK hf (by simp) hY ⟨rfl,rfl⟩ (LK.un (fun c _ ⟨x,h1,_⟩=>(hle _ _ h1).trans h1.symm) hu) ⟨fun c=>Iff.rfl,aa.ao _ _ _,by simpa using s6,by simpa using s7⟩ fun F' σ' hmv hu' hend=>?_)
 have hr':=(hmv r _ sr (fun e=>by rcases e with e|e|e;exact hrl e;exact hr0.2.1 e;exact hr0.2.2 e) (nb r hr) (.inr rfl)).1
 have hkeep:kj b mb σ σ':=fun c x h1 h2 h3'=>(hmv c x (hle c x h1) (fun e=>by rcases e with e|e|e <;> subst e <;> simp_all) h2 h3').1
 have hfinS:∀ σ2,σ2=(σ'.del l).set r (.raw (.deferred none))->Un σ2∧kj b mb σ σ2:=fun σ2 e=>by
  subst e;refine⟨LK.un (σ:=σ') (fun c _ ⟨x,h1,h2⟩=>?_) hu',fun c x h1 h2 h3'=>?_⟩
  . have c1:c≠r:=fun e=>by subst e;rw[hr'] at h1;cases h1;cases h2
    have c2:c≠l:=fun e=>by
     subst e
     rcases hend with ⟨_,g,_⟩|g
     . rw[g] at h1;cases h1;cases h2
     . exact g.elim
    rw[aa.ak _ _ c1];simp[aa.del,c2]
  . have c1:c≠r:=fun e=>by subst e;rw[hr] at h1;cases h1
    have c2:c≠l:=fun e=>by subst e;rw[hl] at h1;cases h1
    rw[aa.ak _ _ c1];simp only[aa.del,c2,if_false];exact hkeep c x h1 h2 h3'
 rcases hend with ⟨_,q1,q2,q3⟩|q
 . rw[List.take_length] at q2
   subst hal;refine⟨_,q1,by simp,rfl,?_⟩
   have q2':(σ'.del l) c6=some (.cells [int ((az f []).filter p).length]):=by simp only[aa.del,Ne.symm hl0.2.1,if_false];exact q2
   have q3':(σ'.del l) c7=some (.cells [int (az f []).length]):=by simp only[aa.del,Ne.symm hl0.2.2,if_false];exact q3
   refine ab.run lay [] ?_;simp[q2',q3'];refine ab.run lay [] ?_;simp;refine⟨by simp only[aa.del,hrl,if_false];exact hr',.done ?_⟩
   obtain⟨e1,e2⟩:=hfinS _ rfl;exact h _ e1 e2
 . exact q.elim
end
end Go.Proofs.YtelgggdkahhhfaaGreatDoor
namespace Go.Proofs.YtelgggdkahhhfaaGreatDoor
open Go.aZ Go.Conc
set_option maxHeartbeats 1000000
set_option maxRecDepth 4000
variable {m:Mo} {σ:aa} {KF:cV->aa->Prop}
theorem l8 (f:Fr) (begun:List Int):∀ (fuel:Nat) (bT:List Int) (many:Int) (hs:List Int),∀ w∈fY f begun fuel bT many hs,w.length=bT.length+fuel
 | 0,bT,many,hs,w,hw=>by simp[fY] at hw;subst hw;rfl
 | fuel+1,bT,many,hs,w,hw=>by
   rw[kN,List.mem_flatMap] at hw;obtain⟨k,_,hk⟩:=hw;unfold ko at hk;split at hk
   . cases hk
   split at hk
   . have:=l8 f begun fuel _ _ _ w hk
     rw[this];simp;omega
   . cases hk
section
variable {b mb:Nat} {f:Fr} {Un:aa->Prop} {Ld:aa->List (Int × AV)->Prop}
def tY (x y:Int) (w:List Int):Bool:=decide (w.getD x.toNat 0=w.getD y.toNat 0)
theorem Fd {w:List Int} {x y:Int} (hx:0≤x∧x.toNat<w.length) (hy:0≤y∧y.toNat<w.length) (h:KF (.val (bool (tY x y w))) σ):ar Tryz.prog m 83 [ints w,.cp (int x) 0,.cp (int y) 0] σ KF:=by
 have e1:w.getD x.toNat 0=w[x.toNat]:=by simp[List.getD_eq_getElem?_getD,hx.2]
 have e2:w.getD y.toNat 0=w[y.toNat]:=by simp[List.getD_eq_getElem?_getD,hy.2]
 unfold tY at h;rw[e1,e2] at h;refine ar.start lay [] L2 3 Tryz.func83 rfl rfl (by rfl) (by kernel_rfl) ?_
 simp[Tryz.f83,hx.1,hx.2,hy.1,hy.2];refine ab.run lay [] ?_;simp;refine .done ?_
 by_cases q:w[x.toNat]=w[y.toNat]
 . simpa[q] using h
 . have:(w[x.toNat] == w[y.toNat])=false:=by simp[q]
   simpa[q,this] using h
theorem GP (LK:Ch Tryz.prog m nn b 6 mb .u8 (fE f) Un Ld) (hf:f.Good) {x y:Int} (hx:0≤x∧x.toNat<f.aB.length) (hy:0≤y∧y.toNat<f.aB.length) (hlen:(az f []).length<1152921504606846976) (hu:Un σ)
 (h:∀ σ',Un σ'->kj b mb σ σ'->KF (.val (int (km (((az f []).filter (tY x y)).length:Int) (az f []).length))) σ'):ar Tryz.prog m 54 [io b mb f 0,int x,int y] σ KF:=by
 have hw:∀ w∈az f [],w.length=f.aB.length:=fun w hw=>by have:=l8 f [] _ _ _ _ w hw;simpa using this
 refine ar.start lay [] [] 3 Tryz.func54 rfl rfl (by rfl) (by kernel_rfl) ?_
 simp[Tryz.f54];refine ap Tryz.func56 rfl rfl (yU LK hf (p:=tY x y) ⟨rfl,rfl⟩ (fun w hwm σ KF hK=>dW Tryz.func83 rfl rfl rfl (Fd ⟨hx.1,by rw[hw w hwm];exact hx.2⟩ ⟨hy.1,by rw[hw w hwm];exact hy.2⟩ hK)) hlen hu fun σ' q1 q2=>?_)
 refine ab.run lay [] ?_;simp;refine ap Tryz.func55 rfl rfl (yF ?_);refine ab.run lay [] ?_;simp;exact .done (h σ' q1 q2)
end
theorem tZ (hs:m.solo=true) {f:Fr} {l:List Int} {sp:bK} (hf:f.Fits) (hc:check f=0) (hl:∀ n∈l,0≤n∧n<f.aB.length) (hll:l.length<1152921504606846976) (hway:az f []≠[]) (h:∀ b mb σ',b≠mb->Gy b 6 mb .u8 (fE f) σ'->σ b=none∧σ mb=none->σ.Le σ'->KF (.val (.cB [io b mb f 0,int 0])) σ'):ar Tryz.prog m 44 [bg f,.sl 1 (l.map int) sp] σ KF:=by
 have hg:=Fr.sM hf hc;have ho:=rV hc hl;refine ar.start lay [] [] 2 Tryz.func44 rfl rfl (by rfl) (by kernel_rfl) ?_
 simp[Tryz.f44];have hW:Wl [AV.agg (eS f),.sl 1 (l.map int) sp] [bg f,ints l]:=.cons (.refl _) (.cons (fq 1 _ sp) .nil);refine bD Tryz.func35 rfl rfl hW (qp hf hll (fun q=>absurd ho q) fun _ b mb σ' hn=>?_)
 have hu:Gy b 6 mb .u8 (fE f) σ':=by
  rw[hn.eq];exact⟨aa.ao _ _ _,[],(aa.ak _ _ (Ne.symm hn.ne)).trans (aa.ao _ _ _),fun n a h=>by simp[fu] at h⟩
 refine ab.run lay [] ?_;simp;refine ap Tryz.func41 rfl rfl (vy (lF tW tX BZ hs hn.ne) hg hu fun σ2 q1 q2=>?_)
 refine ab.run lay [] ?_;simp[hway];refine .done (h b mb σ2 hn.ne q1 ⟨hn.hb,hn.vL⟩ fun c x hx=>?_)
 have c1:c≠b:=fun e=>by subst e;rw[hn.hb] at hx;cases hx
 have c2:c≠mb:=fun e=>by subst e;rw[hn.vL] at hx;cases hx
 exact q2 c x (hn.le c x hx) c1 (.inl c2)
theorem GQ (hs:m.solo=true) {f:Fr} {x y:Int} (hf:f.Fits) (hc:check f=0) (hx:0≤x∧x<f.aB.length) (hy:0≤y∧y<f.aB.length) (hway:az f []≠[]) (hlen:(az f []).length<1152921504606846976) (h:KF (.val (.cB [int (km (((az f []).filter (tY x y)).length:Int) (az f []).length),int 0])) σ):ar Tryz.prog m 23 [bg f,int x,int y] σ KF:=by
 have hg:=Fr.sM hf hc;refine ar.start lay [] [] 3 Tryz.func23 rfl rfl (by rfl) (by kernel_rfl) ?_
 simp[Tryz.f23];refine ap Tryz.func44 rfl rfl (tZ (l:=[x,y]) (sp:=.exact) hs hf hc (fun n hn=>by simp at hn;rcases hn with rfl|rfl <;> omega) (by simp) hway fun b mb σ' hne hu hfr hle=>?_)
 refine ab.run lay [] ?_;simp;refine ap Tryz.func54 rfl rfl (GP (lF tW tX BZ hs hne) hg ⟨hx.1,by omega⟩ ⟨hy.1,by omega⟩ hlen hu fun σ2 q1 q2=>?_)
 refine ab.run lay [] ?_;simp;refine .less (fun c x hx=>?_) (.done h)
 have c1:c≠b:=fun e=>by subst e;rw[hfr.1] at hx;cases hx
 have c2:c≠mb:=fun e=>by subst e;rw[hfr.2] at hx;cases hx
 exact q2 c x (hle c x hx) c1 (.inl c2)
theorem Fe (hs:m.solo=true) {f:Fr} (hf:f.Fits) (hc:check f=0) (hlen:(az f [0,0]).length<1000000000∧(az f [0,1]).length<1000000000) (h:KF (.val (.cB [int (qu f),int 0])) σ):ar Tryz.prog m 14 [bg f] σ KF:=by
 have hg:=Fr.sM hf hc;have ho:=pT hc;refine ar.start lay [] [] 1 Tryz.func14 rfl rfl (by rfl) (by kernel_rfl) ?_
 simp[Tryz.f14];have hW:Wl [AV.agg (eS f),AV.lit (.slice none 0 0)] [bg f,ints []]:=.cons (.refl _) (.cons (iC 1) .nil);refine bD Tryz.func35 rfl rfl hW (qp hf (by simp) (fun q=>absurd ho q) fun _ b mb σ' hn=>?_)
 have hu:Gy b 6 mb .u8 (fE f) σ':=by
  rw[hn.eq];exact⟨aa.ao _ _ _,[],(aa.ak _ _ (Ne.symm hn.ne)).trans (aa.ao _ _ _),fun n a h=>by simp[fu] at h⟩
 refine ab.run lay [] ?_;simp;refine ap Tryz.func36 rfl rfl (Fc hs hg hlen hn.ne hu fun σ2 q1 q2=>?_)
 refine ab.run lay [] ?_;simp;refine .less (fun c x hx=>?_) (.done h)
 have c1:c≠b:=fun e=>by subst e;rw[hn.hb] at hx;cases hx
 have c2:c≠mb:=fun e=>by subst e;rw[hn.vL] at hx;cases hx
 exact q2 c x (hn.le c x hx) c1 (.inl c2)
theorem Ff {f:Fr} {l:List Int} (hf:f.Fits) (hc:check f=0) (hl:GF f l) (h20:l.length<20) (h:KF (.val (.cB [bool (decide (iA f l=0)),int 0])) σ):ar Tryz.prog m 22 [bg f,ints l] σ KF:=by
 refine ar.start lay [] [] 2 Tryz.func22 rfl rfl (by rfl) (by kernel_rfl) ?_
 simp[Tryz.f22];refine ap Tryz.func52 rfl rfl (tV hf hc hl fun b mb σ' hn=>?_)
 refine ab.run lay [] ?_;simp;refine ap Tryz.func53 rfl rfl (DX (Fr.sM hf hc) ⟨hl.mem,hl.ne,hl.len⟩ h20 ?_);refine ab.run lay [] ?_;simp;refine lp lay rfl Kl rfl (isNil:=decide (iA f l=0)) ?_ (.inl ⟨rfl,rfl⟩) ?_
 . by_cases hw:iA f l=0
   . left
     refine⟨?_,by simp[hw]⟩
     simp[hw];rfl
   . right
     obtain⟨d,a,e⟩:=xu hw;refine⟨⟨d,a,?_⟩,by simp[hw]⟩
     rw[← e];simp
 refine ab.run lay [] ?_;simp;exact .less hn.le (.done h)
end Go.Proofs.YtelgggdkahhhfaaGreatDoor

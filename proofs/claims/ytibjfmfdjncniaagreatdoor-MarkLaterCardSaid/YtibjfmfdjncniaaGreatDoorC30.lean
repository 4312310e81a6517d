/- Part 30 of the proof. -/
import Derived.Test.YtibjfmfdjncniaaGreatDoorC29
set_option linter.all false
namespace Go.Proofs.YtibjfmfdjncniaaGreatDoor
open Go.Pal Go.Conc
set_option maxHeartbeats 1000000
set_option maxRecDepth 4000
variable {m:Mo} {σ:Store} {KF:Res->Store->Prop}
section
variable {b mb:Nat} {f:Fr} {begun:List Int} {y:AV} {W:List (List Int)} {I:Nat->(Nat->Prop)->Store->Prop} {E:(Nat->Prop)->Store->Prop} {Un:Store->Prop} {Ld:Store->List (Int × AV)->Prop} {c4 cg cp:Nat}
def growK (f:Fr) (begun:List Int) (fuel:Nat) (way:List Int) (many:Int) (hs:List Int) (k:Nat):List (List Int):=
  if way.length<begun.length∧begun.getD way.length 0≠(k:Int) then []
  else if canOf f (setBit (hs.getD k 0) way.length)=true then growL f begun fuel (way ++ [(k:Int)]) (max many ((k:Int)+1)) (hs.set k (setBit (hs.getD k 0) way.length)) else []
theorem growL_succ (f:Fr) (begun:List Int) (fuel:Nat) (way:List Int) (many:Int) (hs:List Int):growL f begun (fuel+1) way many hs=(List.range (min (many+1) f.most).toNat).flatMap (growK f begun fuel way many hs):=rfl
theorem range_split (K:Nat->List (List Int)) {k cnt:Nat} (h:k<cnt):∃ rest,(List.range cnt).flatMap K=(List.range k).flatMap K ++ (K k ++ rest):=by
  obtain⟨n,rfl⟩:∃ n,cnt=k+1+n:=⟨cnt-(k+1),by omega⟩
  induction n with
  | zero=>exact⟨[],by rw[Nat.add_zero,List.range_succ,List.flatMap_append];simp⟩
  | succ n ih=>
    obtain⟨rest,hr⟩:=ih (by omega)
    refine⟨rest ++ K (k+1+n),?_⟩;rw[show k+1+(n+1)=(k+1+n)+1 by omega,List.range_succ,List.flatMap_append,hr]
    simp
theorem grow_ok (LK:LkM Tryz.prog m nn b 6 mb .u8 (Known f) Un Ld) (hf:f.Good) (hbg:begun.length<1152921504606846976) (Y:Yld m y W I E) (hyc:y.cells=[y]):∀ fuel:Nat,GrowOK m b mb f begun y W I E Un c4 cg cp fuel:=by
  have h6:=hf.six;have hmo:=hf.most;intro fuel
  induction fuel with
  | zero=>
    intro way many hs sp F σ pre post KF hlen hmany hh hw hu hW hI hR;have hl:(way.length:Int)=f.ents.length:=by omega
    refine FnOK.start lay [] [] 6 Tryz.func59 rfl rfl (by rfl) (by kernel_rfl) ?_
    simp[Tryz.f59,hl,hyc];have hk:pre.length<W.length:=by rw[hW];simp[growL]
    have hWk:W[pre.length]=way:=by subst hW;simp[growL]
    refine CallV.weaken (args':=[ints way]) ?_ ⟨W_any 1 _ sp,trivial⟩;rw[← hWk];refine Y.step pre.length F σ _ hk hI (fun F' σ' h1 h2=>?_) (fun F' σ' h1 h2=>?_)
    . refine Resume.run lay [] ?_
      simp;exact .done (hR.1 F' σ' (keeps_mv h1) (lk_unKeeps LK hu h1 (fun c hc=>Y.dom _ _ _ c hI hc)) h2)
    . refine Resume.run lay [] ?_
      simp;exact .done (hR.2 F' σ' (keeps_mv h1) (lk_unKeeps LK hu h1 (fun c hc=>Y.dom _ _ _ c hI hc)) h2)
  | succ fuel ihf=>
    intro way many hs sp F σ pre post KF hlen hmany hh hw hu hW hI hR;have hl:((way.length:Int) == f.ents.length)=false:=by rw[beq_eq_false_iff_ne];omega
    have hsp:=hw.pt;rw[growL_succ] at hW hR;obtain⟨cnt,hcnt⟩:∃ cnt:Nat,cnt=(min (many+1) f.most).toNat:=⟨_,rfl⟩;rw[← hcnt] at hW hR;have hmin:(if f.most<many+1 then f.most else many+1)=(cnt:Int):=by rw[hcnt];split <;> omega
    have hc6:cnt≤6:=by omega
    have m1 : -9223372036854775808≤many+1∧many+1≤9223372036854775807:=by omega
    refine FnOK.start lay [] [] 6 Tryz.func59 rfl rfl (by rfl) (by kernel_rfl) ?_
    simp[Tryz.f59,hl,m1.1,m1.2,hmin];refine Resume.loop cnt (fun k s => ∃ env σ' F',s=⟨env,σ',[],.no⟩∧env 0 = .sl 1 (way.map int) sp∧env 1=int many∧env 2 = .cp (fpA b mb f 0) 0∧env 4 = .cp (ints begun) 0∧env 5 = .ref cp 0∧env 29=int cnt∧env 30=int k∧Mv b mb F F' σ σ'∧Un σ'∧I (pre.length+((List.range k).flatMap (growK f begun fuel way many hs)).length) F' σ') ⟨_,_,F,rfl,by simp,by simp,by simp,by simp,by simp,by simp,by simp,Mv.refl b mb F σ,hu,hI⟩ ?_
    rintro c0 k _ hk ⟨env,σ',F',rfl,h0,h1,h2,h4,h5,h29,h30,hmv,hu',hI'⟩ ih
    rcases Nat.lt_or_ge k cnt with g1|g1
    . have hw':=hw.mv (LK.unb hu) hmv
      have hsp':=hw'.pt;obtain⟨rest,hsplit⟩:=range_split (growK f begun fuel way many hs) g1
      have hnext:((List.range (k+1)).flatMap (growK f begun fuel way many hs)).length=((List.range k).flatMap (growK f begun fuel way many hs)).length+(growK f begun fuel way many hs k).length:=by
        rw[List.range_succ,List.flatMap_append,List.length_append];simp
      by_cases g2:way.length<begun.length∧begun.getD way.length 0≠(k:Int)
      . have hK:growK f begun fuel way many hs k=[]:=if_pos g2
        have e1:begun.getD way.length 0=begun[way.length]:=by simp[List.getD_eq_getElem?_getD,g2.1]
        have e2:(begun[way.length] != (k:Int))=true:=by have:=g2.2;rw[e1] at this;simpa using this
        refine Resume.run lay [] ?_;simp[h0,h1,h2,h4,h5,h29,h30,g1,g2.1,e2];refine⟨by omega,ih _ g1 ⟨_,_,F',rfl,by simp[h0,h1,h2,h4,h5,h29,h30],by simp[h0,h1,h2,h4,h5,h29,h30],by simp[h0,h1,h2,h4,h5,h29,h30],by simp[h0,h1,h2,h4,h5,h29,h30],by simp[h0,h1,h2,h4,h5,h29,h30],by simp[h0,h1,h2,h4,h5,h29,h30],by simp,hmv,hu',?_⟩⟩
        rw[hnext,hK];exact hI'
      . have hK:growK f begun fuel way many hs k=if canOf f (setBit (hs.getD k 0) way.length)=true then growL f begun fuel (way ++ [(k:Int)]) (max many ((k:Int)+1)) (hs.set k (setBit (hs.getD k 0) way.length)) else []:=if_neg g2
        have hcall:∀ KF':Res->Store->Prop,(∀ (v:Bool) σ2 F2,Mv b mb F F2 σ σ2->Un σ2->(v=true->I (pre.length+((List.range (k+1)).flatMap (growK f begun fuel way many hs)).length) F2 σ2)->(v=false->E F2 σ2)->KF' (.val (bool v)) σ2)->FnOK Tryz.prog m 55 [.sl 1 (way.map int) sp,int many,int k,.ref c4 0,.cp (fpA b mb f 0) 0,.ref cg 0] σ' KF':=fun KF' hKF=>by
          refine put_ok LK hf hbg Y ihf (pre:=pre ++ (List.range k).flatMap (growK f begun fuel way many hs)) (post:=rest ++ post) hlen hmany (by omega) hh hw' hu' hK (by rw[hW,hsplit];simp) (by rw[List.length_append];exact hI') ⟨fun F2 σ2 q1 q2 q3=>?_,fun F2 σ2 q1 q2 q3=>?_⟩
          . refine hKF true σ2 F2 (hmv.trans q1) q2 (fun _=>?_) (fun e=>by cases e)
            rw[hnext,← Nat.add_assoc,← List.length_append];exact q3
          . exact hKF false σ2 F2 (hmv.trans q1) q2 (fun e=>by cases e) (fun _=>q3)
        by_cases g3:way.length<begun.length
        . have e1:begun.getD way.length 0=begun[way.length]:=by simp[List.getD_eq_getElem?_getD,g3]
          have e2:(begun[way.length] != (k:Int))=false:=by
            have:begun[way.length]=(k:Int):=by
              rw[← e1];exact Classical.byContradiction fun q=>g2 ⟨g3,q⟩
            simp[this]
          refine Resume.run lay [] ?_;simp[h0,h1,h2,h4,h5,h29,h30,g1,g3,e2,hsp'];refine callFnC Tryz.func55 rfl rfl (by simp) (hcall _ fun v σ2 F2 q1 q2 q3 q4=>?_)
          cases v
          . refine Resume.run lay [] ?_
            simp[h0,h1,h2,h4,h5,h29,h30];exact .done (hR.2 F2 σ2 q1 q2 (q4 rfl))
          . refine Resume.run lay [] ?_
            simp[h0,h1,h2,h4,h5,h29,h30];exact⟨by omega,ih _ g1 ⟨_,_,F2,rfl,by simp[h0,h1,h2,h4,h5,h29,h30],by simp[h0,h1,h2,h4,h5,h29,h30],by simp[h0,h1,h2,h4,h5,h29,h30],by simp[h0,h1,h2,h4,h5,h29,h30],by simp[h0,h1,h2,h4,h5,h29,h30],by simp[h0,h1,h2,h4,h5,h29,h30],by simp,q1,q2,q3 rfl⟩⟩
        . refine Resume.run lay [] ?_
          simp[h0,h1,h2,h4,h5,h29,h30,g1,g3,hsp'];refine callFnC Tryz.func55 rfl rfl (by simp) (hcall _ fun v σ2 F2 q1 q2 q3 q4=>?_)
          cases v
          . refine Resume.run lay [] ?_
            simp[h0,h1,h2,h4,h5,h29,h30];exact .done (hR.2 F2 σ2 q1 q2 (q4 rfl))
          . refine Resume.run lay [] ?_
            simp[h0,h1,h2,h4,h5,h29,h30];exact⟨by omega,ih _ g1 ⟨_,_,F2,rfl,by simp[h0,h1,h2,h4,h5,h29,h30],by simp[h0,h1,h2,h4,h5,h29,h30],by simp[h0,h1,h2,h4,h5,h29,h30],by simp[h0,h1,h2,h4,h5,h29,h30],by simp[h0,h1,h2,h4,h5,h29,h30],by simp[h0,h1,h2,h4,h5,h29,h30],by simp,q1,q2,q3 rfl⟩⟩
    . have:k=cnt:=by omega
      subst this;refine Resume.run lay [] ?_;simp[h0,h1,h2,h4,h5,h29,h30];exact .done (hR.1 F' σ' hmv hu' hI')
end
end Go.Proofs.YtibjfmfdjncniaaGreatDoor
namespace Go.Proofs.YtibjfmfdjncniaaGreatDoor
open Go.Pal Go.Conc
set_option maxHeartbeats 1000000
set_option maxRecDepth 4000
variable {m:Mo} {σ:Store} {KF:Res->Store->Prop}
section
variable {b mb:Nat} {f:Fr} {begun:List Int} {y:AV} {I:Nat->(Nat->Prop)->Store->Prop} {E:(Nat->Prop)->Store->Prop} {Un:Store->Prop} {Ld:Store->List (Int × AV)->Prop}
theorem ways_ok {sp:Spare} (h:KF (.val (.fn (.func 54) [] [.cp (fpA b mb f 0) 0,.cp (.sl 1 (begun.map int) sp) 0])) σ):FnOK Tryz.prog m 36 [fpA b mb f 0,.sl 1 (begun.map int) sp] σ KF:=by
  refine FnOK.start lay [] [] 2 Tryz.func36 rfl rfl (by rfl) (by kernel_rfl) ?_
  simp[Tryz.f36];exact .done h
theorem hs0 (f:Fr):Hs f 0 [0,0,0,0,0,0]:=by
  refine⟨rfl,fun x hx e he=>?_,fun x hx=>?_⟩
  . have hb:bitsOf 0=[]:=by decide +kernel
    simp at hx;subst hx;rw[hb] at he;cases he
  . simp at hx;subst hx;omega
theorem Mv.le {F F':Nat->Prop} {σ0 σ':Store} (h:Mv b mb F F' σ σ') (hle:σ0.Le σ):Mv b mb F F' σ0 σ':=fun c x h1 h2 h3 h4=>h c x (hle c x h1) h2 h3 h4
theorem ways1_ok (LK:LkM Tryz.prog m nn b 6 mb .u8 (Known f) Un Ld) (hf:f.Good) (hbg:begun.length<1152921504606846976) (Y:Yld m y (waysOf f begun) I E) (hyc:y.cells=[y]∧y.flat=true) {F:Nat->Prop} (hu:Un σ) (hI:I 0 F σ)
    (h:∀ F' σ',Mv b mb F F' σ σ'->Un σ'->(I (waysOf f begun).length F' σ'∨E F' σ')->KF (.val (.tup [])) σ'):FnOK Tryz.prog m 54 [y,.cp (fpA b mb f 0) 0,.cp (ints begun) 0] σ KF:=by
  refine FnOK.start lay [] [] 3 Tryz.func54 rfl rfl (by rfl) (by kernel_rfl) ?_
  simp[Tryz.f54,hyc.1,hyc.2];refine newW.intro fun c4 h4=>?_
  simp;refine newW.intro fun cg hg=>?_
  obtain⟨n1,n2,hg⟩:=Store.set_none hg;simp;refine newW.intro fun cp hp=>?_
  obtain⟨n3,n4,hp⟩:=Store.set_none hp;obtain⟨n5,n6,hp⟩:=Store.set_none hp;simp[n1,n2,n3,n4,n5,n6,Store.set_ne,hyc.1,hyc.2];have hle:σ.Le ((((σ.set c4 (.cells [u8 0,u8 0,u8 0,u8 0,u8 0,u8 0])).set cg (.cells [.lit .nilFunc])).set cp (.cells [putA (fpA b mb f 0) c4 cg])).set cg (.cells [growA (fpA b mb f 0) y begun cp])):=(by repeat (first|exact Store.le_refl _|assumption|refine Store.le_upd ?_ (by assumption) | refine Store.le_del ?_ (by assumption)))
  have s4:((((σ.set c4 (.cells [u8 0,u8 0,u8 0,u8 0,u8 0,u8 0])).set cg (.cells [.lit .nilFunc])).set cp (.cells [putA (fpA b mb f 0) c4 cg])).set cg (.cells [growA (fpA b mb f 0) y begun cp])) c4=some (.cells (([0,0,0,0,0,0]:List Int).map u8)):=by simp[n1,n2,n3,n4,n5,n6,Store.set_ne]
  have sg:((((σ.set c4 (.cells [u8 0,u8 0,u8 0,u8 0,u8 0,u8 0])).set cg (.cells [.lit .nilFunc])).set cp (.cells [putA (fpA b mb f 0) c4 cg])).set cg (.cells [growA (fpA b mb f 0) y begun cp])) cg=some (.cells [growA (fpA b mb f 0) y begun cp]):=by simp
  have sp:((((σ.set c4 (.cells [u8 0,u8 0,u8 0,u8 0,u8 0,u8 0])).set cg (.cells [.lit .nilFunc])).set cp (.cells [putA (fpA b mb f 0) c4 cg])).set cg (.cells [growA (fpA b mb f 0) y begun cp])) cp=some (.cells [putA (fpA b mb f 0) c4 cg]):=by simp[n1,n2,n3,n4,n5,n6,Store.set_ne]
  have hnF:∀ c,σ c=none -> ¬ F c:=fun c hc hF=>by
    obtain⟨x,hx,_⟩:=Y.dom _ _ _ _ hI hF;rw[hc] at hx;cases hx
  refine CallV.weaken (args':=[.sl 1 (([]:List Int).map int) .any,int 0]) ?_ ⟨W_nil 1,.refl _,trivial⟩
  refine callFnC Tryz.func59 rfl rfl rfl (grow_ok (y:=y) LK hf hbg Y hyc.1 f.ents.length [] 0 [0,0,0,0,0,0] .any F _ [] [] _ (by simp) (by omega) (hs0 f) ⟨s4,sg,sp,⟨hnF _ h4,hnF _ hg,hnF _ hp⟩,⟨n2,n6⟩⟩ (LK.un (fun c _ ⟨x,h1,_⟩=>by rw[h1];exact hle _ _ h1) hu) (by simp[waysOf]) (Y.frame _ _ _ _ (fun c hc=>by
    obtain⟨x,hx,_⟩:=Y.dom _ _ _ _ hI hc;rw[hx];exact hle _ _ hx) hI) ⟨fun F' σ' q1 q2 q3=>?_,fun F' σ' q1 q2 q3=>?_⟩)
  . refine Resume.run lay [] ?_
    simp;refine .done (h F' σ' (q1.le hle) q2 (.inl ?_));simpa[waysOf] using q3
  . refine Resume.run lay [] ?_
    simp;exact .done (h F' σ' (q1.le hle) q2 (.inr q3))
end
end Go.Proofs.YtibjfmfdjncniaaGreatDoor
namespace Go.Proofs.YtibjfmfdjncniaaGreatDoor
open Go.Pal Go.Conc
set_option maxHeartbeats 1000000
set_option maxRecDepth 4000
variable {m:Mo} {σ:Store} {KF:Res->Store->Prop}
section
variable {b mb:Nat} {f:Fr} {Un:Store->Prop} {Ld:Store->List (Int × AV)->Prop}
theorem some_ok (LK:LkM Tryz.prog m nn b 6 mb .u8 (Known f) Un Ld) (hf:f.Good) (hu:Un σ) (h:∀ σ',Un σ'->LKeep b mb σ σ'->KF (.val (bool (decide (waysOf f []≠[])))) σ'):FnOK Tryz.prog m 23 [fpA b mb f 0] σ KF:=by
  refine FnOK.start lay [] [] 1 Tryz.func23 rfl rfl (by rfl) (by kernel_rfl) ?_
  simp[Tryz.f23];refine newW.intro fun c3 h3=>?_
  simp;have hW:Wl [fpA b mb f 0,AV.lit (.slice none 0 0)] [fpA b mb f 0,ints []]:=.cons (.refl _) (.cons (W_nil 1) .nil);refine callFnW Tryz.func36 rfl rfl hW (ways_ok (begun:=[]) ?_);refine Resume.run lay [] ?_;simp;refine Resume.rangeFunc rfl fun hpl r l hr hl hrl=>?_
  obtain⟨r1,r2,hr⟩:=Store.set_none hr;obtain⟨l1,l2,hl⟩:=Store.set_none hl;generalize hal:ALoop.mk _ _ _ _ _ _ _ _ _=al
  have hY:Yld m (.fn (.yield l) [] []) (waysOf f []) (fun k F σ'=>k=0∧(∀ c,F c ↔ c=l∨c=c3)∧σ' l=some (.loop al)∧σ' c3=some (.cells [bool false])) (fun F σ'=>waysOf f []≠[]∧(∀ c,F c ↔ c=l∨c=c3)∧σ' l=some (.loop { al with state:=.done,pending:=some (.exit 0) })∧σ' c3=some (.cells [bool true])):=by
    refine⟨fun k F σ' KF' hk hI hT hF=>?_,fun k F σ1 σ2 he hI=>?_,fun F σ1 σ2 he hI=>?_,fun k F σ' c hI hc=>?_⟩
    . obtain⟨rfl,hFd,g1,g2⟩:=hI
      have e3:∀ x,(σ'.set l x) c3=some (.cells [bool false]):=fun x=>by rw[Store.set_ne _ _ l2];exact g2
      subst hal;refine CallV.yieldW (hold:=[]) hpl Tryz.func23 g1 rfl ?_;refine Resume.run lay [] ?_;simp[updAll];refine Resume.beginRound g1 rfl ?_;refine Resume.run lay [] ?_;simp[updAll,e3];have hne:waysOf f []≠[]:=fun e=>by rw[e] at hk;cases hk
      refine⟨rfl,rfl,_,((Store.set_ne _ _ l1).trans (Store.set_same _ _ _)),?_⟩;refine hF F _ (fun c x hc hx=>⟨?_,hc⟩) ⟨hne,hFd,Store.set_same _ _ _,(Store.set_ne _ _ l2).trans (Store.set_same _ _ _)⟩
      have c1:c≠l:=fun e=>hc ((hFd c).2 (.inl e))
      have c2:c≠c3:=fun e=>hc ((hFd c).2 (.inr e))
      exact (Store.set_ne _ _ c1).trans ((Store.set_ne _ _ c2).trans ((Store.set_ne _ _ c1).trans hx))
    . obtain⟨rfl,hFd,g1,g2⟩:=hI
      exact⟨rfl,hFd,by rw[he l ((hFd l).2 (.inl rfl))];exact g1,by rw[he c3 ((hFd c3).2 (.inr rfl))];exact g2⟩
    . obtain⟨q,hFd,g1,g2⟩:=hI
      exact⟨q,hFd,by rw[he l ((hFd l).2 (.inl rfl))];exact g1,by rw[he c3 ((hFd c3).2 (.inr rfl))];exact g2⟩
    . obtain⟨rfl,hFd,g1,g2⟩:=hI
      rcases (hFd c).1 hc with rfl|rfl
      . exact⟨_,g1,rfl⟩
      . exact⟨_,g2,rfl⟩
  obtain⟨xb,hxb,hpb⟩:=LK.unb hu;have nb:∀ c,σ c=none->c≠b:=fun c hc e=>by subst e;rw[hc] at hxb;cases hxb
  have hle:σ.Le (((σ.set c3 (.cells [bool false])).set r (.raw (.deferred (some [])))).set l (.loop al)):=(by repeat (first|exact Store.le_refl _|assumption|refine Store.le_upd ?_ (by assumption) | refine Store.le_del ?_ (by assumption)))
  have sr:(((σ.set c3 (.cells [bool false])).set r (.raw (.deferred (some [])))).set l (.loop al)) r=some (.raw (.deferred (some []))):=by rw[Store.set_ne _ _ hrl,Store.set_same]
  refine callFnC Tryz.func54 rfl rfl rfl (ways1_ok (F:=fun c=>c=l∨c=c3) LK hf (by simp) hY ⟨rfl,rfl⟩ (LK.un (fun c _ ⟨x,h1,_⟩=>(hle _ _ h1).trans h1.symm) hu) ⟨rfl,fun c=>Iff.rfl,Store.set_same _ _ _,(Store.set_ne _ _ l2).trans ((Store.set_ne _ _ r2).trans (Store.set_same _ _ _))⟩ fun F' σ' hmv hu' hend=>?_)
  have hr':=(hmv r _ sr (fun e=>by rcases e with e|e;exact hrl e;exact r1 e) (nb r hr) (.inr rfl)).1
  have hkeep:LKeep b mb σ σ':=fun c x h1 h2 h3'=>(hmv c x (hle c x h1) (fun e=>by rcases e with e|e <;> subst e <;> simp_all) h2 h3').1
  have hfinS:∀ σ2,σ2=(σ'.del l).set r (.raw (.deferred none))->Un σ2∧LKeep b mb σ σ2:=fun σ2 e=>by
    subst e;refine⟨LK.un (σ:=σ') (fun c _ ⟨x,h1,h2⟩=>?_) hu',fun c x h1 h2 h3'=>?_⟩
    . have c1:c≠r:=fun e=>by subst e;rw[hr'] at h1;cases h1;cases h2
      have c2:c≠l:=fun e=>by
        subst e
        rcases hend with ⟨_,_,g,_⟩|⟨_,_,g,_⟩ <;> rw[g] at h1 <;> cases h1 <;> cases h2
      rw[Store.set_ne _ _ c1];simp[Store.del,c2]
    . have c1:c≠r:=fun e=>by subst e;rw[hr] at h1;cases h1
      have c2:c≠l:=fun e=>by subst e;rw[hl] at h1;cases h1
      rw[Store.set_ne _ _ c1];simp only[Store.del,c2,if_false];exact hkeep c x h1 h2 h3'
  rcases hend with ⟨q0,_,q1,q2⟩|⟨q0,_,q1,q2⟩
  . have hv:decide (waysOf f []≠[])=false:=by simp[List.length_eq_zero_iff.1 q0]
    rw[hv] at h;subst hal;refine⟨_,q1,by simp,rfl,?_⟩
    have q2':(σ'.del l) c3=some (.cells [bool false]):=by simp only[Store.del,l2,Ne.symm l2,if_false];simpa[l2,Ne.symm l2] using q2
    refine Resume.run lay [] ?_;simp[q2'];refine⟨by simp only[Store.del,hrl,if_false];exact hr',.done ?_⟩
    obtain⟨e1,e2⟩:=hfinS _ rfl;exact h _ e1 e2
  . have hv:decide (waysOf f []≠[])=true:=by simp[q0]
    rw[hv] at h;subst hal;refine⟨_,q1,by simp,rfl,?_⟩
    have q2':(σ'.del l) c3=some (.cells [bool true]):=by simp only[Store.del,l2,Ne.symm l2,if_false];simpa[l2,Ne.symm l2] using q2
    refine Resume.run lay [] ?_;simp[q2'];refine⟨by simp only[Store.del,hrl,if_false];exact hr',.done ?_⟩
    obtain⟨e1,e2⟩:=hfinS _ rfl;exact h _ e1 e2
end
end Go.Proofs.YtibjfmfdjncniaaGreatDoor
namespace Go.Proofs.YtibjfmfdjncniaaGreatDoor
open Go Go.Pal
set_option maxRecDepth 100000
abbrev ng:GrN:=⟨44,46,48,62,63,74,61,69,77,64,93,94,95,96,78,73,113,115,120⟩
theorem grChk_a0:∀ (b:Nat) (kind:CallKind),opAt (A0 Tryz.prog ng b kind).1=some (ng.dis,[])∧(A0 Tryz.prog ng b kind).1.env.all plain=true∧(A0 Tryz.prog ng b kind).2=[]∧(A0 Tryz.prog ng b kind).1.kind=kind:=by intro b kind;exact⟨by kernel_rfl,by kernel_rfl,by kernel_rfl,by kernel_rfl⟩
theorem grChk_a1:∀ (b:Nat) (kind:CallKind),opAt (A1 Tryz.prog ng b kind).1=some (ng.bub,[])∧(A1 Tryz.prog ng b kind).1.env.all plain=true∧(A1 Tryz.prog ng b kind).2=[]∧(A1 Tryz.prog ng b kind).1.kind=kind:=by intro b kind;exact⟨by kernel_rfl,by kernel_rfl,by kernel_rfl,by kernel_rfl⟩
theorem grChk_a2:∀ (b:Nat) (kind:CallKind),opAt (A2 Tryz.prog ng b kind).1=some (ng.add64,[pt b 0,u64 4294967296])∧kOK (A2 Tryz.prog ng b kind)=true∧(A2 Tryz.prog ng b kind).1.env.all plain=true∧(A2 Tryz.prog ng b kind).2.all (·.env.all plain)=true:=by intro b kind;exact⟨by kernel_rfl,by kernel_rfl,by kernel_rfl,by kernel_rfl⟩
theorem grChk_a3:∀ (b:Nat) (kind:CallKind) (fl:Fl),cvAt (A3 Tryz.prog ng b kind (f1 fl true)).1=some (ng.tS,ng.tU,pt b 1):=by intro b kind fl;kernel_rfl
theorem grChk_a4:∀ (b:Nat) (kind:CallKind) (fl:Fl),opAt (A4 Tryz.prog ng b kind (f1 fl true)).1=some (ng.rd,[pt b 1])∧(A4 Tryz.prog ng b kind (f1 fl true)).1.kind=kind:=by intro b kind fl;exact⟨by kernel_rfl,by kernel_rfl⟩
theorem grChk_a5:∀ (b:Nat) (kind:CallKind) (fl:Fl),dfAt (A5 Tryz.prog ng b kind (f0 (f1 fl true) false)).1=some ng.en∧(A5 Tryz.prog ng b kind (f0 (f1 fl true) false)).2=[]∧(A5 Tryz.prog ng b kind (f0 (f1 fl true) false)).1.kind=kind∧(A5 Tryz.prog ng b kind (f0 (f1 fl true) false)).1.fn=ng.add:=by intro b kind fl;exact⟨by kernel_rfl,by kernel_rfl,by kernel_rfl,by kernel_rfl⟩
theorem grChk_a6:∀ (b:Nat) (kind:CallKind) (fl:Fl),dfAt (A3 Tryz.prog ng b kind (f0 (f1 fl false) false)).1=some ng.en∧(A3 Tryz.prog ng b kind (f0 (f1 fl false) false)).2=[]∧(A3 Tryz.prog ng b kind (f0 (f1 fl false) false)).1.kind=kind∧(A3 Tryz.prog ng b kind (f0 (f1 fl false) false)).1.fn=ng.add:=by intro b kind fl;exact⟨by kernel_rfl,by kernel_rfl,by kernel_rfl,by kernel_rfl⟩
theorem grChk_d0:∀ (b:Nat),cvAt (D0 Tryz.prog ng b).1=some (ng.tG,ng.tU,pt b 0)∧(D0 Tryz.prog ng b).1.env.all plain=true∧(D0 Tryz.prog ng b).2.all (·.env.all plain)=true:=by intro b;exact⟨by kernel_rfl,by kernel_rfl,by kernel_rfl⟩
theorem grChk_d1:∀ (b:Nat),opAt (D1 Tryz.prog ng b).1=some (ng.rel,[pt b 0])∧kOK (D1 Tryz.prog ng b)=true∧(D1 Tryz.prog ng b).1.env.all plain=true∧(D1 Tryz.prog ng b).2.all (·.env.all plain)=true:=by intro b;exact⟨by kernel_rfl,by kernel_rfl,by kernel_rfl,by kernel_rfl⟩
theorem grChk_d2:∀ (b:Nat),opAt (D2 Tryz.prog ng b).1=some (ng.dis,[])∧kOK (D2 Tryz.prog ng b)=true∧(D2 Tryz.prog ng b).1.env.all plain=true∧(D2 Tryz.prog ng b).2.all (·.env.all plain)=true:=by intro b;exact⟨by kernel_rfl,by kernel_rfl,by kernel_rfl,by kernel_rfl⟩
theorem grChk_d3:∀ (b:Nat),opAt (D3 Tryz.prog ng b).1=some (ng.bub,[])∧kOK (D3 Tryz.prog ng b)=true∧(D3 Tryz.prog ng b).1.env.all plain=true∧(D3 Tryz.prog ng b).2.all (·.env.all plain)=true:=by intro b;exact⟨by kernel_rfl,by kernel_rfl,by kernel_rfl,by kernel_rfl⟩
theorem grChk_d4:∀ (b:Nat),opAt (D4 Tryz.prog ng b).1=some (ng.add64,[pt b 0,u64 18446744069414584320])∧kOK (D4 Tryz.prog ng b)=true∧(D4 Tryz.prog ng b).1.env.all plain=true∧(D4 Tryz.prog ng b).2.all (·.env.all plain)=true:=by intro b;exact⟨by kernel_rfl,by kernel_rfl,by kernel_rfl,by kernel_rfl⟩
theorem grChk_d5:∀ (b:Nat) (fl:Fl) (x:Bool),dfAt (DE Tryz.prog ng b (f0 fl x) 0).1=some ng.en:=by intro b fl x;cases x <;> kernel_rfl
theorem grChk_d5b:∀ (b:Nat) (fl:Fl) (x:Bool),isOut (outD Tryz.prog (f0 fl x) (DE Tryz.prog ng b (f0 fl x) 0)).1 ng.done=true∧(outD Tryz.prog (f0 fl x) (DE Tryz.prog ng b (f0 fl x) 0)).2=[]∧(outD Tryz.prog (f0 fl x) (DE Tryz.prog ng b (f0 fl x) 0)).1.kind = .deferred:=by intro b fl x;cases x <;> exact⟨by kernel_rfl,by kernel_rfl,by kernel_rfl⟩
theorem grChk_d6:∀ (b:Nat) (fl:Fl),dfAt (DE Tryz.prog ng b (f0 fl false) 1).1=some ng.en:=by intro b fl;kernel_rfl
theorem grChk_d6b:∀ (b:Nat) (fl:Fl),isOut (outD Tryz.prog (f0 fl false) (DE Tryz.prog ng b (f0 fl false) 1)).1 ng.done=true∧(outD Tryz.prog (f0 fl false) (DE Tryz.prog ng b (f0 fl false) 1)).2=[]∧(outD Tryz.prog (f0 fl false) (DE Tryz.prog ng b (f0 fl false) 1)).1.kind = .deferred:=by intro b fl;exact⟨by kernel_rfl,by kernel_rfl,by kernel_rfl⟩
theorem grChk_d7:∀ (b:Nat) (fl:Fl),opAt (DE Tryz.prog ng b (f0 fl true) 1).1=some (ng.ld64,[pt b 0])∧kOK (DE Tryz.prog ng b (f0 fl true) 1)=true:=by intro b fl;exact⟨by kernel_rfl,by kernel_rfl⟩
theorem grChk_d8:∀ (b:Nat) (fl:Fl),opAt (D6 Tryz.prog ng b (f0 fl true)).1=some (ng.st64,[pt b 0,u64 0])∧kOK (D6 Tryz.prog ng b (f0 fl true))=true:=by intro b fl;exact⟨by kernel_rfl,by kernel_rfl⟩
theorem grChk_d9:∀ (b:Nat) (fl:Fl),opAt (D7 Tryz.prog ng b (f0 fl true)).1=some (ng.semr,[pt b 1,ff,i64 0])∧kOK (D7 Tryz.prog ng b (f0 fl true))=true:=by intro b fl;exact⟨by kernel_rfl,by kernel_rfl⟩
theorem grChk_da:∀ (b:Nat) (fl:Fl),dfAt (D8 Tryz.prog ng b (f0 fl true)).1=some ng.en:=by intro b fl;kernel_rfl
theorem grChk_db:∀ (b:Nat) (fl:Fl),isOut (outD Tryz.prog (f0 fl true) (D8 Tryz.prog ng b (f0 fl true))).1 ng.done=true∧(outD Tryz.prog (f0 fl true) (D8 Tryz.prog ng b (f0 fl true))).2=[]∧(outD Tryz.prog (f0 fl true) (D8 Tryz.prog ng b (f0 fl true))).1.kind = .deferred:=by intro b fl;exact⟨by kernel_rfl,by kernel_rfl,by kernel_rfl⟩
theorem grChk_w0:∀ (b:Nat) (kind:CallKind),opAt (W0 Tryz.prog ng b kind).1=some (ng.dis,[])∧(W0 Tryz.prog ng b kind).1.env.all plain=true∧(W0 Tryz.prog ng b kind).2=[]∧(W0 Tryz.prog ng b kind).1.kind=kind:=by intro b kind;exact⟨by kernel_rfl,by kernel_rfl,by kernel_rfl,by kernel_rfl⟩
theorem grChk_w1:∀ (b:Nat) (kind:CallKind),opAt (W1 Tryz.prog ng b kind).1=some (ng.ld64,[pt b 0])∧kOK (W1 Tryz.prog ng b kind)=true∧(W1 Tryz.prog ng b kind).1.env.all plain=true∧(W1 Tryz.prog ng b kind).2.all (·.env.all plain)=true:=by intro b kind;exact⟨by kernel_rfl,by kernel_rfl,by kernel_rfl,by kernel_rfl⟩
theorem grChk_w2:∀ (b:Nat) (kind:CallKind) (fl:Fl),opAt (WE Tryz.prog ng b kind (f0 fl true)).1=some (ng.en,[])∧(WE Tryz.prog ng b kind (f0 fl true)).1.kind=kind:=by intro b kind fl;exact⟨by kernel_rfl,by kernel_rfl⟩
theorem grChk_w3:∀ (b:Nat) (kind:CallKind) (fl:Fl),cvAt (WC Tryz.prog ng b kind (f0 fl true)).1=some (ng.tG,ng.tU,pt b 0):=by intro b kind fl;kernel_rfl
theorem grChk_w4:∀ (b:Nat) (kind:CallKind) (fl:Fl),opAt (WA Tryz.prog ng b kind (f0 fl true)).1=some (ng.acq,[pt b 0])∧(WA Tryz.prog ng b kind (f0 fl true)).1.kind=kind:=by intro b kind fl;exact⟨by kernel_rfl,by kernel_rfl⟩
theorem grChk_w5:∀ (b:Nat) (kind:CallKind) (fl:Fl),isOut (WB Tryz.prog ng b kind (f0 fl true)).1 ng.wait=true∧(WB Tryz.prog ng b kind (f0 fl true)).2=[]∧(WB Tryz.prog ng b kind (f0 fl true)).1.kind=kind:=by intro b kind fl;exact⟨by kernel_rfl,by kernel_rfl,by kernel_rfl⟩
theorem grChk_w6:∀ (b:Nat) (kind:CallKind) (fl:Fl),opAt (WE Tryz.prog ng b kind (f0 fl false)).1=some (ng.cas64,[pt b 0,.grp 0,.grp 1])∧kOK (WE Tryz.prog ng b kind (f0 fl false))=true:=by intro b kind fl;exact⟨by kernel_rfl,by kernel_rfl⟩
theorem grChk_w7:∀ (b:Nat) (kind:CallKind) (fl:Fl),maskS [5] [[0]] (next Tryz.prog (f0 fl false) (WE Tryz.prog ng b kind (f0 fl false)) ff)=W1 Tryz.prog ng b kind:=by intro b kind fl;kernel_rfl
theorem grChk_w8:∀ (b:Nat) (kind:CallKind) (fl:Fl),cvAt (W3 Tryz.prog ng b kind (f0 fl false)).1=some (ng.tS,ng.tU,pt b 1):=by intro b kind fl;kernel_rfl
theorem grChk_w9:∀ (b:Nat) (kind:CallKind) (fl:Fl),opAt (W3b Tryz.prog ng b kind (f0 fl false)).1=some (ng.wr,[pt b 1])∧(W3b Tryz.prog ng b kind (f0 fl false)).1.kind=kind:=by intro b kind fl;exact⟨by kernel_rfl,by kernel_rfl⟩
theorem grChk_wa:∀ (b:Nat) (kind:CallKind) (fl:Fl),opAt (W4 Tryz.prog ng b kind (f0 fl false)).1=some (ng.sem,[pt b 1,ff])∧(W4 Tryz.prog ng b kind (f0 fl false)).1.kind=kind:=by intro b kind fl;exact⟨by kernel_rfl,by kernel_rfl⟩
theorem grChk_wb:∀ (b:Nat) (kind:CallKind) (fl:Fl),opAt (W5 Tryz.prog ng b kind (f0 fl false)).1=some (ng.ld64,[pt b 0])∧kOK (W5 Tryz.prog ng b kind (f0 fl false))=true:=by intro b kind fl;exact⟨by kernel_rfl,by kernel_rfl⟩
theorem grChk_wc:∀ (b:Nat) (kind:CallKind) (fl:Fl),opAt (WE2 Tryz.prog ng b kind (f0 fl false)).1=some (ng.en,[])∧(WE2 Tryz.prog ng b kind (f0 fl false)).1.kind=kind:=by intro b kind fl;exact⟨by kernel_rfl,by kernel_rfl⟩
theorem grChk_wd:∀ (b:Nat) (kind:CallKind) (fl:Fl),cvAt (WC2 Tryz.prog ng b kind (f0 fl false)).1=some (ng.tG,ng.tU,pt b 0):=by intro b kind fl;kernel_rfl
theorem grChk_we:∀ (b:Nat) (kind:CallKind) (fl:Fl),opAt (WA2 Tryz.prog ng b kind (f0 fl false)).1=some (ng.acq,[pt b 0])∧(WA2 Tryz.prog ng b kind (f0 fl false)).1.kind=kind:=by intro b kind fl;exact⟨by kernel_rfl,by kernel_rfl⟩
theorem grChk_wf:∀ (b:Nat) (kind:CallKind) (fl:Fl),isOut (WB2 Tryz.prog ng b kind (f0 fl false)).1 ng.wait=true∧(WB2 Tryz.prog ng b kind (f0 fl false)).2=[]∧(WB2 Tryz.prog ng b kind (f0 fl false)).1.kind=kind:=by intro b kind fl;exact⟨by kernel_rfl,by kernel_rfl,by kernel_rfl⟩
theorem grChk:GrChk Tryz.prog ng where
  a0:=grChk_a0
  a1:=grChk_a1
  a2:=grChk_a2
  a3:=grChk_a3
  a4:=grChk_a4
  a5:=grChk_a5
  a6:=grChk_a6
  d0:=grChk_d0
  d1:=grChk_d1
  d2:=grChk_d2
  d3:=grChk_d3
  d4:=grChk_d4
  d5:=grChk_d5
  d5b:=grChk_d5b
  d6:=grChk_d6
  d6b:=grChk_d6b
  d7:=grChk_d7
  d8:=grChk_d8
  d9:=grChk_d9
  da:=grChk_da
  db:=grChk_db
  w0:=grChk_w0
  w1:=grChk_w1
  w2:=grChk_w2
  w3:=grChk_w3
  w4:=grChk_w4
  w5:=grChk_w5
  w6:=grChk_w6
  w7:=grChk_w7
  w8:=grChk_w8
  w9:=grChk_w9
  wa:=grChk_wa
  wb:=grChk_wb
  wc:=grChk_wc
  wd:=grChk_wd
  we:=grChk_we
  wf:=grChk_wf
theorem grExt:GrExt Tryz.prog ng where
  dis:=⟨_,rfl,rfl,rfl,rfl,rfl⟩
  en:=⟨_,rfl,rfl,rfl,rfl,rfl⟩
  acq:=⟨_,rfl,rfl,rfl,rfl,rfl⟩
  rel:=⟨_,rfl,rfl,rfl,rfl,rfl⟩
  rd:=⟨_,rfl,rfl,rfl,rfl,rfl⟩
  wr:=⟨_,rfl,rfl,rfl,rfl,rfl⟩
  bub:=⟨_,rfl,rfl,rfl,rfl,rfl⟩
  add64:=⟨_,rfl,rfl,rfl,rfl,rfl⟩
  ld64:=⟨_,rfl,rfl,rfl,rfl,rfl⟩
  st64:=⟨_,rfl,rfl,rfl,rfl,rfl⟩
  cas64:=⟨_,rfl,rfl,rfl,rfl,rfl⟩
  sem:=⟨_,rfl,rfl,rfl,rfl,rfl⟩
  semr:=⟨_,rfl,rfl,rfl,rfl,rfl⟩
  tyG:=⟨_,rfl,rfl,rfl⟩
  tyS:=⟨_,rfl,rfl,rfl⟩
  fAdd:=⟨_,_,rfl,rfl,rfl,rfl⟩
  fDone:=⟨_,_,rfl,rfl,rfl,rfl⟩
  fWait:=⟨_,_,rfl,rfl,rfl,rfl⟩
end Go.Proofs.YtibjfmfdjncniaaGreatDoor
namespace Go.Proofs.YtibjfmfdjncniaaGreatDoor
open Go.Pal Go.Conc
set_option maxHeartbeats 1000000
set_option maxRecDepth 4000
variable {m:Mo} {σ:Store} {KF:Res->Store->Prop}
theorem muFn:MuFn Tryz.prog nn:=⟨⟨_,_,Tryz.func89,rfl,rfl,rfl⟩,⟨_,_,Tryz.func90,rfl,rfl,rfl⟩⟩
section
variable {b mb:Nat} {f:Fr} {A:Mart} {j:Nat} {begun:List Int}
theorem count2_run {k0:Know} (hng:A.ng=ng) {body:Code} (hb:Tryz.f47.body=some body):Resume Tryz.prog (moC1 Tryz.prog A) 47 4 none [] [.code body] ⟨argsEnv [.ref A.gb 0,.cp (.chan A.cF) 0],awayσ A.fb,[],.told .deferred [botG Tryz.prog] k0⟩ (fun _ _=>False):=by
  simp only[Tryz.f47,Option.some.injEq] at hb;subst hb;refine Resume.runN lay [] 2 ?_;simp;refine Resume.waitM rfl (by rw[hng];rfl) rfl (by simp) (by rw[hng];exact Tryz.func48) rfl rfl rfl ?_
  refine Resume.run lay [] ?_;simp;exact Resume.closeM rfl rfl (by simp) rfl rfl rfl rfl rfl Tryz.func47 rfl rfl
theorem count1_run {k0:Know} (hA:A.fb=b∧A.mb=mb∧A.fo=6∧A.nm=nn∧A.ng=ng) (hG:∀ x,A.GI x ↔ ∃ l,x=mapA .u8 l∧Known f l) (hf:f.Good) (hres:A.res j=int (waysOf f begun).length) (hbg:begun.length<1152921504606846976) (hlen:(waysOf f begun).length<1152921504606846976) {body:Code} (hb:Tryz.f45.body=some body) :
    Resume Tryz.prog (moW1 Tryz.prog A j) 45 13 none [] [.code body] ⟨argsEnv [.ref A.gb 0,.cp (fpA b mb f 0) 0,.cp (ints begun) 0,.cp (.chan A.cF) 0],awayσ A.fb,[],.told .deferred [botG Tryz.prog] k0⟩ (fun _ _=>False):=by
  obtain⟨rfl,rfl,hfo,hnm,hng⟩:=hA;simp only[Tryz.f45,Option.some.injEq] at hb;subst hb;have LK:=lkM_work (P:=Tryz.prog) (A:=A) (j:=j) (kd:=.u8) hG;rw[hfo,hnm] at LK;refine Resume.run lay [] ?_;simp;refine Resume.defer rfl rfl rfl rfl (by simp) rfl ?_
  refine Resume.run lay [] ?_;simp;refine newW.intro fun cn hcn=>?_
  simp;refine callFn Tryz.func36 rfl rfl (ways_ok (begun:=begun) (sp:=.any) ?_);refine Resume.run lay [] ?_;simp;refine Resume.rangeFunc rfl fun hpl r l hr hl hrl=>?_
  obtain⟨r1,r2,hr⟩:=Store.set_none hr;obtain⟨l1,l2,hl⟩:=Store.set_none hl;generalize hal:ALoop.mk _ _ _ _ _ _ _ _ _=al
  have hY:Yld (moW1 Tryz.prog A j) (.fn (.yield l) [] []) (waysOf f begun) (fun k F σ'=>(∀ c,F c ↔ c=l∨c=cn)∧σ' l=some (.loop al)∧σ' cn=some (.cells [int k])) (fun F σ'=>False):=by
    refine⟨fun k F σ' KF' hk hI hT hF=>?_,fun k F σ1 σ2 he hI=>?_,fun F σ1 σ2 he hI=>hI.elim,fun k F σ' c hI hc=>?_⟩
    . obtain⟨hFd,g1,g2⟩:=hI
      have e3:∀ x,(σ'.set l x) cn=some (.cells [int k]):=fun x=>(Store.set_ne _ _ l2).trans g2
      have f1 : -9223372036854775808≤(k:Int)+1∧(k:Int)+1≤9223372036854775807:=by omega
      subst hal;refine CallV.yieldW (hold:=[]) hpl Tryz.func45 g1 rfl ?_;refine Resume.run lay [] ?_;simp[updAll];refine Resume.beginRound g1 rfl ?_;refine Resume.run lay [] ?_;simp[updAll,e3,f1.1,f1.2];refine⟨rfl,rfl,_,((Store.set_ne _ _ l1).trans (Store.set_same _ _ _)),?_⟩;refine hT F _ (fun c x hc hx=>⟨?_,hc⟩) ⟨hFd,Store.set_same _ _ _,(Store.set_ne _ _ l2).trans (Store.set_same _ _ _)⟩
      have c1:c≠l:=fun e=>hc ((hFd c).2 (.inl e))
      have c2:c≠cn:=fun e=>hc ((hFd c).2 (.inr e))
      exact (Store.set_ne _ _ c1).trans ((Store.set_ne _ _ c2).trans ((Store.set_ne _ _ c1).trans hx))
    . obtain⟨hFd,g1,g2⟩:=hI
      exact⟨hFd,by rw[he l ((hFd l).2 (.inl rfl))];exact g1,by rw[he cn ((hFd cn).2 (.inr rfl))];exact g2⟩
    . obtain⟨hFd,g1,g2⟩:=hI
      rcases (hFd c).1 hc with rfl|rfl
      . exact⟨_,g1,rfl⟩
      . exact⟨_,g2,rfl⟩
  have hu:UnW A.fb (((awayσ A.fb).set cn (.cells [int 0])).set r (.raw (.deferred (some []))) |>.set l (.loop al)):=by
    have h0:(awayσ A.fb) A.fb=some .away:=by simp[awayσ]
    have q1:A.fb≠cn:=fun e=>by rw[← e,h0] at hcn;cases hcn
    have q2:A.fb≠r:=fun e=>by rw[← e,h0] at hr;cases hr
    have q3:A.fb≠l:=fun e=>by rw[← e,h0] at hl;cases hl
    show _=_;rw[Store.set_ne _ _ q3,Store.set_ne _ _ q2,Store.set_ne _ _ q1];exact h0
  have nb:∀ c,(awayσ A.fb) c=none->c≠A.fb:=fun c hc e=>by subst e;simp[awayσ] at hc
  have sr:(((awayσ A.fb).set cn (.cells [int 0])).set r (.raw (.deferred (some []))) |>.set l (.loop al)) r=some (.raw (.deferred (some []))):=(Store.set_ne _ _ hrl).trans (Store.set_same _ _ _)
  refine callFnC Tryz.func54 rfl rfl rfl (ways1_ok (F:=fun c=>c=l∨c=cn) LK hf hbg hY ⟨rfl,rfl⟩ hu ⟨fun c=>Iff.rfl,Store.set_same _ _ _,(Store.set_ne _ _ l2).trans ((Store.set_ne _ _ r2).trans (Store.set_same _ _ _))⟩ fun F' σ' hmv hu' hend=>?_)
  have hr':=(hmv r _ sr (fun e=>by rcases e with e|e;exact hrl e;exact r1 e) (nb r hr) (.inr rfl)).1
  rcases hend with ⟨_,q1,q2⟩|hE
  . subst hal
    refine⟨_,q1,by simp,rfl,?_⟩
    have q2':(σ'.del l) cn=some (.cells [int (waysOf f begun).length]):=by simp only[Store.del,l2,Ne.symm l2,if_false];simpa[l2,Ne.symm l2] using q2
    have hul:(σ'.del l) A.fb=some .away:=by
      have q3:A.fb≠l:=fun e=>by
        have h0:(awayσ A.fb) A.fb=some .away:=by simp[awayσ]
        rw[← e,h0] at hl;cases hl
      simp only[Store.del,q3,if_false];exact hu'
    have hrr:(σ'.del l) r=some (.raw (.deferred (some []))):=by simp only[Store.del,hrl,if_false];exact hr'
    refine Resume.run lay [] ?_;simp[q2'];refine Resume.sendM rfl rfl (by simp) rfl rfl (by rw[hres];simp) hul rfl rfl Tryz.func45 rfl (by rw[hng];exact Tryz.func46) rfl rfl ?_
    refine Resume.run lay [] ?_;simp;refine⟨rfl,.inl rfl,⟨_,rfl⟩,r,by rw[hng],hrr⟩
  . exact hE.elim
end
end Go.Proofs.YtibjfmfdjncniaaGreatDoor
namespace Go.Proofs.YtibjfmfdjncniaaGreatDoor
open Go.Pal Go.Conc
set_option maxHeartbeats 1000000
set_option maxRecDepth 4000
variable {m:Mo} {σ:Store} {KF:Res->Store->Prop}
def begunOf (j:Nat):List Int:=if j=0 then [0,0] else [0,1]
def countOf (f:Fr):Int:=if f.ents.length<2 then 1 else (waysOf f [0,0]).length+(waysOf f [0,1]).length
theorem W_cp1 {v v':AV} (h1:v.cells=[v]) (h2:v'.cells=[v']) (h:v.W v'):(AV.cp v 0).W (.cp v' 0):=fun k x hx=>by
  cases hx with
  | cp b base off N E v c g1 g2 g3 g4=>
    rw[h1] at g2 g3 g4;refine .cp b base 0 N E v' c g1 (by rw[h2];exact g2) (fun j hj=>g3 j (by rw[h2] at hj;exact hj)) (fun j a ha=>?_)
    rw[h2] at ha
    have hj:j=0:=by
      have:=(List.getElem?_eq_some_iff.1 ha).1;simp at this;exact this
    subst hj;simp at ha;subst ha;exact h k _ (g4 0 v rfl)
section
variable {b mb:Nat} {f:Fr}
theorem count_ok (hs:m.solo=true) (hf:f.Good) (hlen:(waysOf f [0,0]).length<1000000000∧(waysOf f [0,1]).length<1000000000) (hne:b≠mb) (hu:UnS b 6 mb .u8 (Known f) σ) (h:∀ σ',UnS b 6 mb .u8 (Known f) σ'->LKeep b mb σ σ'->KF (.val (int (countOf f))) σ'):FnOK Tryz.prog m 26 [fpA b mb f 0] σ KF:=by
  have h6:=hf.six;unfold countOf at h;refine FnOK.start lay [] [] 1 Tryz.func26 rfl rfl (by rfl) (by kernel_rfl) ?_
  simp[Tryz.f26]
  by_cases g1:f.ents.length<2
  . have g1':(f.ents.length:Int)<2:=by omega
    rw[if_pos g1] at h;simp[g1'];exact .done (h σ hu (LKeep.refl b mb σ))
  have g1' : ¬ (f.ents.length:Int)<2:=by omega
  rw[if_neg g1] at h;obtain⟨u1,lm,u2,u3⟩:=hu;simp[g1'];refine os_makeChan lay rfl tt93 rfl tt3 rfl (by decide) fun cF hcF=>?_
  refine Resume.run lay [] ?_;simp;refine newW.intro fun c3 hc3=>?_
  obtain⟨n1,n2,hc3⟩:=Store.set_none hc3;simp;refine newW.intro fun gb hgb=>?_
  obtain⟨n3,n4,hgb⟩:=Store.set_none hgb;obtain⟨n5,n6,hgb⟩:=Store.set_none hgb;simp[n1,n2,n3,n4,n5,n6];have cb:cF≠b:=fun e=>by rw[e,u1] at hcF;cases hcF
  have cm:cF≠mb:=fun e=>by rw[e,u2] at hcF;cases hcF
  have b3:c3≠b:=fun e=>by rw[e,u1] at hc3;cases hc3
  have m3:c3≠mb:=fun e=>by rw[e,u2] at hc3;cases hc3
  have gb':gb≠b:=fun e=>by rw[e,u1] at hgb;cases hgb
  have gm:gb≠mb:=fun e=>by rw[e,u2] at hgb;cases hgb
  refine Resume.freezeAt 3 (b:=c3) (.chan cF) (by simp[n3,n4,n5,n6,n1,n2,Store.set_ne]) (by simp) rfl ?_
  refine Resume.mart hs ⟨2,cF,b,6,gb,mb,fun x => ∃ l,x=mapA .u8 l∧Known f l,fun j=>int (waysOf f (begunOf j)).length,nn,ng,by omega,cb,n6,cm,Ne.symm gb',hne,gm⟩ grChk grExt muChk muExt muFn (tm:=false) (a:=mapA .u8 lm) (by simp[Store.del,Store.set_ne,n1,n2,n3,n4,n5,n6]) (by simp[Store.del,Store.set_ne,n1,n2,n3,n4,n5,n6]) (by simp[Store.del,Store.set,b3,Ne.symm b3,gb',Ne.symm gb',cb,Ne.symm cb,u1]) (by simp[Store.del,Store.set,m3,Ne.symm m3,gm,Ne.symm gm,cm,Ne.symm cm,u2]) (by simp[mapA]) ⟨lm,rfl,u3⟩ rfl fun pb hpb Fin kd cs0 k0 hfin=>?_
  refine Resume.unroll ?_;refine Resume.runN lay [] 18 ?_;simp;refine newW.intro fun d1 hd1=>?_
  have d1b:d1≠b:=fun e=>by subst e;simp at hd1
  simp
  change Resume _ _ _ _ _ _ _ _ _
  refine Resume.freezeAt 6 (b:=d1) (.sl 1 [int 0,int 0] .exact) (Store.set_same _ _ _) (by simp) rfl ?_
  refine Resume.wat 6 (a':=.cp (ints [0,0]) 0) (by simp;exact W_cp1 rfl rfl (W_any 1 [int 0,int 0] .exact)) ?_
  refine Resume.addM rfl rfl rfl (by simp) Tryz.func44 rfl rfl rfl ?_
  refine Resume.run lay [] ?_;simp;refine Resume.goW (hold':=[]) rfl rfl rfl (by simp) rfl Tryz.func45 rfl rfl (by show (4:Nat)≤13;decide) (by simp[MartP.at,Store.del,Store.set,d1b,Ne.symm d1b,d1b,Ne.symm d1b]) (by kernel_rfl) (fun k1=>count1_run (b:=b) (mb:=mb) (f:=f) (begun:=[0,0]) ⟨rfl,rfl,rfl,rfl,rfl⟩ (fun x=>Iff.rfl) hf rfl (by simp) (by omega) rfl) ?_
  refine Resume.run lay [] ?_;simp;refine Resume.again (by kernel_rfl) ?_
  refine Resume.runN lay [] 18 ?_;simp;refine newW.intro fun d2 hd2=>?_
  have d2b:d2≠b:=fun e=>by subst e;simp[Store.del,Store.set,d1b,Ne.symm d1b] at hd2
  simp
  change Resume _ _ _ _ _ _ _ _ _
  refine Resume.freezeAt 6 (b:=d2) (.sl 1 [int 0,int 1] .exact) (Store.set_same _ _ _) (by simp) rfl ?_
  refine Resume.wat 6 (a':=.cp (ints [0,1]) 0) (by simp;exact W_cp1 rfl rfl (W_any 1 [int 0,int 1] .exact)) ?_
  refine Resume.addM rfl rfl rfl (by simp) Tryz.func44 rfl rfl rfl ?_
  refine Resume.run lay [] ?_;simp;refine Resume.goW (hold':=[]) rfl rfl rfl (by simp) rfl Tryz.func45 rfl rfl (by show (4:Nat)≤13;decide) (by simp[MartP.at,Store.del,Store.set,d2b,Ne.symm d2b,d1b,Ne.symm d1b]) (by kernel_rfl) (fun k1=>count1_run (b:=b) (mb:=mb) (f:=f) (begun:=[0,1]) ⟨rfl,rfl,rfl,rfl,rfl⟩ (fun x=>Iff.rfl) hf rfl (by simp) (by omega) rfl) ?_
  refine Resume.run lay [] ?_;simp;refine Resume.again (by kernel_rfl) ?_
  refine Resume.run lay [] ?_;simp;refine Resume.goC (hold':=[]) rfl rfl rfl (by simp) rfl Tryz.func47 rfl rfl (by show (2:Nat)≤4;decide) (by simp[MartP.at,Store.del,Store.set,d2b,Ne.symm d2b,d1b,Ne.symm d1b]) (by kernel_rfl) (fun k1=>count2_run rfl rfl) ?_
  refine Resume.run lay [] ?_;simp;refine Resume.unroll ?_;refine Resume.run lay [] ?_;simp;refine Resume.recvM lay rfl rfl tt93 rfl tt3 (by simp) rfl rfl fun j1 hj1=>?_
  have hbn:∀ j,(waysOf f (begunOf j)).length<1000000000:=fun j=>by
    unfold begunOf;split
    . exact hlen.1
    . exact hlen.2
  have f1 : -9223372036854775808≤((waysOf f (begunOf j1)).length:Int)∧((waysOf f (begunOf j1)).length:Int)≤9223372036854775807:=by have:=hbn j1;omega
  refine Resume.run lay [] ?_;simp[MartP.at,f1.1,f1.2];refine Resume.again (by kernel_rfl) ?_
  refine Resume.run lay [] ?_;simp;refine Resume.recvM lay rfl rfl tt93 rfl tt3 (by simp) rfl rfl fun j2 hj2=>?_
  have f2 : -9223372036854775808≤((waysOf f (begunOf j1)).length:Int)+((waysOf f (begunOf j2)).length:Int)∧((waysOf f (begunOf j1)).length:Int)+((waysOf f (begunOf j2)).length:Int)≤9223372036854775807:=by have:=hbn j1;have:=hbn j2;omega
  refine Resume.run lay [] ?_;simp[MartP.at,f2.1,f2.2];refine Resume.again (by kernel_rfl) ?_
  refine Resume.run lay [] ?_;simp;refine Resume.recvEnd lay rfl rfl tt93 rfl tt3 (by simp) rfl rfl (by simp[Store.del,Store.set,d2b,Ne.symm d2b,d1b,Ne.symm d1b]) rfl hfin fun a ha=>?_
  refine Resume.run lay [] ?_;simp
  have hsum:((waysOf f (begunOf j1)).length:Int)+((waysOf f (begunOf j2)).length:Int)=((waysOf f [0,0]).length:Int)+((waysOf f [0,1]).length:Int):=by
    have h1:j1∈List.range 2:=hj1;have h2:j2∈(List.range 2).erase j1:=hj2;have:j1=0∨j1=1:=by have:=List.mem_range.1 h1;omega
    rcases this with rfl|rfl
    . have:j2=1:=by simpa[List.range,List.range.loop] using h2
      subst this;rfl
    . have:j2=0:=by simpa[List.range,List.range.loop] using h2
      subst this;exact Int.add_comm _ _
  rw[hsum];obtain⟨la,rfl,hla⟩:=ha;refine .done (h _ ⟨Store.set_same _ _ _,la,(Store.set_ne _ _ (Ne.symm hne)).trans (Store.set_same _ _ _),hla⟩ fun c x h1 h2 h3=>?_)
  have e1:c≠mb:=fun e=>by
    subst e;rw[u2] at h1;cases h1
    rcases h3 with h3|h3
    . exact h3 rfl
    . cases h3
  have e2:c≠cF:=fun e=>by subst e;rw[hcF] at h1;cases h1
  have e3:c≠c3:=fun e=>by subst e;rw[hc3] at h1;cases h1
  have e4:c≠gb:=fun e=>by subst e;rw[hgb] at h1;cases h1
  have e5:c≠d1:=fun e=>by
    subst e;simp[Store.del,Store.set,e1,e2,e3,e4,h2,h1] at hd1
  have e6:c≠d2:=fun e=>by
    subst e;simp[Store.del,Store.set,e1,e2,e3,e4,e5,h2,h1] at hd2
  simp[Store.del,Store.set,e1,e2,e3,e4,e5,e6,h2,h1]
end
end Go.Proofs.YtibjfmfdjncniaaGreatDoor
namespace Go.Proofs.YtibjfmfdjncniaaGreatDoor
open Go.Pal Go.Conc
set_option maxHeartbeats 1000000
set_option maxRecDepth 4000
variable {m:Mo} {σ:Store} {KF:Res->Store->Prop}
section
variable {b mb:Nat} {f:Fr} {Un:Store->Prop} {Ld:Store->List (Int × AV)->Prop}
theorem counted_ok (LK:LkM Tryz.prog m nn b 6 mb .u8 (Known f) Un Ld) (hf:f.Good) {so:AV} {p:List Int->Bool} (hsc:so.cells=[so]∧so.flat=true) (hso:∀ w∈waysOf f [],∀ (σ:Store) (KF:Res->Store->Prop),KF (.val (bool (p w))) σ->CallV Tryz.prog m so [ints w] σ KF) (hlen:(waysOf f []).length<1152921504606846976) (hu:Un σ)
    (h:∀ σ',Un σ'->LKeep b mb σ σ'->KF (.val (.tup [int (((waysOf f []).filter p).length),int (waysOf f []).length])) σ'):FnOK Tryz.prog m 87 [fpA b mb f 0,so] σ KF:=by
  refine FnOK.start lay [] pl87 2 Tryz.func87 rfl rfl (by rfl) (by kernel_rfl) ?_
  simp[Tryz.f87,hsc.1,hsc.2];refine newW.intro fun c6 h6=>?_
  simp;refine newW.intro fun c7 h7=>?_
  obtain⟨z1,z2,h7⟩:=Store.set_none h7;simp[z1,z2,Store.set_ne];have hW:Wl [fpA b mb f 0,AV.lit (.slice none 0 0)] [fpA b mb f 0,ints []]:=.cons (.refl _) (.cons (W_nil 1) .nil);refine callFnW Tryz.func36 rfl rfl hW (ways_ok (begun:=[]) ?_);refine Resume.run lay [] ?_;simp;refine Resume.rangeFunc rfl fun hpl r l hr hl hrl=>?_
  obtain⟨a1,_,hr⟩:=Store.set_none hr;obtain⟨a2,_,hr⟩:=Store.set_none hr;obtain⟨_,_,hr⟩:=Store.set_none hr;obtain⟨_,_,hr⟩:=Store.set_none hr;obtain⟨a3,_,hl⟩:=Store.set_none hl;obtain⟨a4,_,hl⟩:=Store.set_none hl;obtain⟨_,_,hl⟩:=Store.set_none hl;obtain⟨_,_,hl⟩:=Store.set_none hl;have hr0:σ r=none∧r≠c6∧r≠c7:=⟨hr,a2,a1⟩;have hl0:σ l=none∧l≠c6∧l≠c7:=⟨hl,a4,a3⟩;generalize hal:ALoop.mk _ _ _ _ _ _ _ _ _=al
  have hY : Yld m (.fn (.yield l) [] []) (waysOf f []) (fun k F σ'=>(∀ c,F c ↔ c=l∨c=c6∨c=c7)∧σ' l=some (.loop al)∧σ' c6=some (.cells [int ((((waysOf f []).take k).filter p).length)])∧σ' c7=some (.cells [int k])) (fun F σ'=>False):=by
    refine⟨fun k F σ' KF' hk hI hT hF=>?_,fun k F σ1 σ2 he hI=>?_,fun F σ1 σ2 he hI=>hI.elim,fun k F σ' c hI hc=>?_⟩
    . obtain⟨hFd,g1,g2,g3⟩:=hI
      have e7:∀ x,(σ'.set l x) c7=some (.cells [int k]):=fun x=>(Store.set_ne _ _ (Ne.symm hl0.2.2)).trans g3
      have f1 : -9223372036854775808≤(k:Int)+1∧(k:Int)+1≤9223372036854775807:=by omega
      have hfl:(((waysOf f []).take k).filter p).length≤k:=Nat.le_trans (List.length_filter_le _ _) (by rw[List.length_take];omega)
      have f2 : -9223372036854775808≤((((waysOf f []).take k).filter p).length:Int)+1∧((((waysOf f []).take k).filter p).length:Int)+1≤9223372036854775807:=by omega
      have hsucc:(((waysOf f []).take (k+1)).filter p).length=(((waysOf f []).take k).filter p).length+if p (waysOf f [])[k] then 1 else 0:=by
        rw[List.take_succ_eq_append_getElem hk,List.filter_append,List.length_append];congr 1
        by_cases hp:p (waysOf f [])[k] <;> simp[List.filter_cons,hp]
      have hmem:(waysOf f [])[k]∈waysOf f []:=List.getElem_mem hk;subst hal;refine CallV.yieldW (hold:=pl87) hpl Tryz.func87 g1 rfl ?_;refine Resume.run lay [] ?_;simp[updAll];refine Resume.beginRound g1 rfl ?_;refine Resume.run lay [] ?_;simp[updAll,e7,f1.1,f1.2,hsc.1];refine hso _ hmem _ _ ?_;have e6:∀ x y,((σ'.set l x).set c7 y) c6=some (.cells [int ((((waysOf f []).take k).filter p).length)]):=fun x y=>(Store.set_ne _ _ (Ne.symm z1)).trans ((Store.set_ne _ _ (Ne.symm hl0.2.1)).trans g2)
      cases hp:p (waysOf f [])[k]
      . refine Resume.run lay [] ?_
        simp;refine⟨rfl,rfl,_,((Store.set_ne _ _ hl0.2.2).trans (Store.set_same _ _ _)),?_⟩;refine hT F _ (fun c x hc hx=>⟨?_,hc⟩) ⟨hFd,Store.set_same _ _ _,?_,(Store.set_ne _ _ (Ne.symm hl0.2.2)).trans (Store.set_same _ _ _)⟩
        . have q1:c≠l:=fun e=>hc ((hFd c).2 (.inl e))
          have q3:c≠c7:=fun e=>hc ((hFd c).2 (.inr (.inr e)))
          exact (Store.set_ne _ _ q1).trans ((Store.set_ne _ _ q3).trans ((Store.set_ne _ _ q1).trans hx))
        . refine (Store.set_ne _ _ (Ne.symm hl0.2.1)).trans ((e6 _ _).trans ?_)
          rw[hsucc,hp];rfl
      . refine Resume.run lay [] ?_
        simp[e6,f2.1,f2.2];refine⟨rfl,rfl,_,((Store.set_ne _ _ hl0.2.1).trans ((Store.set_ne _ _ hl0.2.2).trans (Store.set_same _ _ _))),?_⟩;refine hT F _ (fun c x hc hx=>⟨?_,hc⟩) ⟨hFd,Store.set_same _ _ _,?_,(Store.set_ne _ _ (Ne.symm hl0.2.2)).trans ((Store.set_ne _ _ z1).trans (Store.set_same _ _ _))⟩
        . have q1:c≠l:=fun e=>hc ((hFd c).2 (.inl e))
          have q2:c≠c6:=fun e=>hc ((hFd c).2 (.inr (.inl e)))
          have q3:c≠c7:=fun e=>hc ((hFd c).2 (.inr (.inr e)))
          exact (Store.set_ne _ _ q1).trans ((Store.set_ne _ _ q2).trans ((Store.set_ne _ _ q3).trans ((Store.set_ne _ _ q1).trans hx)))
        . refine (Store.set_ne _ _ (Ne.symm hl0.2.1)).trans ((Store.set_same _ _ _).trans ?_)
          rw[hsucc,hp];simp
    . obtain⟨hFd,g1,g2,g3⟩:=hI
      exact⟨hFd,by rw[he l ((hFd l).2 (.inl rfl))];exact g1,by rw[he c6 ((hFd c6).2 (.inr (.inl rfl)))];exact g2,by rw[he c7 ((hFd c7).2 (.inr (.inr rfl)))];exact g3⟩
    . obtain⟨hFd,g1,g2,g3⟩:=hI
      rcases (hFd c).1 hc with rfl|rfl|rfl
      . exact⟨_,g1,rfl⟩
      . exact⟨_,g2,rfl⟩
      . exact⟨_,g3,rfl⟩
  obtain⟨xb,hxb,hpb⟩:=LK.unb hu;have nb:∀ c,σ c=none->c≠b:=fun c hc e=>by subst e;rw[hc] at hxb;cases hxb
  have hle:σ.Le ((((((σ.set c6 (.cells [int 0])).set c7 (.cells [int 0])).set c6 (.cells [int 0])).set c7 (.cells [int 0])).set r (.raw (.deferred (some [])))).set l (.loop al)):=(by repeat (first|exact Store.le_refl _|assumption|refine Store.le_upd ?_ (by assumption) | refine Store.le_del ?_ (by assumption)))
  have sr:((((((σ.set c6 (.cells [int 0])).set c7 (.cells [int 0])).set c6 (.cells [int 0])).set c7 (.cells [int 0])).set r (.raw (.deferred (some [])))).set l (.loop al)) r=some (.raw (.deferred (some []))):=(Store.set_ne _ _ hrl).trans (Store.set_same _ _ _);have s7:((((((σ.set c6 (.cells [int 0])).set c7 (.cells [int 0])).set c6 (.cells [int 0])).set c7 (.cells [int 0])).set r (.raw (.deferred (some [])))).set l (.loop al)) c7=some (.cells [int 0]):=(Store.set_ne _ _ (Ne.symm hl0.2.2)).trans ((Store.set_ne _ _ (Ne.symm hr0.2.2)).trans (Store.set_same _ _ _))
  have s6:((((((σ.set c6 (.cells [int 0])).set c7 (.cells [int 0])).set c6 (.cells [int 0])).set c7 (.cells [int 0])).set r (.raw (.deferred (some [])))).set l (.loop al)) c6=some (.cells [int 0]):=(Store.set_ne _ _ (Ne.symm hl0.2.1)).trans ((Store.set_ne _ _ (Ne.symm hr0.2.1)).trans ((Store.set_ne _ _ (Ne.symm z1)).trans (Store.set_same _ _ _)))
  refine callFnC Tryz.func54 rfl rfl rfl (ways1_ok (F:=fun c=>c=l∨c=c6∨c=c7) LK hf (by simp) hY ⟨rfl,rfl⟩ (LK.un (fun c _ ⟨x,h1,_⟩=>(hle _ _ h1).trans h1.symm) hu) ⟨fun c=>Iff.rfl,Store.set_same _ _ _,by simpa using s6,by simpa using s7⟩ fun F' σ' hmv hu' hend=>?_)
  have hr':=(hmv r _ sr (fun e=>by rcases e with e|e|e;exact hrl e;exact hr0.2.1 e;exact hr0.2.2 e) (nb r hr) (.inr rfl)).1
  have hkeep:LKeep b mb σ σ':=fun c x h1 h2 h3'=>(hmv c x (hle c x h1) (fun e=>by rcases e with e|e|e <;> subst e <;> simp_all) h2 h3').1
  have hfinS:∀ σ2,σ2=(σ'.del l).set r (.raw (.deferred none))->Un σ2∧LKeep b mb σ σ2:=fun σ2 e=>by
    subst e;refine⟨LK.un (σ:=σ') (fun c _ ⟨x,h1,h2⟩=>?_) hu',fun c x h1 h2 h3'=>?_⟩
    . have c1:c≠r:=fun e=>by subst e;rw[hr'] at h1;cases h1;cases h2
      have c2:c≠l:=fun e=>by
        subst e
        rcases hend with ⟨_,g,_⟩|g
        . rw[g] at h1;cases h1;cases h2
        . exact g.elim
      rw[Store.set_ne _ _ c1];simp[Store.del,c2]
    . have c1:c≠r:=fun e=>by subst e;rw[hr] at h1;cases h1
      have c2:c≠l:=fun e=>by subst e;rw[hl] at h1;cases h1
      rw[Store.set_ne _ _ c1];simp only[Store.del,c2,if_false];exact hkeep c x h1 h2 h3'
  rcases hend with ⟨_,q1,q2,q3⟩|q
  . rw[List.take_length] at q2
    subst hal;refine⟨_,q1,by simp,rfl,?_⟩
    have q2':(σ'.del l) c6=some (.cells [int ((waysOf f []).filter p).length]):=by simp only[Store.del,Ne.symm hl0.2.1,if_false];exact q2
    have q3':(σ'.del l) c7=some (.cells [int (waysOf f []).length]):=by simp only[Store.del,Ne.symm hl0.2.2,if_false];exact q3
    refine Resume.run lay [] ?_;simp[q2',q3'];refine Resume.run lay [] ?_;simp;refine⟨by simp only[Store.del,hrl,if_false];exact hr',.done ?_⟩
    obtain⟨e1,e2⟩:=hfinS _ rfl;exact h _ e1 e2
  . exact q.elim
end
end Go.Proofs.YtibjfmfdjncniaaGreatDoor
namespace Go.Proofs.YtibjfmfdjncniaaGreatDoor
open Go.Pal Go.Conc
set_option maxHeartbeats 1000000
set_option maxRecDepth 4000
variable {m:Mo} {σ:Store} {KF:Res->Store->Prop}
theorem growL_len (f:Fr) (begun:List Int):∀ (fuel:Nat) (way:List Int) (many:Int) (hs:List Int),∀ w∈growL f begun fuel way many hs,w.length=way.length+fuel
  | 0,way,many,hs,w,hw=>by simp[growL] at hw;subst hw;rfl
  | fuel+1,way,many,hs,w,hw=>by
    rw[growL_succ,List.mem_flatMap] at hw;obtain⟨k,_,hk⟩:=hw;unfold growK at hk;split at hk
    . cases hk
    split at hk
    . have:=growL_len f begun fuel _ _ _ w hk
      rw[this];simp;omega
    . cases hk
section
variable {b mb:Nat} {f:Fr} {Un:Store->Prop} {Ld:Store->List (Int × AV)->Prop}
def sameP (x y:Int) (w:List Int):Bool:=decide (w.getD x.toNat 0=w.getD y.toNat 0)
theorem same1_ok {w:List Int} {x y:Int} (hx:0≤x∧x.toNat<w.length) (hy:0≤y∧y.toNat<w.length) (h:KF (.val (bool (sameP x y w))) σ):FnOK Tryz.prog m 88 [ints w,.cp (int x) 0,.cp (int y) 0] σ KF:=by
  have e1:w.getD x.toNat 0=w[x.toNat]:=by simp[List.getD_eq_getElem?_getD,hx.2]
  have e2:w.getD y.toNat 0=w[y.toNat]:=by simp[List.getD_eq_getElem?_getD,hy.2]
  unfold sameP at h;rw[e1,e2] at h;refine FnOK.start lay [] pl88 3 Tryz.func88 rfl rfl (by rfl) (by kernel_rfl) ?_
  simp[Tryz.f88,hx.1,hx.2,hy.1,hy.2];refine Resume.run lay [] ?_;simp;refine .done ?_
  by_cases q:w[x.toNat]=w[y.toNat]
  . simpa[q] using h
  . have:(w[x.toNat] == w[y.toNat])=false:=by simp[q]
    simpa[q,this] using h
theorem same_ok (LK:LkM Tryz.prog m nn b 6 mb .u8 (Known f) Un Ld) (hf:f.Good) {x y:Int} (hx:0≤x∧x.toNat<f.ents.length) (hy:0≤y∧y.toNat<f.ents.length) (hlen:(waysOf f []).length<1152921504606846976) (hu:Un σ)
    (h:∀ σ',Un σ'->LKeep b mb σ σ'->KF (.val (int (verdictOf (((waysOf f []).filter (sameP x y)).length:Int) (waysOf f []).length))) σ'):FnOK Tryz.prog m 53 [fpA b mb f 0,int x,int y] σ KF:=by
  have hw:∀ w∈waysOf f [],w.length=f.ents.length:=fun w hw=>by have:=growL_len f [] _ _ _ _ w hw;simpa using this
  refine FnOK.start lay [] [] 3 Tryz.func53 rfl rfl (by rfl) (by kernel_rfl) ?_
  simp[Tryz.f53];refine callFn Tryz.func87 rfl rfl (counted_ok LK hf (p:=sameP x y) ⟨rfl,rfl⟩ (fun w hwm σ KF hK=>callFnC Tryz.func88 rfl rfl rfl (same1_ok ⟨hx.1,by rw[hw w hwm];exact hx.2⟩ ⟨hy.1,by rw[hw w hwm];exact hy.2⟩ hK)) hlen hu fun σ' q1 q2=>?_)
  refine Resume.run lay [] ?_;simp;refine callFn Tryz.func86 rfl rfl (verdict_ok ?_);refine Resume.run lay [] ?_;simp;exact .done (h σ' q1 q2)
end
theorem opened_ok (hs:m.solo=true) {f:Fr} {l:List Int} {sp:Spare} (hf:f.Fits) (hc:check f=0) (hl:∀ n∈l,0≤n∧n<f.ents.length) (hll:l.length<1152921504606846976) (hway:waysOf f []≠[]) (h:∀ b mb σ',b≠mb->UnS b 6 mb .u8 (Known f) σ'->σ b=none∧σ mb=none->σ.Le σ'->KF (.val (.tup [fpA b mb f 0,int 0])) σ'):FnOK Tryz.prog m 35 [fairA f,.sl 1 (l.map int) sp] σ KF:=by
  have hg:=Fr.good hf hc;have ho:=openErr_in hc hl;refine FnOK.start lay [] [] 2 Tryz.func35 rfl rfl (by rfl) (by kernel_rfl) ?_
  simp[Tryz.f35];have hW:Wl [AV.agg (fairL f),.sl 1 (l.map int) sp] [fairA f,ints l]:=.cons (.refl _) (.cons (W_any 1 _ sp) .nil);refine callFnW Tryz.func25 rfl rfl hW (open_ok hf hll (fun q=>absurd ho q) fun _ b mb σ' hn=>?_)
  have hu:UnS b 6 mb .u8 (Known f) σ':=by
    rw[hn.eq];exact⟨Store.set_same _ _ _,[],(Store.set_ne _ _ (Ne.symm hn.ne)).trans (Store.set_same _ _ _),fun n a h=>by simp[alook] at h⟩
  refine Resume.run lay [] ?_;simp;refine callFn Tryz.func23 rfl rfl (some_ok (lkM_solo muChk muExt muFn hs hn.ne) hg hu fun σ2 q1 q2=>?_)
  refine Resume.run lay [] ?_;simp[hway];refine .done (h b mb σ2 hn.ne q1 ⟨hn.hb,hn.hmb⟩ fun c x hx=>?_)
  have c1:c≠b:=fun e=>by subst e;rw[hn.hb] at hx;cases hx
  have c2:c≠mb:=fun e=>by subst e;rw[hn.hmb] at hx;cases hx
  exact q2 c x (hn.le c x hx) c1 (.inl c2)
theorem Same_ok (hs:m.solo=true) {f:Fr} {x y:Int} (hf:f.Fits) (hc:check f=0) (hx:0≤x∧x<f.ents.length) (hy:0≤y∧y<f.ents.length) (hway:waysOf f []≠[]) (hlen:(waysOf f []).length<1152921504606846976) (h:KF (.val (.tup [int (verdictOf (((waysOf f []).filter (sameP x y)).length:Int) (waysOf f []).length),int 0])) σ):FnOK Tryz.prog m 31 [fairA f,int x,int y] σ KF:=by
  have hg:=Fr.good hf hc;refine FnOK.start lay [] [] 3 Tryz.func31 rfl rfl (by rfl) (by kernel_rfl) ?_
  simp[Tryz.f31];refine callFn Tryz.func35 rfl rfl (opened_ok (l:=[x,y]) (sp:=.exact) hs hf hc (fun n hn=>by simp at hn;rcases hn with rfl|rfl <;> omega) (by simp) hway fun b mb σ' hne hu hfr hle=>?_)
  refine Resume.run lay [] ?_;simp;refine callFn Tryz.func53 rfl rfl (same_ok (lkM_solo muChk muExt muFn hs hne) hg ⟨hx.1,by omega⟩ ⟨hy.1,by omega⟩ hlen hu fun σ2 q1 q2=>?_)
  refine Resume.run lay [] ?_;simp;refine .less (fun c x hx=>?_) (.done h)
  have c1:c≠b:=fun e=>by subst e;rw[hfr.1] at hx;cases hx
  have c2:c≠mb:=fun e=>by subst e;rw[hfr.2] at hx;cases hx
  exact q2 c x (hle c x hx) c1 (.inl c2)
theorem Count_ok (hs:m.solo=true) {f:Fr} (hf:f.Fits) (hc:check f=0) (hlen:(waysOf f [0,0]).length<1000000000∧(waysOf f [0,1]).length<1000000000) (h:KF (.val (.tup [int (countOf f),int 0])) σ):FnOK Tryz.prog m 9 [fairA f] σ KF:=by
  have hg:=Fr.good hf hc;have ho:=openErr_nil hc;refine FnOK.start lay [] [] 1 Tryz.func9 rfl rfl (by rfl) (by kernel_rfl) ?_
  simp[Tryz.f9];have hW:Wl [AV.agg (fairL f),AV.lit (.slice none 0 0)] [fairA f,ints []]:=.cons (.refl _) (.cons (W_nil 1) .nil);refine callFnW Tryz.func25 rfl rfl hW (open_ok hf (by simp) (fun q=>absurd ho q) fun _ b mb σ' hn=>?_)
  have hu:UnS b 6 mb .u8 (Known f) σ':=by
    rw[hn.eq];exact⟨Store.set_same _ _ _,[],(Store.set_ne _ _ (Ne.symm hn.ne)).trans (Store.set_same _ _ _),fun n a h=>by simp[alook] at h⟩
  refine Resume.run lay [] ?_;simp;refine callFn Tryz.func26 rfl rfl (count_ok hs hg hlen hn.ne hu fun σ2 q1 q2=>?_)
  refine Resume.run lay [] ?_;simp;refine .less (fun c x hx=>?_) (.done h)
  have c1:c≠b:=fun e=>by subst e;rw[hn.hb] at hx;cases hx
  have c2:c≠mb:=fun e=>by subst e;rw[hn.hmb] at hx;cases hx
  exact q2 c x (hn.le c x hx) c1 (.inl c2)
theorem Can_ok {f:Fr} {l:List Int} (hf:f.Fits) (hc:check f=0) (hl:Lst f l) (h20:l.length<20) (h:KF (.val (.tup [bool (decide (whyN f l=0)),int 0])) σ):FnOK Tryz.prog m 28 [fairA f,ints l] σ KF:=by
  refine FnOK.start lay [] [] 2 Tryz.func28 rfl rfl (by rfl) (by kernel_rfl) ?_
  simp[Tryz.f28];refine callFn Tryz.func49 rfl rfl (listed_ok hf hc hl fun b mb σ' hn=>?_)
  refine Resume.run lay [] ?_;simp;refine callFn Tryz.func50 rfl rfl (why_ok (Fr.good hf hc) ⟨hl.mem,hl.ne,hl.len⟩ h20 ?_);refine Resume.run lay [] ?_;simp;refine os_ifaceNil lay rfl tt103 rfl (isNil:=decide (whyN f l=0)) ?_ (.inl ⟨rfl,rfl⟩) ?_
  . by_cases hw:whyN f l=0
    . left
      refine⟨?_,by simp[hw]⟩
      simp[hw];rfl
    . right
      obtain⟨d,a,e⟩:=whyA_ifc hw;refine⟨⟨d,a,?_⟩,by simp[hw]⟩
      rw[← e];simp
  refine Resume.run lay [] ?_;simp;exact .less hn.le (.done h)
end Go.Proofs.YtibjfmfdjncniaaGreatDoor

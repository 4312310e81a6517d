/- Part 32 of the proof. -/
import Derived.Test.YtalogdafegmilaaGreatDoorC31
set_option linter.all false
namespace Go.Proofs.YtalogdafegmilaaGreatDoor
open Go.aN Go.Conc
set_option maxHeartbeats 1000000
set_option maxRecDepth 4000
variable{m:Mo}{σ:aa}{KF:cL->aa->Prop}
section
variable{b mb:Nat}{f:Fr}{begun:List Int}{y:AV}{W:List (List Int)}{I:Nat->(Nat->Prop)->aa->Prop}{E:(Nat->Prop)->aa->Prop}{Un:aa->Prop}{Ld:aa->List (Int × AV)->Prop}{c4 cg cp:Nat}
def mJ(f:Fr)(begun:List Int)(fuel:Nat)(cd:List Int)(many:Int)(hs:List Int)(k:Nat):List (List Int):=
 if cd.length<begun.length/\begun.getD cd.length 0≠(k:Int)then[]
 else if gO f (bq (hs.getD k 0) cd.length)=true then cV f begun fuel (cd++[(k:Int)]) (max many ((k:Int)+1)) (hs.set k (bq (hs.getD k 0) cd.length))else[]
theorem na(f:Fr)(begun:List Int)(fuel:Nat)(cd:List Int)(many:Int)(hs:List Int):cV f begun (fuel+1) cd many hs=(List.range (min (many+1) f.most).toNat).flatMap (mJ f begun fuel cd many hs):=rfl
theorem Bw(K:Nat->List (List Int)){k cnt:Nat}(h:k<cnt):∃rest,(List.range cnt).flatMap K=(List.range k).flatMap K++(K k++rest):=by
 obtain⟨n,rfl⟩:∃n,cnt=k+1+n:=⟨cnt-(k+1),by omega⟩;induction n with
 |zero=>exact⟨[],by rw[Nat.add_zero,List.range_succ,List.flatMap_append];simp⟩
 | succ n ih=>
   obtain⟨rest,hr⟩:=ih (by omega);refine⟨rest++K (k+1+n),?_⟩;rw[show k+1+(n+1)=(k+1+n)+1 by omega,List.range_succ,List.flatMap_append,hr];simp
theorem KO(LK:Dj Tryz.prog m nn b 6 mb .u8 (dm f) Un Ld)(hf:f.Good)(hbg:begun.length<1152921504606846976)(Y:JM m y W I E)(hyc:y.cells=[y]):∀fuel:Nat,IB m b mb f begun y W I E Un c4 cg cp fuel:=by
 have h6:=hf.pi;have hmo:=hf.most;intro fuel
 induction fuel with
 | zero=>
   intro cd many hs sp F σ pre post KF hlen hmany hh hw hu hW hI hR;have hl:(cd.length:Int)=f.az.length:=by omega
   refine aA.start lay [] [] 6 Tryz.func91 rfl rfl (by rfl) (by kernel_rfl) ?_
   simp[Tryz.f91,hl,hyc];have hk:pre.length<W.length:=by rw[hW];simp[cV]
   have hWk:W[pre.length]=cd:=by subst hW;simp[cV]
   refine dC.weaken (args':=[ints cd]) ?_ ⟨gK 1 _ sp,trivial⟩;rw[<-hWk];refine Y.step pre.length F σ _ hk hI (λF' σ' h1 h2=>?_) (λF' σ' h1 h2=>?_)
   . refine ab.run lay [] ?_
     simp;exact .done (hR.1 F' σ' (Bu h1) (vQ LK hu h1 (λc hc=>Y.Lv _ _ _ c hI hc)) h2)
   . refine ab.run lay [] ?_
     simp;exact .done (hR.2 F' σ' (Bu h1) (vQ LK hu h1 (λc hc=>Y.Lv _ _ _ c hI hc)) h2)
 | succ fuel ihf=>
   intro cd many hs sp F σ pre post KF hlen hmany hh hw hu hW hI hR;have hl:((cd.length:Int)==f.az.length)=false:=by rw[beq_eq_false_iff_ne];omega
   have hsp:=hw.pt;rw[na]at hW hR;obtain⟨cnt,hcnt⟩:∃cnt:Nat,cnt=(min (many+1) f.most).toNat:=⟨_,rfl⟩;rw[<-hcnt]at hW hR;have hmin:(if f.most<many+1 then f.most else many+1)=(cnt:Int):=by rw[hcnt];split<;>omega
   have hc6:cnt<=6:=by omega
   have m1:-9223372036854775808<=many+1/\many+1<=9223372036854775807:=by omega
   refine aA.start lay [] [] 6 Tryz.func91 rfl rfl (by rfl) (by kernel_rfl) ?_
   simp[Tryz.f91,hl,m1.1,m1.2,hmin];refine ab.loop cnt (λk s=>∃env σ' F',s=⟨env,σ',[],.no⟩/\env 0=.sl 1 (cd.map int) sp/\env 1=int many/\env 2=.cp (iF b mb f 0) 0/\env 4=.cp (ints begun) 0/\env 5=.ref cp 0/\env 29=int cnt/\env 30=int k/\Mv b mb F F' σ σ'/\Un σ'/\I (pre.length+((List.range k).flatMap (mJ f begun fuel cd many hs)).length) F' σ') ⟨_,_,F,rfl,by simp,by simp,by simp,by simp,by simp,by simp,by simp,Mv.refl b mb F σ,hu,hI⟩ ?_
   rintro c0 k _ hk ⟨env,σ',F',rfl,h0,h1,h2,h4,h5,h29,h30,hmv,hu',hI'⟩ ih
   rcases Nat.lt_or_ge k cnt with g1|g1
   . have hw':=hw.mv (LK.JN hu) hmv
     have hsp':=hw'.pt;obtain⟨rest,hsplit⟩:=Bw (mJ f begun fuel cd many hs) g1
     have hnext:((List.range (k+1)).flatMap (mJ f begun fuel cd many hs)).length=((List.range k).flatMap (mJ f begun fuel cd many hs)).length+(mJ f begun fuel cd many hs k).length:=by rw[List.range_succ,List.flatMap_append,List.length_append];simp
     by_cases g2:cd.length<begun.length/\begun.getD cd.length 0≠(k:Int)
     . have hK:mJ f begun fuel cd many hs k=[]:=if_pos g2
       have e1:begun.getD cd.length 0=begun[cd.length]:=by simp[List.getD_eq_getElem?_getD,g2.1]
       have e2:(begun[cd.length] !=(k:Int))=true:=by have:=g2.2;rw[e1]at this;simpa using this
       refine ab.run lay [] ?_;simp[h0,h1,h2,h4,h5,h29,h30,g1,g2.1,e2];refine⟨by omega,ih _ g1 ⟨_,_,F',rfl,by simp[h0,h1,h2,h4,h5,h29,h30],by simp[h0,h1,h2,h4,h5,h29,h30],by simp[h0,h1,h2,h4,h5,h29,h30],by simp[h0,h1,h2,h4,h5,h29,h30],by simp[h0,h1,h2,h4,h5,h29,h30],by simp[h0,h1,h2,h4,h5,h29,h30],by simp,hmv,hu',?_⟩⟩
       rw[hnext,hK];exact hI'
     . have hK:mJ f begun fuel cd many hs k=if gO f (bq (hs.getD k 0) cd.length)=true then cV f begun fuel (cd++[(k:Int)]) (max many ((k:Int)+1)) (hs.set k (bq (hs.getD k 0) cd.length))else[]:=if_neg g2
       have hcall:∀KF':cL->aa->Prop,(∀(v:Bool) σ2 F2,Mv b mb F F2 σ σ2->Un σ2->(v=true->I (pre.length+((List.range (k+1)).flatMap (mJ f begun fuel cd many hs)).length) F2 σ2)->(v=false->E F2 σ2)->KF' (.val (bool v)) σ2)->aA Tryz.prog m 87 [.sl 1 (cd.map int) sp,int many,int k,.ref c4 0,.cp (iF b mb f 0) 0,.ref cg 0] σ' KF':=λKF' hKF=>by
        refine Mq LK hf hbg Y ihf (pre:=pre++(List.range k).flatMap (mJ f begun fuel cd many hs)) (post:=rest++post) hlen hmany (by omega) hh hw' hu' hK (by rw[hW,hsplit];simp) (by rw[List.length_append];exact hI') ⟨λF2 σ2 q1 q2 q3=>?_,λF2 σ2 q1 q2 q3=>?_⟩
        . refine hKF true σ2 F2 (hmv.trans q1) q2 (λ_=>?_) (λe=>by cases e)
          rw[hnext,<-Nat.add_assoc,<-List.length_append];exact q3
        . exact hKF false σ2 F2 (hmv.trans q1) q2 (λe=>by cases e) (λ_=>q3)
       by_cases g3:cd.length<begun.length
       . have e1:begun.getD cd.length 0=begun[cd.length]:=by simp[List.getD_eq_getElem?_getD,g3]
         have e2:(begun[cd.length] !=(k:Int))=false:=by
          have:begun[cd.length]=(k:Int):=by rw[<-e1];exact Classical.byContradiction λq=>g2 ⟨g3,q⟩
          simp[this]
         refine ab.run lay [] ?_;simp[h0,h1,h2,h4,h5,h29,h30,g1,g3,e2,hsp'];refine dJ Tryz.func87 rfl rfl (by simp) (hcall _ λv σ2 F2 q1 q2 q3 q4=>?_)
         cases v
         . refine ab.run lay [] ?_
           simp[h0,h1,h2,h4,h5,h29,h30];exact .done (hR.2 F2 σ2 q1 q2 (q4 rfl))
         . refine ab.run lay [] ?_
           simp[h0,h1,h2,h4,h5,h29,h30];exact⟨by omega,ih _ g1 ⟨_,_,F2,rfl,by simp[h0,h1,h2,h4,h5,h29,h30],by simp[h0,h1,h2,h4,h5,h29,h30],by simp[h0,h1,h2,h4,h5,h29,h30],by simp[h0,h1,h2,h4,h5,h29,h30],by simp[h0,h1,h2,h4,h5,h29,h30],by simp[h0,h1,h2,h4,h5,h29,h30],by simp,q1,q2,q3 rfl⟩⟩
       . refine ab.run lay [] ?_
         simp[h0,h1,h2,h4,h5,h29,h30,g1,g3,hsp'];refine dJ Tryz.func87 rfl rfl (by simp) (hcall _ λv σ2 F2 q1 q2 q3 q4=>?_)
         cases v
         . refine ab.run lay [] ?_
           simp[h0,h1,h2,h4,h5,h29,h30];exact .done (hR.2 F2 σ2 q1 q2 (q4 rfl))
         . refine ab.run lay [] ?_
           simp[h0,h1,h2,h4,h5,h29,h30];exact⟨by omega,ih _ g1 ⟨_,_,F2,rfl,by simp[h0,h1,h2,h4,h5,h29,h30],by simp[h0,h1,h2,h4,h5,h29,h30],by simp[h0,h1,h2,h4,h5,h29,h30],by simp[h0,h1,h2,h4,h5,h29,h30],by simp[h0,h1,h2,h4,h5,h29,h30],by simp[h0,h1,h2,h4,h5,h29,h30],by simp,q1,q2,q3 rfl⟩⟩
   . have:k=cnt:=by omega
     subst this;refine ab.run lay [] ?_;simp[h0,h1,h2,h4,h5,h29,h30];exact .done (hR.1 F' σ' hmv hu' hI')
end
end Go.Proofs.YtalogdafegmilaaGreatDoor
namespace Go.Proofs.YtalogdafegmilaaGreatDoor
open Go.aN Go.Conc
set_option maxHeartbeats 1000000
set_option maxRecDepth 4000
variable{m:Mo}{σ:aa}{KF:cL->aa->Prop}
section
variable{b mb:Nat}{f:Fr}{begun:List Int}{y:AV}{I:Nat->(Nat->Prop)->aa->Prop}{E:(Nat->Prop)->aa->Prop}{Un:aa->Prop}{Ld:aa->List (Int × AV)->Prop}
theorem oI{sp:cM}(h:KF (.val (.fn (.func 86) [] [.cp (iF b mb f 0) 0,.cp (.sl 1 (begun.map int) sp) 0])) σ):aA Tryz.prog m 57 [iF b mb f 0,.sl 1 (begun.map int) sp] σ KF:=by
 refine aA.start lay [] [] 2 Tryz.func57 rfl rfl (by rfl) (by kernel_rfl) ?_;simp[Tryz.f57];exact .done h
theorem ST(f:Fr):Hs f 0 [0,0,0,0,0,0]:=by
 refine⟨rfl,λx hx e he=>?_,λx hx=>?_⟩
 . have hb:bU 0=[]:=by decide +kernel
   simp at hx;subst hx;rw[hb]at he;cases he
 . simp at hx;subst hx;omega
theorem Mv.le{F F':Nat->Prop}{σ0 σ':aa}(h:Mv b mb F F' σ σ')(hle:σ0.Le σ):Mv b mb F F' σ0 σ':=λc x h1 h2 h3 h4=>h c x (hle c x h1) h2 h3 h4
theorem mp(LK:Dj Tryz.prog m nn b 6 mb .u8 (dm f) Un Ld)(hf:f.Good)(hbg:begun.length<1152921504606846976)(Y:JM m y (ak f begun) I E)(hyc:y.cells=[y]/\y.flat=true){F:Nat->Prop}(hu:Un σ)(hI:I 0 F σ)
 (h:∀F' σ',Mv b mb F F' σ σ'->Un σ'->(I (ak f begun).length F' σ'\/E F' σ')->KF (.val (.c9 [])) σ'):aA Tryz.prog m 86 [y,.cp (iF b mb f 0) 0,.cp (ints begun) 0] σ KF:=by
 refine aA.start lay [] [] 3 Tryz.func86 rfl rfl (by rfl) (by kernel_rfl) ?_
 simp[Tryz.f86,hyc.1,hyc.2];refine cT.intro λc4 h4=>?_
 simp;refine cT.intro λcg hg=>?_
 obtain⟨n1,n2,hg⟩:=aa.aO hg;simp;refine cT.intro λcp hp=>?_
 obtain⟨n3,n4,hp⟩:=aa.aO hp;obtain⟨n5,n6,hp⟩:=aa.aO hp;simp[n1,n2,n3,n4,n5,n6,aa.ai,hyc.1,hyc.2];have hle:σ.Le ((((σ.set c4 (.cells [u8 0,u8 0,u8 0,u8 0,u8 0,u8 0])).set cg (.cells [.lit .nilFunc])).set cp (.cells [bd (iF b mb f 0) c4 cg])).set cg (.cells [vR (iF b mb f 0) y begun cp])):=(by repeat (first|exact aa.le_refl _|assumption|refine aa.ig ?_ (by assumption)|refine aa.jm ?_ (by assumption)))
 have s4:((((σ.set c4 (.cells [u8 0,u8 0,u8 0,u8 0,u8 0,u8 0])).set cg (.cells [.lit .nilFunc])).set cp (.cells [bd (iF b mb f 0) c4 cg])).set cg (.cells [vR (iF b mb f 0) y begun cp])) c4=some (.cells (([0,0,0,0,0,0]:List Int).map u8)):=by simp[n1,n2,n3,n4,n5,n6,aa.ai]
 have sg:((((σ.set c4 (.cells [u8 0,u8 0,u8 0,u8 0,u8 0,u8 0])).set cg (.cells [.lit .nilFunc])).set cp (.cells [bd (iF b mb f 0) c4 cg])).set cg (.cells [vR (iF b mb f 0) y begun cp])) cg=some (.cells [vR (iF b mb f 0) y begun cp]):=by simp
 have sp:((((σ.set c4 (.cells [u8 0,u8 0,u8 0,u8 0,u8 0,u8 0])).set cg (.cells [.lit .nilFunc])).set cp (.cells [bd (iF b mb f 0) c4 cg])).set cg (.cells [vR (iF b mb f 0) y begun cp])) cp=some (.cells [bd (iF b mb f 0) c4 cg]):=by simp[n1,n2,n3,n4,n5,n6,aa.ai]
 have hnF:∀c,σ c=none -> ¬F c:=λc hc hF=>by obtain⟨x,hx,_⟩:=Y.Lv _ _ _ _ hI hF;rw[hc]at hx;cases hx
 refine dC.weaken (args':=[.sl 1 (([]:List Int).map int) .any,int 0]) ?_ ⟨fT 1,.refl _,trivial⟩
 refine dJ Tryz.func91 rfl rfl rfl (KO (y:=y) LK hf hbg Y hyc.1 f.az.length [] 0 [0,0,0,0,0,0] .any F _ [] [] _ (by simp) (by omega) (ST f) ⟨s4,sg,sp,⟨hnF _ h4,hnF _ hg,hnF _ hp⟩,⟨n2,n6⟩⟩ (LK.un (λc _ ⟨x,h1,_⟩=>by rw[h1];exact hle _ _ h1) hu) (by simp[ak]) (Y.frame _ _ _ _ (λc hc=>by obtain⟨x,hx,_⟩:=Y.Lv _ _ _ _ hI hc;rw[hx];exact hle _ _ hx) hI) ⟨λF' σ' q1 q2 q3=>?_,λF' σ' q1 q2 q3=>?_⟩)
 . refine ab.run lay [] ?_
   simp;refine .done (h F' σ' (q1.le hle) q2 (.inl ?_));simpa[ak]using q3
 . refine ab.run lay [] ?_
   simp;exact .done (h F' σ' (q1.le hle) q2 (.inr q3))
end
end Go.Proofs.YtalogdafegmilaaGreatDoor
namespace Go.Proofs.YtalogdafegmilaaGreatDoor
open Go.aN Go.Conc
set_option maxHeartbeats 1000000
set_option maxRecDepth 4000
variable{m:Mo}{σ:aa}{KF:cL->aa->Prop}
section
variable{b mb:Nat}{f:Fr}{Un:aa->Prop}{Ld:aa->List (Int × AV)->Prop}
theorem yu(LK:Dj Tryz.prog m nn b 6 mb .u8 (dm f) Un Ld)(hf:f.Good)(hu:Un σ)(h:∀σ',Un σ'->j8 b mb σ σ'->KF (.val (bool (decide (ak f []≠[])))) σ'):aA Tryz.prog m 53 [iF b mb f 0] σ KF:=by
 refine aA.start lay [] [] 1 Tryz.func53 rfl rfl (by rfl) (by kernel_rfl) ?_
 simp[Tryz.f53];refine cT.intro λc3 h3=>?_
 simp;have hW:Wl [iF b mb f 0,AV.lit (.slice none 0 0)] [iF b mb f 0,ints []]:=.cons (.refl _) (.cons (fT 1) .nil);refine bs Tryz.func57 rfl rfl hW (oI (begun:=[]) ?_);refine ab.run lay [] ?_;simp;refine ab.rangeFunc rfl λhpl r l hr hl hrl=>?_
 obtain⟨r1,r2,hr⟩:=aa.aO hr;obtain⟨l1,l2,hl⟩:=aa.aO hl;generalize hal:ln.mk _ _ _ _ _ _ _ _ _=al
 have hY:JM m (.fn (.yield l) [] []) (ak f []) (λk F σ'=>k=0/\(∀c,F c↔c=l\/c=c3)/\σ' l=some (.loop al)/\σ' c3=some (.cells [bool false])) (λF σ'=>ak f []≠[]/\(∀c,F c↔c=l\/c=c3)/\σ' l=some (.loop {al with state:=.done,pending:=some (.exit 0)})/\σ' c3=some (.cells [bool true])):=by
  refine⟨λk F σ' KF' hk hI hT hF=>?_,λk F σ1 σ2 he hI=>?_,λF σ1 σ2 he hI=>?_,λk F σ' c hI hc=>?_⟩
  . obtain⟨rfl,hFd,g1,g2⟩:=hI
    have e3:∀x,(σ'.set l x) c3=some (.cells [bool false]):=λx=>by rw[aa.ai _ _ l2];exact g2
    subst hal;refine dC.rR (hold:=[]) hpl Tryz.func53 g1 rfl ?_;refine ab.run lay [] ?_;simp[fI];refine ab.beginRound g1 rfl ?_;refine ab.run lay [] ?_;simp[fI,e3];have hne:ak f []≠[]:=λe=>by rw[e]at hk;cases hk
    refine⟨rfl,rfl,_,((aa.ai _ _ l1).trans (aa.ao _ _ _)),?_⟩;refine hF F _ (λc x hc hx=>⟨?_,hc⟩) ⟨hne,hFd,aa.ao _ _ _,(aa.ai _ _ l2).trans (aa.ao _ _ _)⟩
    have c1:c≠l:=λe=>hc ((hFd c).2 (.inl e))
    have c2:c≠c3:=λe=>hc ((hFd c).2 (.inr e))
    exact(aa.ai _ _ c1).trans ((aa.ai _ _ c2).trans ((aa.ai _ _ c1).trans hx))
  . obtain⟨rfl,hFd,g1,g2⟩:=hI
    exact⟨rfl,hFd,by rw[he l ((hFd l).2 (.inl rfl))];exact g1,by rw[he c3 ((hFd c3).2 (.inr rfl))];exact g2⟩
  . obtain⟨q,hFd,g1,g2⟩:=hI
    exact⟨q,hFd,by rw[he l ((hFd l).2 (.inl rfl))];exact g1,by rw[he c3 ((hFd c3).2 (.inr rfl))];exact g2⟩
  . obtain⟨rfl,hFd,g1,g2⟩:=hI
    rcases(hFd c).1 hc with rfl|rfl
    . exact⟨_,g1,rfl⟩
    . exact⟨_,g2,rfl⟩
 obtain⟨xb,hxb,hpb⟩:=LK.JN hu;have nb:∀c,σ c=none->c≠b:=λc hc e=>by subst e;rw[hc]at hxb;cases hxb
 have hle:σ.Le (((σ.set c3 (.cells [bool false])).set r (.raw (.deferred (some [])))).set l (.loop al)):=(by repeat (first|exact aa.le_refl _|assumption|refine aa.ig ?_ (by assumption)|refine aa.jm ?_ (by assumption)))
 have sr:(((σ.set c3 (.cells [bool false])).set r (.raw (.deferred (some [])))).set l (.loop al)) r=some (.raw (.deferred (some []))):=by rw[aa.ai _ _ hrl,aa.ao]
 refine dJ Tryz.func86 rfl rfl rfl (mp (F:=λc=>c=l\/c=c3) LK hf (by simp) hY ⟨rfl,rfl⟩ (LK.un (λc _ ⟨x,h1,_⟩=>(hle _ _ h1).trans h1.symm) hu) ⟨rfl,λc=>Iff.rfl,aa.ao _ _ _,(aa.ai _ _ l2).trans ((aa.ai _ _ r2).trans (aa.ao _ _ _))⟩ λF' σ' hmv hu' hend=>?_)
 have hr':=(hmv r _ sr (λe=>by rcases e with e|e;exact hrl e;exact r1 e) (nb r hr) (.inr rfl)).1
 have hkeep:j8 b mb σ σ':=λc x h1 h2 h3'=>(hmv c x (hle c x h1) (λe=>by rcases e with e|e<;>subst e<;>simp_all) h2 h3').1
 have hfinS:∀σ2,σ2=(σ'.del l).set r (.raw (.deferred none))->Un σ2/\j8 b mb σ σ2:=λσ2 e=>by
  subst e;refine⟨LK.un (σ:=σ') (λc _ ⟨x,h1,h2⟩=>?_) hu',λc x h1 h2 h3'=>?_⟩
  . have c1:c≠r:=λe=>by subst e;rw[hr']at h1;cases h1;cases h2
    have c2:c≠l:=λe=>by
     subst e
     rcases hend with⟨_,_,g,_⟩|⟨_,_,g,_⟩<;>rw[g]at h1<;>cases h1<;>cases h2
    rw[aa.ai _ _ c1];simp[aa.del,c2]
  . have c1:c≠r:=λe=>by subst e;rw[hr]at h1;cases h1
    have c2:c≠l:=λe=>by subst e;rw[hl]at h1;cases h1
    rw[aa.ai _ _ c1];simp only[aa.del,c2,if_false];exact hkeep c x h1 h2 h3'
 rcases hend with⟨q0,_,q1,q2⟩|⟨q0,_,q1,q2⟩
 . have hv:decide (ak f []≠[])=false:=by simp[List.length_eq_zero_iff.1 q0]
   rw[hv]at h;subst hal;refine⟨_,q1,by simp,rfl,?_⟩
   have q2':(σ'.del l) c3=some (.cells [bool false]):=by simp only[aa.del,l2,Ne.symm l2,if_false];simpa[l2,Ne.symm l2]using q2
   refine ab.run lay [] ?_;simp[q2'];refine⟨by simp only[aa.del,hrl,if_false];exact hr',.done ?_⟩
   obtain⟨e1,e2⟩:=hfinS _ rfl;exact h _ e1 e2
 . have hv:decide (ak f []≠[])=true:=by simp[q0]
   rw[hv]at h;subst hal;refine⟨_,q1,by simp,rfl,?_⟩
   have q2':(σ'.del l) c3=some (.cells [bool true]):=by simp only[aa.del,l2,Ne.symm l2,if_false];simpa[l2,Ne.symm l2]using q2
   refine ab.run lay [] ?_;simp[q2'];refine⟨by simp only[aa.del,hrl,if_false];exact hr',.done ?_⟩
   obtain⟨e1,e2⟩:=hfinS _ rfl;exact h _ e1 e2
end
end Go.Proofs.YtalogdafegmilaaGreatDoor
namespace Go.Proofs.YtalogdafegmilaaGreatDoor
open Go Go.aN
set_option maxRecDepth 100000
abbrev ng:Gj:=⟨77,79,81,99,100,111,98,106,114,101,128,129,130,131,115,110,156,158,163⟩
theorem IE:∀(b:Nat) (kind:CallKind),aR (A0 Tryz.prog ng b kind).1=some (ng.iV,[])/\(A0 Tryz.prog ng b kind).1.env.all plain=true/\(A0 Tryz.prog ng b kind).2=[]/\(A0 Tryz.prog ng b kind).1.kind=kind:=by intro b kind;exact⟨by kernel_rfl,by kernel_rfl,by kernel_rfl,by kernel_rfl⟩
theorem IF:∀(b:Nat) (kind:CallKind),aR (A1 Tryz.prog ng b kind).1=some (ng.J9,[])/\(A1 Tryz.prog ng b kind).1.env.all plain=true/\(A1 Tryz.prog ng b kind).2=[]/\(A1 Tryz.prog ng b kind).1.kind=kind:=by intro b kind;exact⟨by kernel_rfl,by kernel_rfl,by kernel_rfl,by kernel_rfl⟩
theorem IG:∀(b:Nat) (kind:CallKind),aR (A2 Tryz.prog ng b kind).1=some (ng.qY,[pt b 0,u64 4294967296])/\t7 (A2 Tryz.prog ng b kind)=true/\(A2 Tryz.prog ng b kind).1.env.all plain=true/\(A2 Tryz.prog ng b kind).2.all (·.env.all plain)=true:=by intro b kind;exact⟨by kernel_rfl,by kernel_rfl,by kernel_rfl,by kernel_rfl⟩
theorem II:∀(b:Nat) (kind:CallKind) (fl:Fl),jU (A3 Tryz.prog ng b kind (f1 fl true)).1=some (ng.tS,ng.tU,pt b 1):=by intro b kind fl;kernel_rfl
theorem IJ:∀(b:Nat) (kind:CallKind) (fl:Fl),aR (A4 Tryz.prog ng b kind (f1 fl true)).1=some (ng.rd,[pt b 1])/\(A4 Tryz.prog ng b kind (f1 fl true)).1.kind=kind:=by intro b kind fl;exact⟨by kernel_rfl,by kernel_rfl⟩
theorem IK:∀(b:Nat) (kind:CallKind) (fl:Fl),qf (A5 Tryz.prog ng b kind (f0 (f1 fl true) false)).1=some ng.en/\(A5 Tryz.prog ng b kind (f0 (f1 fl true) false)).2=[]/\(A5 Tryz.prog ng b kind (f0 (f1 fl true) false)).1.kind=kind/\(A5 Tryz.prog ng b kind (f0 (f1 fl true) false)).1.fn=ng.add:=by intro b kind fl;exact⟨by kernel_rfl,by kernel_rfl,by kernel_rfl,by kernel_rfl⟩
theorem IL:∀(b:Nat) (kind:CallKind) (fl:Fl),qf (A3 Tryz.prog ng b kind (f0 (f1 fl false) false)).1=some ng.en/\(A3 Tryz.prog ng b kind (f0 (f1 fl false) false)).2=[]/\(A3 Tryz.prog ng b kind (f0 (f1 fl false) false)).1.kind=kind/\(A3 Tryz.prog ng b kind (f0 (f1 fl false) false)).1.fn=ng.add:=by intro b kind fl;exact⟨by kernel_rfl,by kernel_rfl,by kernel_rfl,by kernel_rfl⟩
theorem IM:∀(b:Nat),jU (D0 Tryz.prog ng b).1=some (ng.tG,ng.tU,pt b 0)/\(D0 Tryz.prog ng b).1.env.all plain=true/\(D0 Tryz.prog ng b).2.all (·.env.all plain)=true:=by intro b;exact⟨by kernel_rfl,by kernel_rfl,by kernel_rfl⟩
theorem IN:∀(b:Nat),aR (D1 Tryz.prog ng b).1=some (ng.rel,[pt b 0])/\t7 (D1 Tryz.prog ng b)=true/\(D1 Tryz.prog ng b).1.env.all plain=true/\(D1 Tryz.prog ng b).2.all (·.env.all plain)=true:=by intro b;exact⟨by kernel_rfl,by kernel_rfl,by kernel_rfl,by kernel_rfl⟩
theorem IP:∀(b:Nat),aR (D2 Tryz.prog ng b).1=some (ng.iV,[])/\t7 (D2 Tryz.prog ng b)=true/\(D2 Tryz.prog ng b).1.env.all plain=true/\(D2 Tryz.prog ng b).2.all (·.env.all plain)=true:=by intro b;exact⟨by kernel_rfl,by kernel_rfl,by kernel_rfl,by kernel_rfl⟩
theorem IQ:∀(b:Nat),aR (D3 Tryz.prog ng b).1=some (ng.J9,[])/\t7 (D3 Tryz.prog ng b)=true/\(D3 Tryz.prog ng b).1.env.all plain=true/\(D3 Tryz.prog ng b).2.all (·.env.all plain)=true:=by intro b;exact⟨by kernel_rfl,by kernel_rfl,by kernel_rfl,by kernel_rfl⟩
theorem IR:∀(b:Nat),aR (D4 Tryz.prog ng b).1=some (ng.qY,[pt b 0,u64 18446744069414584320])/\t7 (D4 Tryz.prog ng b)=true/\(D4 Tryz.prog ng b).1.env.all plain=true/\(D4 Tryz.prog ng b).2.all (·.env.all plain)=true:=by intro b;exact⟨by kernel_rfl,by kernel_rfl,by kernel_rfl,by kernel_rfl⟩
theorem IS:∀(b:Nat) (fl:Fl) (x:Bool),qf (DE Tryz.prog ng b (f0 fl x) 0).1=some ng.en:=by intro b fl x;cases x<;>kernel_rfl
theorem F9:∀(b:Nat) (fl:Fl) (x:Bool),jH (lg Tryz.prog (f0 fl x) (DE Tryz.prog ng b (f0 fl x) 0)).1 ng.done=true/\(lg Tryz.prog (f0 fl x) (DE Tryz.prog ng b (f0 fl x) 0)).2=[]/\(lg Tryz.prog (f0 fl x) (DE Tryz.prog ng b (f0 fl x) 0)).1.kind=.deferred:=by intro b fl x;cases x<;>exact⟨by kernel_rfl,by kernel_rfl,by kernel_rfl⟩
theorem IT:∀(b:Nat) (fl:Fl),qf (DE Tryz.prog ng b (f0 fl false) 1).1=some ng.en:=by intro b fl;kernel_rfl
theorem Ga:∀(b:Nat) (fl:Fl),jH (lg Tryz.prog (f0 fl false) (DE Tryz.prog ng b (f0 fl false) 1)).1 ng.done=true/\(lg Tryz.prog (f0 fl false) (DE Tryz.prog ng b (f0 fl false) 1)).2=[]/\(lg Tryz.prog (f0 fl false) (DE Tryz.prog ng b (f0 fl false) 1)).1.kind=.deferred:=by intro b fl;exact⟨by kernel_rfl,by kernel_rfl,by kernel_rfl⟩
theorem IU:∀(b:Nat) (fl:Fl),aR (DE Tryz.prog ng b (f0 fl true) 1).1=some (ng.tK,[pt b 0])/\t7 (DE Tryz.prog ng b (f0 fl true) 1)=true:=by intro b fl;exact⟨by kernel_rfl,by kernel_rfl⟩
theorem IV:∀(b:Nat) (fl:Fl),aR (D6 Tryz.prog ng b (f0 fl true)).1=some (ng.EP,[pt b 0,u64 0])/\t7 (D6 Tryz.prog ng b (f0 fl true))=true:=by intro b fl;exact⟨by kernel_rfl,by kernel_rfl⟩
theorem IW:∀(b:Nat) (fl:Fl),aR (D7 Tryz.prog ng b (f0 fl true)).1=some (ng.mU,[pt b 1,ff,i64 0])/\t7 (D7 Tryz.prog ng b (f0 fl true))=true:=by intro b fl;exact⟨by kernel_rfl,by kernel_rfl⟩
theorem IX:∀(b:Nat) (fl:Fl),qf (D8 Tryz.prog ng b (f0 fl true)).1=some ng.en:=by intro b fl;kernel_rfl
theorem IY:∀(b:Nat) (fl:Fl),jH (lg Tryz.prog (f0 fl true) (D8 Tryz.prog ng b (f0 fl true))).1 ng.done=true/\(lg Tryz.prog (f0 fl true) (D8 Tryz.prog ng b (f0 fl true))).2=[]/\(lg Tryz.prog (f0 fl true) (D8 Tryz.prog ng b (f0 fl true))).1.kind=.deferred:=by intro b fl;exact⟨by kernel_rfl,by kernel_rfl,by kernel_rfl⟩
theorem IZ:∀(b:Nat) (kind:CallKind),aR (W0 Tryz.prog ng b kind).1=some (ng.iV,[])/\(W0 Tryz.prog ng b kind).1.env.all plain=true/\(W0 Tryz.prog ng b kind).2=[]/\(W0 Tryz.prog ng b kind).1.kind=kind:=by intro b kind;exact⟨by kernel_rfl,by kernel_rfl,by kernel_rfl,by kernel_rfl⟩
theorem I0:∀(b:Nat) (kind:CallKind),aR (W1 Tryz.prog ng b kind).1=some (ng.tK,[pt b 0])/\t7 (W1 Tryz.prog ng b kind)=true/\(W1 Tryz.prog ng b kind).1.env.all plain=true/\(W1 Tryz.prog ng b kind).2.all (·.env.all plain)=true:=by intro b kind;exact⟨by kernel_rfl,by kernel_rfl,by kernel_rfl,by kernel_rfl⟩
theorem I1:∀(b:Nat) (kind:CallKind) (fl:Fl),aR (WE Tryz.prog ng b kind (f0 fl true)).1=some (ng.en,[])/\(WE Tryz.prog ng b kind (f0 fl true)).1.kind=kind:=by intro b kind fl;exact⟨by kernel_rfl,by kernel_rfl⟩
theorem I2:∀(b:Nat) (kind:CallKind) (fl:Fl),jU (WC Tryz.prog ng b kind (f0 fl true)).1=some (ng.tG,ng.tU,pt b 0):=by intro b kind fl;kernel_rfl
theorem I3:∀(b:Nat) (kind:CallKind) (fl:Fl),aR (WA Tryz.prog ng b kind (f0 fl true)).1=some (ng.acq,[pt b 0])/\(WA Tryz.prog ng b kind (f0 fl true)).1.kind=kind:=by intro b kind fl;exact⟨by kernel_rfl,by kernel_rfl⟩
theorem I4:∀(b:Nat) (kind:CallKind) (fl:Fl),jH (WB Tryz.prog ng b kind (f0 fl true)).1 ng.wait=true/\(WB Tryz.prog ng b kind (f0 fl true)).2=[]/\(WB Tryz.prog ng b kind (f0 fl true)).1.kind=kind:=by intro b kind fl;exact⟨by kernel_rfl,by kernel_rfl,by kernel_rfl⟩
theorem I5:∀(b:Nat) (kind:CallKind) (fl:Fl),aR (WE Tryz.prog ng b kind (f0 fl false)).1=some (ng.vf,[pt b 0,.dO 0,.dO 1])/\t7 (WE Tryz.prog ng b kind (f0 fl false))=true:=by intro b kind fl;exact⟨by kernel_rfl,by kernel_rfl⟩
theorem I6:∀(b:Nat) (kind:CallKind) (fl:Fl),DK [5] [[0]] (next Tryz.prog (f0 fl false) (WE Tryz.prog ng b kind (f0 fl false)) ff)=W1 Tryz.prog ng b kind:=by intro b kind fl;kernel_rfl
theorem I7:∀(b:Nat) (kind:CallKind) (fl:Fl),jU (W3 Tryz.prog ng b kind (f0 fl false)).1=some (ng.tS,ng.tU,pt b 1):=by intro b kind fl;kernel_rfl
theorem I8:∀(b:Nat) (kind:CallKind) (fl:Fl),aR (Nb Tryz.prog ng b kind (f0 fl false)).1=some (ng.wr,[pt b 1])/\(Nb Tryz.prog ng b kind (f0 fl false)).1.kind=kind:=by intro b kind fl;exact⟨by kernel_rfl,by kernel_rfl⟩
theorem I9:∀(b:Nat) (kind:CallKind) (fl:Fl),aR (W4 Tryz.prog ng b kind (f0 fl false)).1=some (ng.Cp,[pt b 1,ff])/\(W4 Tryz.prog ng b kind (f0 fl false)).1.kind=kind:=by intro b kind fl;exact⟨by kernel_rfl,by kernel_rfl⟩
theorem I':∀(b:Nat) (kind:CallKind) (fl:Fl),aR (W5 Tryz.prog ng b kind (f0 fl false)).1=some (ng.tK,[pt b 0])/\t7 (W5 Tryz.prog ng b kind (f0 fl false))=true:=by intro b kind fl;exact⟨by kernel_rfl,by kernel_rfl⟩
theorem Ja:∀(b:Nat) (kind:CallKind) (fl:Fl),aR (Nc Tryz.prog ng b kind (f0 fl false)).1=some (ng.en,[])/\(Nc Tryz.prog ng b kind (f0 fl false)).1.kind=kind:=by intro b kind fl;exact⟨by kernel_rfl,by kernel_rfl⟩
theorem Jb:∀(b:Nat) (kind:CallKind) (fl:Fl),jU (Oa Tryz.prog ng b kind (f0 fl false)).1=some (ng.tG,ng.tU,pt b 0):=by intro b kind fl;kernel_rfl
theorem Jc:∀(b:Nat) (kind:CallKind) (fl:Fl),aR (Nd Tryz.prog ng b kind (f0 fl false)).1=some (ng.acq,[pt b 0])/\(Nd Tryz.prog ng b kind (f0 fl false)).1.kind=kind:=by intro b kind fl;exact⟨by kernel_rfl,by kernel_rfl⟩
theorem Jd:∀(b:Nat) (kind:CallKind) (fl:Fl),jH (Lj Tryz.prog ng b kind (f0 fl false)).1 ng.wait=true/\(Lj Tryz.prog ng b kind (f0 fl false)).2=[]/\(Lj Tryz.prog ng b kind (f0 fl false)).1.kind=kind:=by intro b kind fl;exact⟨by kernel_rfl,by kernel_rfl,by kernel_rfl⟩
theorem OT:jg Tryz.prog ng where
 a0:=IE
 a1:=IF
 a2:=IG
 a3:=II
 a4:=IJ
 a5:=IK
 a6:=IL
 d0:=IM
 d1:=IN
 d2:=IP
 d3:=IQ
 d4:=IR
 d5:=IS
 QX:=F9
 d6:=IT
 QY:=Ga
 d7:=IU
 d8:=IV
 d9:=IW
 da:=IX
 db:=IY
 w0:=IZ
 w1:=I0
 w2:=I1
 w3:=I2
 w4:=I3
 w5:=I4
 w6:=I5
 w7:=I6
 w8:=I7
 w9:=I8
 wa:=I9
 wb:=I'
 wc:=Ja
 wd:=Jb
 we:=Jc
 wf:=Jd
theorem OU:j9 Tryz.prog ng where
 iV:=⟨_,rfl,rfl,rfl,rfl,rfl⟩
 en:=⟨_,rfl,rfl,rfl,rfl,rfl⟩
 acq:=⟨_,rfl,rfl,rfl,rfl,rfl⟩
 rel:=⟨_,rfl,rfl,rfl,rfl,rfl⟩
 rd:=⟨_,rfl,rfl,rfl,rfl,rfl⟩
 wr:=⟨_,rfl,rfl,rfl,rfl,rfl⟩
 J9:=⟨_,rfl,rfl,rfl,rfl,rfl⟩
 qY:=⟨_,rfl,rfl,rfl,rfl,rfl⟩
 tK:=⟨_,rfl,rfl,rfl,rfl,rfl⟩
 EP:=⟨_,rfl,rfl,rfl,rfl,rfl⟩
 vf:=⟨_,rfl,rfl,rfl,rfl,rfl⟩
 Cp:=⟨_,rfl,rfl,rfl,rfl,rfl⟩
 mU:=⟨_,rfl,rfl,rfl,rfl,rfl⟩
 QZ:=⟨_,rfl,rfl,rfl⟩
 Q0:=⟨_,rfl,rfl,rfl⟩
 L2:=⟨_,_,rfl,rfl,rfl,rfl⟩
 Hi:=⟨_,_,rfl,rfl,rfl,rfl⟩
 Hj:=⟨_,_,rfl,rfl,rfl,rfl⟩
end Go.Proofs.YtalogdafegmilaaGreatDoor
namespace Go.Proofs.YtalogdafegmilaaGreatDoor
open Go.aN Go.Conc
set_option maxHeartbeats 1000000
set_option maxRecDepth 4000
variable{m:Mo}{σ:aa}{KF:cL->aa->Prop}
theorem tB:qg Tryz.prog nn:=⟨⟨_,_,Tryz.func118,rfl,rfl,rfl⟩,⟨_,_,Tryz.func119,rfl,rfl,rfl⟩⟩
section
variable{b mb:Nat}{f:Fr}{A:dM}{j:Nat}{begun:List Int}
theorem C9{k0:ag}(hng:A.ng=ng){body:Code}(hb:Tryz.f80.body=some body):ab Tryz.prog (vk Tryz.prog A) 80 4 none [] [.code body] ⟨dK [.ref A.gb 0,.cp (.chan A.cF) 0],jN A.fb,[],.told .deferred [cR Tryz.prog] k0⟩ (λ_ _=>False):=by
 simp only[Tryz.f80,Option.some.injEq]at hb;subst hb;refine ab.runN lay [] 2 ?_;simp;refine ab.HU rfl (by rw[hng];rfl) rfl (by simp) (by rw[hng];exact Tryz.func81) rfl rfl rfl ?_;refine ab.run lay [] ?_;simp;exact ab.CP rfl rfl (by simp) rfl rfl rfl rfl rfl Tryz.func80 rfl rfl
theorem vS{k0:ag}(hA:A.fb=b/\A.mb=mb/\A.fo=6/\A.nm=nn/\A.ng=ng)(hG:∀x,A.GI x↔∃l,x=mapA .u8 l/\dm f l)(hf:f.Good)(hres:A.res j=int (ak f begun).length)(hbg:begun.length<1152921504606846976)(hlen:(ak f begun).length<1152921504606846976){body:Code}(hb:Tryz.f78.body=some body):
 ab Tryz.prog (kh Tryz.prog A j) 78 13 none [] [.code body] ⟨dK [.ref A.gb 0,.cp (iF b mb f 0) 0,.cp (ints begun) 0,.cp (.chan A.cF) 0],jN A.fb,[],.told .deferred [cR Tryz.prog] k0⟩ (λ_ _=>False):=by
 obtain⟨rfl,rfl,hfo,hnm,hng⟩:=hA;simp only[Tryz.f78,Option.some.injEq]at hb;subst hb;have LK:=HV (P:=Tryz.prog) (A:=A) (j:=j) (kd:=.u8) hG;rw[hfo,hnm]at LK;refine ab.run lay [] ?_;simp;refine ab.defer rfl rfl rfl rfl (by simp) rfl ?_
 refine ab.run lay [] ?_;simp;refine cT.intro λcn hcn=>?_
 simp;refine aq Tryz.func57 rfl rfl (oI (begun:=begun) (sp:=.any) ?_);refine ab.run lay [] ?_;simp;refine ab.rangeFunc rfl λhpl r l hr hl hrl=>?_
 obtain⟨r1,r2,hr⟩:=aa.aO hr;obtain⟨l1,l2,hl⟩:=aa.aO hl;generalize hal:ln.mk _ _ _ _ _ _ _ _ _=al
 have hY:JM (kh Tryz.prog A j) (.fn (.yield l) [] []) (ak f begun) (λk F σ'=>(∀c,F c↔c=l\/c=cn)/\σ' l=some (.loop al)/\σ' cn=some (.cells [int k])) (λF σ'=>False):=by
  refine⟨λk F σ' KF' hk hI hT hF=>?_,λk F σ1 σ2 he hI=>?_,λF σ1 σ2 he hI=>hI.elim,λk F σ' c hI hc=>?_⟩
  . obtain⟨hFd,g1,g2⟩:=hI
    have e3:∀x,(σ'.set l x) cn=some (.cells [int k]):=λx=>(aa.ai _ _ l2).trans g2
    have f1:-9223372036854775808<=(k:Int)+1/\(k:Int)+1<=9223372036854775807:=by omega
    subst hal;refine dC.rR (hold:=[]) hpl Tryz.func78 g1 rfl ?_;refine ab.run lay [] ?_;simp[fI];refine ab.beginRound g1 rfl ?_;refine ab.run lay [] ?_;simp[fI,e3,f1.1,f1.2];refine⟨rfl,rfl,_,((aa.ai _ _ l1).trans (aa.ao _ _ _)),?_⟩;refine hT F _ (λc x hc hx=>⟨?_,hc⟩) ⟨hFd,aa.ao _ _ _,(aa.ai _ _ l2).trans (aa.ao _ _ _)⟩
    have c1:c≠l:=λe=>hc ((hFd c).2 (.inl e))
    have c2:c≠cn:=λe=>hc ((hFd c).2 (.inr e))
    exact(aa.ai _ _ c1).trans ((aa.ai _ _ c2).trans ((aa.ai _ _ c1).trans hx))
  . obtain⟨hFd,g1,g2⟩:=hI
    exact⟨hFd,by rw[he l ((hFd l).2 (.inl rfl))];exact g1,by rw[he cn ((hFd cn).2 (.inr rfl))];exact g2⟩
  . obtain⟨hFd,g1,g2⟩:=hI
    rcases(hFd c).1 hc with rfl|rfl
    . exact⟨_,g1,rfl⟩
    . exact⟨_,g2,rfl⟩
 have hu:Q7 A.fb (((jN A.fb).set cn (.cells [int 0])).set r (.raw (.deferred (some [])))|>.set l (.loop al)):=by
  have h0:(jN A.fb) A.fb=some .gI:=by simp[jN]
  have q1:A.fb≠cn:=λe=>by rw[<-e,h0]at hcn;cases hcn
  have q2:A.fb≠r:=λe=>by rw[<-e,h0]at hr;cases hr
  have q3:A.fb≠l:=λe=>by rw[<-e,h0]at hl;cases hl
  show _=_;rw[aa.ai _ _ q3,aa.ai _ _ q2,aa.ai _ _ q1];exact h0
 have nb:∀c,(jN A.fb) c=none->c≠A.fb:=λc hc e=>by subst e;simp[jN]at hc
 have sr:(((jN A.fb).set cn (.cells [int 0])).set r (.raw (.deferred (some [])))|>.set l (.loop al)) r=some (.raw (.deferred (some []))):=(aa.ai _ _ hrl).trans (aa.ao _ _ _)
 refine dJ Tryz.func86 rfl rfl rfl (mp (F:=λc=>c=l\/c=cn) LK hf hbg hY ⟨rfl,rfl⟩ hu ⟨λc=>Iff.rfl,aa.ao _ _ _,(aa.ai _ _ l2).trans ((aa.ai _ _ r2).trans (aa.ao _ _ _))⟩ λF' σ' hmv hu' hend=>?_)
 have hr':=(hmv r _ sr (λe=>by rcases e with e|e;exact hrl e;exact r1 e) (nb r hr) (.inr rfl)).1
 rcases hend with⟨_,q1,q2⟩|hE
 . subst hal
   refine⟨_,q1,by simp,rfl,?_⟩
   have q2':(σ'.del l) cn=some (.cells [int (ak f begun).length]):=by simp only[aa.del,l2,Ne.symm l2,if_false];simpa[l2,Ne.symm l2]using q2
   have hul:(σ'.del l) A.fb=some .gI:=by
    have q3:A.fb≠l:=λe=>by
     have h0:(jN A.fb) A.fb=some .gI:=by simp[jN]
     rw[<-e,h0]at hl;cases hl
    simp only[aa.del,q3,if_false];exact hu'
   have hrr:(σ'.del l) r=some (.raw (.deferred (some []))):=by simp only[aa.del,hrl,if_false];exact hr'
   refine ab.run lay [] ?_;simp[q2'];refine ab.HT rfl rfl (by simp) rfl rfl (by rw[hres];simp) hul rfl rfl Tryz.func78 rfl (by rw[hng];exact Tryz.func79) rfl rfl ?_
   refine ab.run lay [] ?_;simp;refine⟨rfl,.inl rfl,⟨_,rfl⟩,r,by rw[hng],hrr⟩
 . exact hE.elim
end
end Go.Proofs.YtalogdafegmilaaGreatDoor
namespace Go.Proofs.YtalogdafegmilaaGreatDoor
open Go.aN Go.Conc
set_option maxHeartbeats 1000000
set_option maxRecDepth 4000
variable{m:Mo}{σ:aa}{KF:cL->aa->Prop}
def i9(j:Nat):List Int:=if j=0 then[0,0]else[0,1]
def fK(f:Fr):Int:=if f.az.length<2 then 1 else(ak f [0,0]).length+(ak f [0,1]).length
theorem Je{v v':AV}(h1:v.cells=[v])(h2:v'.cells=[v'])(h:v.W v'):(AV.cp v 0).W (.cp v' 0):=λk x hx=>by
 cases hx with
 | cp b base off N E v c g1 g2 g3 g4=>
   rw[h1]at g2 g3 g4;refine .cp b base 0 N E v' c g1 (by rw[h2];exact g2) (λj hj=>g3 j (by rw[h2]at hj;exact hj)) (λj a ha=>?_)
   rw[h2]at ha
   have hj:j=0:=by have:=(List.getElem?_eq_some_iff.1 ha).1;simp at this;exact this
   subst hj;simp at ha;subst ha;exact h k _ (g4 0 v rfl)
section
variable{b mb:Nat}{f:Fr}
theorem Aa(hs:m.solo=true)(hf:f.Good)(hlen:(ak f [0,0]).length<1000000000/\(ak f [0,1]).length<1000000000)(hne:b≠mb)(hu:v4 b 6 mb .u8 (dm f) σ)(h:∀σ',v4 b 6 mb .u8 (dm f) σ'->j8 b mb σ σ'->KF (.val (int (fK f))) σ'):aA Tryz.prog m 48 [iF b mb f 0] σ KF:=by
 have h6:=hf.pi;unfold fK at h;refine aA.start lay [] [] 1 Tryz.func48 rfl rfl (by rfl) (by kernel_rfl) ?_
 simp[Tryz.f48]
 by_cases g1:f.az.length<2
 . have g1':(f.az.length:Int)<2:=by omega
   rw[if_pos g1]at h;simp[g1'];exact .done (h σ hu (j8.refl b mb σ))
 have g1':¬(f.az.length:Int)<2:=by omega
 rw[if_neg g1]at h;obtain⟨u1,lm,u2,u3⟩:=hu;simp[g1'];refine Bf lay rfl Ea rfl pQ rfl (by decide) λcF hcF=>?_
 refine ab.run lay [] ?_;simp;refine cT.intro λc3 hc3=>?_
 obtain⟨n1,n2,hc3⟩:=aa.aO hc3;simp;refine cT.intro λgb hgb=>?_
 obtain⟨n3,n4,hgb⟩:=aa.aO hgb;obtain⟨n5,n6,hgb⟩:=aa.aO hgb;simp[n1,n2,n3,n4,n5,n6];have cb:cF≠b:=λe=>by rw[e,u1]at hcF;cases hcF
 have cm:cF≠mb:=λe=>by rw[e,u2]at hcF;cases hcF
 have b3:c3≠b:=λe=>by rw[e,u1]at hc3;cases hc3
 have m3:c3≠mb:=λe=>by rw[e,u2]at hc3;cases hc3
 have gb':gb≠b:=λe=>by rw[e,u1]at hgb;cases hgb
 have gm:gb≠mb:=λe=>by rw[e,u2]at hgb;cases hgb
 refine ab.cZ 3 (b:=c3) (.chan cF) (by simp[n3,n4,n5,n6,n1,n2,aa.ai]) (by simp) rfl ?_
 refine ab.bW hs ⟨2,cF,b,6,gb,mb,λx=>∃l,x=mapA .u8 l/\dm f l,λj=>int (ak f (i9 j)).length,nn,ng,by omega,cb,n6,cm,Ne.symm gb',hne,gm⟩ OT OU nk np tB (tm:=false) (a:=mapA .u8 lm) (by simp[aa.del,aa.ai,n1,n2,n3,n4,n5,n6]) (by simp[aa.del,aa.ai,n1,n2,n3,n4,n5,n6]) (by simp[aa.del,aa.set,b3,Ne.symm b3,gb',Ne.symm gb',cb,Ne.symm cb,u1]) (by simp[aa.del,aa.set,m3,Ne.symm m3,gm,Ne.symm gm,cm,Ne.symm cm,u2]) (by simp[mapA]) ⟨lm,rfl,u3⟩ rfl λpb hpb Fin kd cs0 k0 hfin=>?_
 refine ab.HW ?_;refine ab.runN lay [] 18 ?_;simp;refine cT.intro λd1 hd1=>?_
 have d1b:d1≠b:=λe=>by subst e;simp at hd1
 simp
 change ab _ _ _ _ _ _ _ _ _
 refine ab.cZ 6 (b:=d1) (.sl 1 [int 0,int 0] .exact) (aa.ao _ _ _) (by simp) rfl ?_
 refine ab.yt 6 (a':=.cp (ints [0,0]) 0) (by simp;exact Je rfl rfl (gK 1 [int 0,int 0] .exact)) ?_
 refine ab.Kz rfl rfl rfl (by simp) Tryz.func77 rfl rfl rfl ?_
 refine ab.run lay [] ?_;simp;refine ab.wk (hold':=[]) rfl rfl rfl (by simp) rfl Tryz.func78 rfl rfl (by show(4:Nat)<=13;decide) (by simp[kc.at,aa.del,aa.set,d1b,Ne.symm d1b,d1b,Ne.symm d1b]) (by kernel_rfl) (λk1=>vS (b:=b) (mb:=mb) (f:=f) (begun:=[0,0]) ⟨rfl,rfl,rfl,rfl,rfl⟩ (λx=>Iff.rfl) hf rfl (by simp) (by omega) rfl) ?_
 refine ab.run lay [] ?_;simp;refine ab.again (by kernel_rfl) ?_
 refine ab.runN lay [] 18 ?_;simp;refine cT.intro λd2 hd2=>?_
 have d2b:d2≠b:=λe=>by subst e;simp[aa.del,aa.set,d1b,Ne.symm d1b]at hd2
 simp
 change ab _ _ _ _ _ _ _ _ _
 refine ab.cZ 6 (b:=d2) (.sl 1 [int 0,int 1] .exact) (aa.ao _ _ _) (by simp) rfl ?_
 refine ab.yt 6 (a':=.cp (ints [0,1]) 0) (by simp;exact Je rfl rfl (gK 1 [int 0,int 1] .exact)) ?_
 refine ab.Kz rfl rfl rfl (by simp) Tryz.func77 rfl rfl rfl ?_
 refine ab.run lay [] ?_;simp;refine ab.wk (hold':=[]) rfl rfl rfl (by simp) rfl Tryz.func78 rfl rfl (by show(4:Nat)<=13;decide) (by simp[kc.at,aa.del,aa.set,d2b,Ne.symm d2b,d1b,Ne.symm d1b]) (by kernel_rfl) (λk1=>vS (b:=b) (mb:=mb) (f:=f) (begun:=[0,1]) ⟨rfl,rfl,rfl,rfl,rfl⟩ (λx=>Iff.rfl) hf rfl (by simp) (by omega) rfl) ?_
 refine ab.run lay [] ?_;simp;refine ab.again (by kernel_rfl) ?_
 refine ab.run lay [] ?_;simp;refine ab.P7 (hold':=[]) rfl rfl rfl (by simp) rfl Tryz.func80 rfl rfl (by show(2:Nat)<=4;decide) (by simp[kc.at,aa.del,aa.set,d2b,Ne.symm d2b,d1b,Ne.symm d1b]) (by kernel_rfl) (λk1=>C9 rfl rfl) ?_
 refine ab.run lay [] ?_;simp;refine ab.HW ?_;refine ab.run lay [] ?_;simp;refine ab.D5 lay rfl rfl Ea rfl pQ (by simp) rfl rfl λj1 hj1=>?_
 have hbn:∀j,(ak f (i9 j)).length<1000000000:=λj=>by
  unfold i9;split
  . exact hlen.1
  . exact hlen.2
 have f1:-9223372036854775808<=((ak f (i9 j1)).length:Int)/\((ak f (i9 j1)).length:Int)<=9223372036854775807:=by have:=hbn j1;omega
 refine ab.run lay [] ?_;simp[kc.at,f1.1,f1.2];refine ab.again (by kernel_rfl) ?_
 refine ab.run lay [] ?_;simp;refine ab.D5 lay rfl rfl Ea rfl pQ (by simp) rfl rfl λj2 hj2=>?_
 have f2:-9223372036854775808<=((ak f (i9 j1)).length:Int)+((ak f (i9 j2)).length:Int)/\((ak f (i9 j1)).length:Int)+((ak f (i9 j2)).length:Int)<=9223372036854775807:=by have:=hbn j1;have:=hbn j2;omega
 refine ab.run lay [] ?_;simp[kc.at,f2.1,f2.2];refine ab.again (by kernel_rfl) ?_
 refine ab.run lay [] ?_;simp;refine ab.y9 lay rfl rfl Ea rfl pQ (by simp) rfl rfl (by simp[aa.del,aa.set,d2b,Ne.symm d2b,d1b,Ne.symm d1b]) rfl hfin λa ha=>?_
 refine ab.run lay [] ?_;simp
 have hsum:((ak f (i9 j1)).length:Int)+((ak f (i9 j2)).length:Int)=((ak f [0,0]).length:Int)+((ak f [0,1]).length:Int):=by
  have h1:j1∈List.range 2:=hj1;have h2:j2∈(List.range 2).erase j1:=hj2;have:j1=0\/j1=1:=by have:=List.mem_range.1 h1;omega
  rcases this with rfl|rfl
  . have:j2=1:=by simpa[List.range,List.range.loop]using h2
    subst this;rfl
  . have:j2=0:=by simpa[List.range,List.range.loop]using h2
    subst this;exact Int.add_comm _ _
 rw[hsum];obtain⟨la,rfl,hla⟩:=ha;refine .done (h _ ⟨aa.ao _ _ _,la,(aa.ai _ _ (Ne.symm hne)).trans (aa.ao _ _ _),hla⟩ λc x h1 h2 h3=>?_)
 have e1:c≠mb:=λe=>by
  subst e;rw[u2]at h1;cases h1
  rcases h3 with h3|h3
  . exact h3 rfl
  . cases h3
 have e2:c≠cF:=λe=>by subst e;rw[hcF]at h1;cases h1
 have e3:c≠c3:=λe=>by subst e;rw[hc3]at h1;cases h1
 have e4:c≠gb:=λe=>by subst e;rw[hgb]at h1;cases h1
 have e5:c≠d1:=λe=>by subst e;simp[aa.del,aa.set,e1,e2,e3,e4,h2,h1]at hd1
 have e6:c≠d2:=λe=>by subst e;simp[aa.del,aa.set,e1,e2,e3,e4,e5,h2,h1]at hd2
 simp[aa.del,aa.set,e1,e2,e3,e4,e5,e6,h2,h1]
end
end Go.Proofs.YtalogdafegmilaaGreatDoor
namespace Go.Proofs.YtalogdafegmilaaGreatDoor
open Go.aN Go.Conc
set_option maxHeartbeats 1000000
set_option maxRecDepth 4000
variable{m:Mo}{σ:aa}{KF:cL->aa->Prop}
section
variable{b mb:Nat}{f:Fr}{Un:aa->Prop}{Ld:aa->List (Int × AV)->Prop}
theorem mM(LK:Dj Tryz.prog m nn b 6 mb .u8 (dm f) Un Ld)(hf:f.Good){so:AV}{p:List Int->Bool}(hsc:so.cells=[so]/\so.flat=true)(hso:∀w∈ak f [],∀(σ:aa) (KF:cL->aa->Prop),KF (.val (bool (p w))) σ->dC Tryz.prog m so [ints w] σ KF)(hlen:(ak f []).length<1152921504606846976)(hu:Un σ)
 (h:∀σ',Un σ'->j8 b mb σ σ'->KF (.val (.c9 [int (((ak f []).filter p).length),int (ak f []).length])) σ'):aA Tryz.prog m 66 [iF b mb f 0,so] σ KF:=by
 refine aA.start lay [] OG 2 Tryz.func66 rfl rfl (by rfl) (by kernel_rfl) ?_
 simp[Tryz.f66,hsc.1,hsc.2];refine cT.intro λc6 h6=>?_
 simp;refine cT.intro λc7 h7=>?_
 obtain⟨z1,z2,h7⟩:=aa.aO h7;simp[z1,z2,aa.ai];have hW:Wl [iF b mb f 0,AV.lit (.slice none 0 0)] [iF b mb f 0,ints []]:=.cons (.refl _) (.cons (fT 1) .nil);refine bs Tryz.func57 rfl rfl hW (oI (begun:=[]) ?_);refine ab.run lay [] ?_;simp;refine ab.rangeFunc rfl λhpl r l hr hl hrl=>?_
 obtain⟨a1,_,hr⟩:=aa.aO hr;obtain⟨a2,_,hr⟩:=aa.aO hr;obtain⟨_,_,hr⟩:=aa.aO hr;obtain⟨_,_,hr⟩:=aa.aO hr;obtain⟨a3,_,hl⟩:=aa.aO hl;obtain⟨a4,_,hl⟩:=aa.aO hl;obtain⟨_,_,hl⟩:=aa.aO hl;obtain⟨_,_,hl⟩:=aa.aO hl;have hr0:σ r=none/\r≠c6/\r≠c7:=⟨hr,a2,a1⟩;have hl0:σ l=none/\l≠c6/\l≠c7:=⟨hl,a4,a3⟩;generalize hal:ln.mk _ _ _ _ _ _ _ _ _=al
 have hY:JM m (.fn (.yield l) [] []) (ak f []) (λk F σ'=>(∀c,F c↔c=l\/c=c6\/c=c7)/\σ' l=some (.loop al)/\σ' c6=some (.cells [int ((((ak f []).take k).filter p).length)])/\σ' c7=some (.cells [int k])) (λF σ'=>False):=by
  refine⟨λk F σ' KF' hk hI hT hF=>?_,λk F σ1 σ2 he hI=>?_,λF σ1 σ2 he hI=>hI.elim,λk F σ' c hI hc=>?_⟩
  . obtain⟨hFd,g1,g2,g3⟩:=hI
    have e7:∀x,(σ'.set l x) c7=some (.cells [int k]):=λx=>(aa.ai _ _ (Ne.symm hl0.2.2)).trans g3
    have f1:-9223372036854775808<=(k:Int)+1/\(k:Int)+1<=9223372036854775807:=by omega
    have hfl:(((ak f []).take k).filter p).length<=k:=Nat.le_trans (List.length_filter_le _ _) (by rw[List.length_take];omega)
    have f2:-9223372036854775808<=((((ak f []).take k).filter p).length:Int)+1/\((((ak f []).take k).filter p).length:Int)+1<=9223372036854775807:=by omega
    have hsucc:(((ak f []).take (k+1)).filter p).length=(((ak f []).take k).filter p).length+if p (ak f [])[k]then 1 else 0:=by
     rw[List.take_succ_eq_append_getElem hk,List.filter_append,List.length_append];congr 1
     by_cases hp:p (ak f [])[k]<;>simp[List.filter_cons,hp]
    have hmem:(ak f [])[k]∈ak f []:=List.getElem_mem hk;subst hal;refine dC.rR (hold:=OG) hpl Tryz.func66 g1 rfl ?_;refine ab.run lay [] ?_;simp[fI];refine ab.beginRound g1 rfl ?_;refine ab.run lay [] ?_;simp[fI,e7,f1.1,f1.2,hsc.1];refine hso _ hmem _ _ ?_;have e6:∀x y,((σ'.set l x).set c7 y) c6=some (.cells [int ((((ak f []).take k).filter p).length)]):=λx y=>(aa.ai _ _ (Ne.symm z1)).trans ((aa.ai _ _ (Ne.symm hl0.2.1)).trans g2)
    cases hp:p (ak f [])[k]
    . refine ab.run lay [] ?_
      simp;refine⟨rfl,rfl,_,((aa.ai _ _ hl0.2.2).trans (aa.ao _ _ _)),?_⟩;refine hT F _ (λc x hc hx=>⟨?_,hc⟩) ⟨hFd,aa.ao _ _ _,?_,(aa.ai _ _ (Ne.symm hl0.2.2)).trans (aa.ao _ _ _)⟩
      . have q1:c≠l:=λe=>hc ((hFd c).2 (.inl e))
        have q3:c≠c7:=λe=>hc ((hFd c).2 (.inr (.inr e)))
        exact(aa.ai _ _ q1).trans ((aa.ai _ _ q3).trans ((aa.ai _ _ q1).trans hx))
      . refine(aa.ai _ _ (Ne.symm hl0.2.1)).trans ((e6 _ _).trans ?_)
        rw[hsucc,hp];rfl
    . refine ab.run lay [] ?_
      simp[e6,f2.1,f2.2];refine⟨rfl,rfl,_,((aa.ai _ _ hl0.2.1).trans ((aa.ai _ _ hl0.2.2).trans (aa.ao _ _ _))),?_⟩;refine hT F _ (λc x hc hx=>⟨?_,hc⟩) ⟨hFd,aa.ao _ _ _,?_,(aa.ai _ _ (Ne.symm hl0.2.2)).trans ((aa.ai _ _ z1).trans (aa.ao _ _ _))⟩
      . have q1:c≠l:=λe=>hc ((hFd c).2 (.inl e))
        have q2:c≠c6:=λe=>hc ((hFd c).2 (.inr (.inl e)))
        have q3:c≠c7:=λe=>hc ((hFd c).2 (.inr (.inr e)))
        exact(aa.ai _ _ q1).trans ((aa.ai _ _ q2).trans ((aa.ai _ _ q3).trans ((aa.ai _ _ q1).trans hx)))
      . refine(aa.ai _ _ (Ne.symm hl0.2.1)).trans ((aa.ao _ _ _).trans ?_)
        rw[hsucc,hp];simp
  . obtain⟨hFd,g1,g2,g3⟩:=hI
    exact⟨hFd,by rw[he l ((hFd l).2 (.inl rfl))];exact g1,by rw[he c6 ((hFd c6).2 (.inr (.inl rfl)))];exact g2,by rw[he c7 ((hFd c7).2 (.inr (.inr rfl)))];exact g3⟩
  . obtain⟨hFd,g1,g2,g3⟩:=hI
    rcases(hFd c).1 hc with rfl|rfl|rfl
    . exact⟨_,g1,rfl⟩
    . exact⟨_,g2,rfl⟩
    . exact⟨_,g3,rfl⟩
 obtain⟨xb,hxb,hpb⟩:=LK.JN hu;have nb:∀c,σ c=none->c≠b:=λc hc e=>by subst e;rw[hc]at hxb;cases hxb
 have hle:σ.Le ((((((σ.set c6 (.cells [int 0])).set c7 (.cells [int 0])).set c6 (.cells [int 0])).set c7 (.cells [int 0])).set r (.raw (.deferred (some [])))).set l (.loop al)):=(by repeat (first|exact aa.le_refl _|assumption|refine aa.ig ?_ (by assumption)|refine aa.jm ?_ (by assumption)))
 have sr:((((((σ.set c6 (.cells [int 0])).set c7 (.cells [int 0])).set c6 (.cells [int 0])).set c7 (.cells [int 0])).set r (.raw (.deferred (some [])))).set l (.loop al)) r=some (.raw (.deferred (some []))):=(aa.ai _ _ hrl).trans (aa.ao _ _ _);have s7:((((((σ.set c6 (.cells [int 0])).set c7 (.cells [int 0])).set c6 (.cells [int 0])).set c7 (.cells [int 0])).set r (.raw (.deferred (some [])))).set l (.loop al)) c7=some (.cells [int 0]):=(aa.ai _ _ (Ne.symm hl0.2.2)).trans ((aa.ai _ _ (Ne.symm hr0.2.2)).trans (aa.ao _ _ _))
 have s6:((((((σ.set c6 (.cells [int 0])).set c7 (.cells [int 0])).set c6 (.cells [int 0])).set c7 (.cells [int 0])).set r (.raw (.deferred (some [])))).set l (.loop al)) c6=some (.cells [int 0]):=(aa.ai _ _ (Ne.symm hl0.2.1)).trans ((aa.ai _ _ (Ne.symm hr0.2.1)).trans ((aa.ai _ _ (Ne.symm z1)).trans (aa.ao _ _ _)))
 refine dJ Tryz.func86 rfl rfl rfl (mp (F:=λc=>c=l\/c=c6\/c=c7) LK hf (by simp) hY ⟨rfl,rfl⟩ (LK.un (λc _ ⟨x,h1,_⟩=>(hle _ _ h1).trans h1.symm) hu) ⟨λc=>Iff.rfl,aa.ao _ _ _,by simpa using s6,by simpa using s7⟩ λF' σ' hmv hu' hend=>?_)
 have hr':=(hmv r _ sr (λe=>by rcases e with e|e|e;exact hrl e;exact hr0.2.1 e;exact hr0.2.2 e) (nb r hr) (.inr rfl)).1
 have hkeep:j8 b mb σ σ':=λc x h1 h2 h3'=>(hmv c x (hle c x h1) (λe=>by rcases e with e|e|e<;>subst e<;>simp_all) h2 h3').1
 have hfinS:∀σ2,σ2=(σ'.del l).set r (.raw (.deferred none))->Un σ2/\j8 b mb σ σ2:=λσ2 e=>by
  subst e;refine⟨LK.un (σ:=σ') (λc _ ⟨x,h1,h2⟩=>?_) hu',λc x h1 h2 h3'=>?_⟩
  . have c1:c≠r:=λe=>by subst e;rw[hr']at h1;cases h1;cases h2
    have c2:c≠l:=λe=>by
     subst e
     rcases hend with⟨_,g,_⟩|g
     . rw[g]at h1;cases h1;cases h2
     . exact g.elim
    rw[aa.ai _ _ c1];simp[aa.del,c2]
  . have c1:c≠r:=λe=>by subst e;rw[hr]at h1;cases h1
    have c2:c≠l:=λe=>by subst e;rw[hl]at h1;cases h1
    rw[aa.ai _ _ c1];simp only[aa.del,c2,if_false];exact hkeep c x h1 h2 h3'
 rcases hend with⟨_,q1,q2,q3⟩|q
 . rw[List.take_length]at q2
   subst hal;refine⟨_,q1,by simp,rfl,?_⟩
   have q2':(σ'.del l) c6=some (.cells [int ((ak f []).filter p).length]):=by simp only[aa.del,Ne.symm hl0.2.1,if_false];exact q2
   have q3':(σ'.del l) c7=some (.cells [int (ak f []).length]):=by simp only[aa.del,Ne.symm hl0.2.2,if_false];exact q3
   refine ab.run lay [] ?_;simp[q2',q3'];refine ab.run lay [] ?_;simp;refine⟨by simp only[aa.del,hrl,if_false];exact hr',.done ?_⟩
   obtain⟨e1,e2⟩:=hfinS _ rfl;exact h _ e1 e2
 . exact q.elim
end
end Go.Proofs.YtalogdafegmilaaGreatDoor
namespace Go.Proofs.YtalogdafegmilaaGreatDoor
open Go.aN Go.Conc
set_option maxHeartbeats 1000000
set_option maxRecDepth 4000
variable{m:Mo}{σ:aa}{KF:cL->aa->Prop}
theorem dA(f:Fr)(begun:List Int):∀(fuel:Nat) (cd:List Int) (many:Int) (hs:List Int),∀w∈cV f begun fuel cd many hs,w.length=cd.length+fuel
 |0,cd,many,hs,w,hw=>by simp[cV]at hw;subst hw;rfl
 | fuel+1,cd,many,hs,w,hw=>by
   rw[na,List.mem_flatMap]at hw;obtain⟨k,_,hk⟩:=hw;unfold mJ at hk;split at hk
   . cases hk
   split at hk
   . have:=dA f begun fuel _ _ _ w hk
     rw[this];simp;omega
   . cases hk
section
variable{b mb:Nat}{f:Fr}{Un:aa->Prop}{Ld:aa->List (Int × AV)->Prop}
def aC(x y:Int)(w:List Int):Bool:=decide (w.getD x.toNat 0=w.getD y.toNat 0)
theorem Jf{w:List Int}{x y:Int}(hx:0<=x/\x.toNat<w.length)(hy:0<=y/\y.toNat<w.length)(h:KF (.val (bool (aC x y w))) σ):aA Tryz.prog m 92 [ints w,.cp (int x) 0,.cp (int y) 0] σ KF:=by
 have e1:w.getD x.toNat 0=w[x.toNat]:=by simp[List.getD_eq_getElem?_getD,hx.2]
 have e2:w.getD y.toNat 0=w[y.toNat]:=by simp[List.getD_eq_getElem?_getD,hy.2]
 unfold aC at h;rw[e1,e2]at h;refine aA.start lay [] Qi 3 Tryz.func92 rfl rfl (by rfl) (by kernel_rfl) ?_;simp[Tryz.f92,hx.1,hx.2,hy.1,hy.2];refine ab.run lay [] ?_;simp;refine .done ?_;by_cases q:w[x.toNat]=w[y.toNat]
 . simpa[q]using h
 . have:(w[x.toNat]==w[y.toNat])=false:=by simp[q]
   simpa[q,this]using h
theorem Do(LK:Dj Tryz.prog m nn b 6 mb .u8 (dm f) Un Ld)(hf:f.Good){x y:Int}(hx:0<=x/\x.toNat<f.az.length)(hy:0<=y/\y.toNat<f.az.length)(hlen:(ak f []).length<1152921504606846976)(hu:Un σ)
 (h:∀σ',Un σ'->j8 b mb σ σ'->KF (.val (int (aL (((ak f []).filter (aC x y)).length:Int) (ak f []).length))) σ'):aA Tryz.prog m 62 [iF b mb f 0,int x,int y] σ KF:=by
 have hw:∀w∈ak f [],w.length=f.az.length:=λw hw=>by have:=dA f [] _ _ _ _ w hw;simpa using this
 refine aA.start lay [] [] 3 Tryz.func62 rfl rfl (by rfl) (by kernel_rfl) ?_;simp[Tryz.f62];refine aq Tryz.func66 rfl rfl (mM LK hf (p:=aC x y) ⟨rfl,rfl⟩ (λw hwm σ KF hK=>dJ Tryz.func92 rfl rfl rfl (Jf ⟨hx.1,by rw[hw w hwm];exact hx.2⟩ ⟨hy.1,by rw[hw w hwm];exact hy.2⟩ hK)) hlen hu λσ' q1 q2=>?_);refine ab.run lay [] ?_;simp;refine aq Tryz.func65 rfl rfl (pG ?_);refine ab.run lay [] ?_;simp;exact .done (h σ' q1 q2)
end
theorem im(hs:m.solo=true){f:Fr}{l:List Int}{sp:cM}(hf:f.Fits)(hc:check f=0)(hl:∀n∈l,0<=n/\n<f.az.length)(hll:l.length<1152921504606846976)(hway:ak f []≠[])(h:∀b mb σ',b≠mb->v4 b 6 mb .u8 (dm f) σ'->σ b=none/\σ mb=none->σ.Le σ'->KF (.val (.c9 [iF b mb f 0,int 0])) σ'):aA Tryz.prog m 56 [aF f,.sl 1 (l.map int) sp] σ KF:=by
 have hg:=Fr.jw hf hc;have ho:=uK hc hl;refine aA.start lay [] [] 2 Tryz.func56 rfl rfl (by rfl) (by kernel_rfl) ?_
 simp[Tryz.f56];have hW:Wl [AV.agg (eP f),.sl 1 (l.map int) sp] [aF f,ints l]:=.cons (.refl _) (.cons (gK 1 _ sp) .nil);refine bs Tryz.func47 rfl rfl hW (tV hf hll (λq=>absurd ho q) λ_ b mb σ' hn=>?_)
 have hu:v4 b 6 mb .u8 (dm f) σ':=by rw[hn.eq];exact⟨aa.ao _ _ _,[],(aa.ai _ _ (Ne.symm hn.ne)).trans (aa.ao _ _ _),λn a h=>by simp[iu]at h⟩
 refine ab.run lay [] ?_;simp;refine aq Tryz.func53 rfl rfl (yu (fQ nk np tB hs hn.ne) hg hu λσ2 q1 q2=>?_)
 refine ab.run lay [] ?_;simp[hway];refine .done (h b mb σ2 hn.ne q1 ⟨hn.hb,hn.zy⟩ λc x hx=>?_)
 have c1:c≠b:=λe=>by subst e;rw[hn.hb]at hx;cases hx
 have c2:c≠mb:=λe=>by subst e;rw[hn.zy]at hx;cases hx
 exact q2 c x (hn.le c x hx) c1 (.inl c2)
theorem jr(hs:m.solo=true){f:Fr}{x y:Int}(hf:f.Fits)(hc:check f=0)(hx:0<=x/\x<f.az.length)(hy:0<=y/\y<f.az.length)(hway:ak f []≠[])(hlen:(ak f []).length<1152921504606846976)(h:KF (.val (.c9 [int (aL (((ak f []).filter (aC x y)).length:Int) (ak f []).length),int 0])) σ):aA Tryz.prog m 27 [aF f,int x,int y] σ KF:=by
 have hg:=Fr.jw hf hc;refine aA.start lay [] [] 3 Tryz.func27 rfl rfl (by rfl) (by kernel_rfl) ?_
 simp[Tryz.f27];refine aq Tryz.func56 rfl rfl (im (l:=[x,y]) (sp:=.exact) hs hf hc (λn hn=>by simp at hn;rcases hn with rfl|rfl<;>omega) (by simp) hway λb mb σ' hne hu hfr hle=>?_)
 refine ab.run lay [] ?_;simp;refine aq Tryz.func62 rfl rfl (Do (fQ nk np tB hs hne) hg ⟨hx.1,by omega⟩ ⟨hy.1,by omega⟩ hlen hu λσ2 q1 q2=>?_)
 refine ab.run lay [] ?_;simp;refine .less (λc x hx=>?_) (.done h)
 have c1:c≠b:=λe=>by subst e;rw[hfr.1]at hx;cases hx
 have c2:c≠mb:=λe=>by subst e;rw[hfr.2]at hx;cases hx
 exact q2 c x (hle c x hx) c1 (.inl c2)
theorem z8(hs:m.solo=true){f:Fr}(hf:f.Fits)(hc:check f=0)(hlen:(ak f [0,0]).length<1000000000/\(ak f [0,1]).length<1000000000)(h:KF (.val (.c9 [int (fK f),int 0])) σ):aA Tryz.prog m 18 [aF f] σ KF:=by
 have hg:=Fr.jw hf hc;have ho:=tx hc;refine aA.start lay [] [] 1 Tryz.func18 rfl rfl (by rfl) (by kernel_rfl) ?_
 simp[Tryz.f18];have hW:Wl [AV.agg (eP f),AV.lit (.slice none 0 0)] [aF f,ints []]:=.cons (.refl _) (.cons (fT 1) .nil);refine bs Tryz.func47 rfl rfl hW (tV hf (by simp) (λq=>absurd ho q) λ_ b mb σ' hn=>?_)
 have hu:v4 b 6 mb .u8 (dm f) σ':=by rw[hn.eq];exact⟨aa.ao _ _ _,[],(aa.ai _ _ (Ne.symm hn.ne)).trans (aa.ao _ _ _),λn a h=>by simp[iu]at h⟩
 refine ab.run lay [] ?_;simp;refine aq Tryz.func48 rfl rfl (Aa hs hg hlen hn.ne hu λσ2 q1 q2=>?_)
 refine ab.run lay [] ?_;simp;refine .less (λc x hx=>?_) (.done h)
 have c1:c≠b:=λe=>by subst e;rw[hn.hb]at hx;cases hx
 have c2:c≠mb:=λe=>by subst e;rw[hn.zy]at hx;cases hx
 exact q2 c x (hn.le c x hx) c1 (.inl c2)
theorem yw{f:Fr}{l:List Int}(hf:f.Fits)(hc:check f=0)(hl:Dk f l)(h20:l.length<20)(h:KF (.val (.c9 [bool (decide (ii f l=0)),int 0])) σ):aA Tryz.prog m 28 [aF f,ints l] σ KF:=by
 refine aA.start lay [] [] 2 Tryz.func28 rfl rfl (by rfl) (by kernel_rfl) ?_;simp[Tryz.f28];refine aq Tryz.func63 rfl rfl (xP hf hc hl λb mb σ' hn=>?_);refine ab.run lay [] ?_;simp;refine aq Tryz.func64 rfl rfl (H7 (Fr.jw hf hc) ⟨hl.mem,hl.ne,hl.len⟩ h20 ?_);refine ab.run lay [] ?_;simp;refine nY lay rfl OA rfl (isNil:=decide (ii f l=0)) ?_ (.inl ⟨rfl,rfl⟩) ?_
 . by_cases hw:ii f l=0
   . left
     refine⟨?_,by simp[hw]⟩;simp[hw];rfl
   . right
     obtain⟨d,a,e⟩:=Bt hw;refine⟨⟨d,a,?_⟩,by simp[hw]⟩;rw[<-e];simp
 refine ab.run lay [] ?_;simp;exact .less hn.le (.done h)
end Go.Proofs.YtalogdafegmilaaGreatDoor

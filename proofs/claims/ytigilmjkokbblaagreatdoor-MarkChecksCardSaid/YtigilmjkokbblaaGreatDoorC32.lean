/- Part 32 of the proof. -/
import Derived.Test.YtigilmjkokbblaaGreatDoorC31
set_option linter.all false
namespace Go.Proofs.YtigilmjkokbblaaGreatDoor
open Tryz (prog)
open Go.bd Go.Conc
set_option maxHeartbeats 1000000
set_option maxRecDepth 4000
variable{m:Mo}{σ:aa}{KF:dV->aa->Prop}
section
variable{b mb:Nat}{f:Fr}{begun:List Int}{y:AV}{W:List (List Int)}{I:Nat->(Nat->Prop)->aa->Prop}{E:(Nat->Prop)->aa->Prop}{Un:aa->Prop}{Ld:aa->List (Int × AV)->Prop}{c4 cg cp:Nat}
def pf(f:Fr)(begun:List Int)(fuel:Nat)(er:List Int)(many:Int)(a:List Int)(k:Nat):List (List Int):=
 if er.length<begun.length/\begun.getD er.length 0≠(k:Int)then[]
 else if lX f (cL (a.getD k 0) er.length)=true then fy f begun fuel (er++[(k:Int)]) (max many ((k:Int)+1)) (a.set k (cL (a.getD k 0) er.length))else[]
theorem rU(f:Fr)(begun:List Int)(fuel:Nat)(er:List Int)(many:Int)(a:List Int):fy f begun (fuel+1) er many a=(List.range (min (many+1) f.most).toNat).flatMap (pf f begun fuel er many a):=rfl
theorem Eh(K:Nat->List (List Int)){k cnt:Nat}(h:k<cnt):∃rest,(List.range cnt).flatMap K=(List.range k).flatMap K++(K k++rest):=by
 obtain⟨n,rfl⟩:∃n,cnt=k+1+n:=⟨cnt-(k+1),by omega⟩;induction n with
 |zero=>exact⟨[],by rw[Nat.add_zero,List.range_succ,List.flatMap_append];simp⟩
 | succ n a=>
   obtain⟨rest,b⟩:=a (by omega);refine⟨rest++K (k+1+n),?_⟩;rw[show k+1+(n+1)=(k+1+n)+1 by omega,List.range_succ,List.flatMap_append,b];simp
theorem O5(U:Gu prog m nn b 6 mb .u8 (dF f) Un Ld)(X:f.Good)(Z:begun.length<1152921504606846976)(Y:NZ m y W I E)(a7:y.cells=[y]):∀fuel:Nat,Ms m b mb f begun y W I E Un c4 cg cp fuel:=by
 have h6:=X.vw;have ad:=X.most;intro fuel
 induction fuel with
 | zero=>
   intro er many p sp F σ pre post KF hlen t hh hw P N Q D;have hl:(er.length:Int)=f.aA.length:=by omega
   refine fs [] 6 Tryz.func104 rfl rfl (by rfl) (by kernel_rfl) ?_
   simp[Tryz.f104,hl,a7];have hk:pre.length<W.length:=by rw[N];simp[fy]
   have a8:W[pre.length]=er:=by subst N;simp[fy]
   refine cN.weaken (args':=[ints er]) ?_ ⟨ck 1 _ sp,trivial⟩;rw[<-a8];refine Y.step pre.length F σ _ hk Q (λz o g h=>?_) (λz o g h=>?_)
   . refine rn ?_
     simp;exact .done (D.1 z o (Ef g) (yl U P g (λc hc=>Y.PO _ _ _ c Q hc)) h)
   . refine rn ?_
     simp;exact .done (D.2 z o (Ef g) (yl U P g (λc hc=>Y.PO _ _ _ c Q hc)) h)
 | succ fuel a9=>
   intro er many p sp F σ pre post KF hlen t hh hw P N Q D;have hl:((er.length:Int)==f.aA.length)=false:=by rw[beq_eq_false_iff_ne];omega
   have al:=hw.pt;rw[rU]at N D;obtain⟨cnt,G⟩:∃cnt:Nat,cnt=(min (many+1) f.most).toNat:=⟨_,rfl⟩;rw[<-G]at N D;have R:(if f.most<many+1 then f.most else many+1)=(cnt:Int):=by rw[G];split<;>omega
   have av:cnt<=6:=by omega
   have m1:-9223372036854775808<=many+1/\many+1<=9223372036854775807:=by omega
   refine fs [] 6 Tryz.func104 rfl rfl (by rfl) (by kernel_rfl) ?_
   simp[Tryz.f104,hl,m1.1,m1.2,R];refine ab.loop cnt (λk s=>∃env o z,s=⟨env,o,[],.no⟩/\env 0=.sl 1 (er.map int) sp/\env 1=int many/\env 2=.cp (iu b mb f 0) 0/\env 4=.cp (ints begun) 0/\env 5=.ref cp 0/\env 29=int cnt/\env 30=int k/\Mv b mb F z σ o/\Un o/\I (pre.length+((List.range k).flatMap (pf f begun fuel er many p)).length) z o) ⟨_,_,F,rfl,by simp,by simp,by simp,by simp,by simp,by simp,by simp,Mv.refl b mb F σ,P,Q⟩ ?_
   rintro c0 k _ hk ⟨env,o,z,rfl,j,g,h,l,n,a,d,u,J,K⟩ ih
   rcases Nat.lt_or_ge k cnt with g1|g1
   . have S:=hw.mv (U.N1 P) u
     have H:=S.pt;obtain⟨rest,A⟩:=Eh (pf f begun fuel er many p) g1
     have w:((List.range (k+1)).flatMap (pf f begun fuel er many p)).length=((List.range k).flatMap (pf f begun fuel er many p)).length+(pf f begun fuel er many p k).length:=by rw[List.range_succ,List.flatMap_append,List.length_append];simp
     by_cases O:er.length<begun.length/\begun.getD er.length 0≠(k:Int)
     . have hK:pf f begun fuel er many p k=[]:=if_pos O
       have e1:begun.getD er.length 0=begun[er.length]:=by simp[List.getD_eq_getElem?_getD,O.1]
       have e2:(begun[er.length] !=(k:Int))=true:=by have:=O.2;rw[e1]at this;simpa using this
       refine rn ?_;simp[j,g,h,l,n,a,d,g1,O.1,e2];refine⟨by omega,ih _ g1 ⟨_,_,z,rfl,by simp[j,g,h,l,n,a,d],by simp[j,g,h,l,n,a,d],by simp[j,g,h,l,n,a,d],by simp[j,g,h,l,n,a,d],by simp[j,g,h,l,n,a,d],by simp[j,g,h,l,n,a,d],by simp,u,J,?_⟩⟩
       rw[w,hK];exact K
     . have hK:pf f begun fuel er many p k=if lX f (cL (p.getD k 0) er.length)=true then fy f begun fuel (er++[(k:Int)]) (max many ((k:Int)+1)) (p.set k (cL (p.getD k 0) er.length))else[]:=if_neg O
       have x:∀L:dV->aa->Prop,(∀(v:Bool) i r,Mv b mb F r σ i->Un i->(v=true->I (pre.length+((List.range (k+1)).flatMap (pf f begun fuel er many p)).length) r i)->(v=false->E r i)->L (.val (bool v)) i)->aB prog m 100 [.sl 1 (er.map int) sp,int many,int k,.ref c4 0,.cp (iu b mb f 0) 0,.ref cg 0] o L:=λL T=>by
        refine QV U X Z Y a9 (pre:=pre++(List.range k).flatMap (pf f begun fuel er many p)) (post:=rest++post) hlen t (by omega) hh S J hK (by rw[N,A];simp) (by rw[List.length_append];exact K) ⟨λr i B C M=>?_,λr i B C M=>?_⟩
        . refine T true i r (u.trans B) C (λ_=>?_) (λe=>by cases e)
          rw[w,<-Nat.add_assoc,<-List.length_append];exact M
        . exact T false i r (u.trans B) C (λe=>by cases e) (λ_=>M)
       by_cases V:er.length<begun.length
       . have e1:begun.getD er.length 0=begun[er.length]:=by simp[List.getD_eq_getElem?_getD,V]
         have e2:(begun[er.length] !=(k:Int))=false:=by
          have:begun[er.length]=(k:Int):=by rw[<-e1];exact Classical.byContradiction λq=>O ⟨V,q⟩
          simp[this]
         refine rn ?_;simp[j,g,h,l,n,a,d,g1,V,e2,H];refine eL Tryz.func100 rfl rfl (by simp) (x _ λv i r B C M q4=>?_)
         cases v
         . refine rn ?_
           simp[j,g,h,l,n,a,d];exact .done (D.2 r i B C (q4 rfl))
         . refine rn ?_
           simp[j,g,h,l,n,a,d];exact⟨by omega,ih _ g1 ⟨_,_,r,rfl,by simp[j,g,h,l,n,a,d],by simp[j,g,h,l,n,a,d],by simp[j,g,h,l,n,a,d],by simp[j,g,h,l,n,a,d],by simp[j,g,h,l,n,a,d],by simp[j,g,h,l,n,a,d],by simp,B,C,M rfl⟩⟩
       . refine rn ?_
         simp[j,g,h,l,n,a,d,g1,V,H];refine eL Tryz.func100 rfl rfl (by simp) (x _ λv i r B C M q4=>?_)
         cases v
         . refine rn ?_
           simp[j,g,h,l,n,a,d];exact .done (D.2 r i B C (q4 rfl))
         . refine rn ?_
           simp[j,g,h,l,n,a,d];exact⟨by omega,ih _ g1 ⟨_,_,r,rfl,by simp[j,g,h,l,n,a,d],by simp[j,g,h,l,n,a,d],by simp[j,g,h,l,n,a,d],by simp[j,g,h,l,n,a,d],by simp[j,g,h,l,n,a,d],by simp[j,g,h,l,n,a,d],by simp,B,C,M rfl⟩⟩
   . have:k=cnt:=by omega
     subst this;refine rn ?_;simp[j,g,h,l,n,a,d];exact .done (D.1 z o u J K)
end
section
variable{b mb:Nat}{f:Fr}{begun:List Int}{y:AV}{I:Nat->(Nat->Prop)->aa->Prop}{E:(Nat->Prop)->aa->Prop}{Un:aa->Prop}{Ld:aa->List (Int × AV)->Prop}
theorem qt{sp:cG}(h:KF (.val (.fn (.func 99) [] [.cp (iu b mb f 0) 0,.cp (.sl 1 (begun.map int) sp) 0])) σ):aB prog m 63 [iu b mb f 0,.sl 1 (begun.map int) sp] σ KF:=by
 refine fs [] 2 Tryz.func63 rfl rfl (by rfl) (by kernel_rfl) ?_;simp[Tryz.f63];exact .done h
theorem YI(f:Fr):Hs f 0 [0,0,0,0,0,0]:=by
 refine⟨rfl,λx a e b=>?_,λx a=>?_⟩
 . have hb:eS 0=[]:=by decide +kernel
   simp at a;subst a;rw[hb]at b;cases b
 . simp at a;subst a;omega
theorem Mv.le{F d:Nat->Prop}{σ0 σ':aa}(h:Mv b mb F d σ σ')(a:σ0.Le σ):Mv b mb F d σ0 σ':=λc x e f g i=>h c x (a c x e) f g i
theorem nK(A:Gu prog m nn b 6 mb .u8 (dF f) Un Ld)(C:f.Good)(n:begun.length<1152921504606846976)(Y:NZ m y (ao f begun) I E)(a:y.cells=[y]/\y.flat=true){F:Nat->Prop}(D:Un σ)(o:I 0 F σ)
 (h:∀e σ',Mv b mb F e σ σ'->Un σ'->(I (ao f begun).length e σ'\/E e σ')->KF (.val (.bG [])) σ'):aB prog m 99 [y,.cp (iu b mb f 0) 0,.cp (ints begun) 0] σ KF:=by
 refine fs [] 3 Tryz.func99 rfl rfl (by rfl) (by kernel_rfl) ?_
 simp[Tryz.f99,a.1,a.2];refine bL.intro λc4 G=>?_
 simp;refine bL.intro λcg p=>?_
 obtain⟨q,k,p⟩:=aa.aF p;simp;refine bL.intro λcp i=>?_
 obtain⟨r,s,i⟩:=aa.aF i;obtain⟨t,l,i⟩:=aa.aF i;simp[q,k,r,s,t,l,aa.ag,a.1,a.2];have d:σ.Le ((((σ.set c4 (.cells [u8 0,u8 0,u8 0,u8 0,u8 0,u8 0])).set cg (.cells [.lit .nilFunc])).set cp (.cells [bo (iu b mb f 0) c4 cg])).set cg (.cells [yo (iu b mb f 0) y begun cp])):=(by repeat (first|exact aa.le_refl _|assumption|refine aa.ia ?_ (by assumption)|refine aa.jT ?_ (by assumption)))
 have H:((((σ.set c4 (.cells [u8 0,u8 0,u8 0,u8 0,u8 0,u8 0])).set cg (.cells [.lit .nilFunc])).set cp (.cells [bo (iu b mb f 0) c4 cg])).set cg (.cells [yo (iu b mb f 0) y begun cp])) c4=some (.cells (([0,0,0,0,0,0]:List Int).map u8)):=by simp[q,k,r,s,t,l,aa.ag]
 have J:((((σ.set c4 (.cells [u8 0,u8 0,u8 0,u8 0,u8 0,u8 0])).set cg (.cells [.lit .nilFunc])).set cp (.cells [bo (iu b mb f 0) c4 cg])).set cg (.cells [yo (iu b mb f 0) y begun cp])) cg=some (.cells [yo (iu b mb f 0) y begun cp]):=by simp
 have sp:((((σ.set c4 (.cells [u8 0,u8 0,u8 0,u8 0,u8 0,u8 0])).set cg (.cells [.lit .nilFunc])).set cp (.cells [bo (iu b mb f 0) c4 cg])).set cg (.cells [yo (iu b mb f 0) y begun cp])) cp=some (.cells [bo (iu b mb f 0) c4 cg]):=by simp[q,k,r,s,t,l,aa.ag]
 have g:∀c,σ c=none -> ¬F c:=λc u K=>by obtain⟨x,j,_⟩:=Y.PO _ _ _ _ o K;rw[u]at j;cases j
 refine cN.weaken (args':=[.sl 1 (([]:List Int).map int) .any,int 0]) ?_ ⟨cW 1,.refl _,trivial⟩
 refine eL Tryz.func104 rfl rfl rfl (O5 (y:=y) A C n Y a.1 f.aA.length [] 0 [0,0,0,0,0,0] .any F _ [] [] _ (by simp) (by omega) (YI f) ⟨H,J,sp,⟨g _ G,g _ p,g _ i⟩,⟨k,l⟩⟩ (A.un (λc _ ⟨x,B,_⟩=>by rw[B];exact d _ _ B) D) (by simp[ao]) (Y.frame _ _ _ _ (λc u=>by obtain⟨x,j,_⟩:=Y.PO _ _ _ _ o u;rw[j];exact d _ _ j) o) ⟨λe σ' v w z=>?_,λe σ' v w z=>?_⟩)
 . refine rn ?_
   simp;refine .done (h e σ' (v.le d) w (.inl ?_));simpa[ao]using z
 . refine rn ?_
   simp;exact .done (h e σ' (v.le d) w (.inr z))
end
section
variable{b mb:Nat}{f:Fr}{Un:aa->Prop}{Ld:aa->List (Int × AV)->Prop}
theorem sK(L:Gu prog m nn b 6 mb .u8 (dF f) Un Ld)(hf:f.Good)(Z:Un σ)(h:∀σ',Un σ'->lh b mb σ σ'->KF (.val (bool (decide (ao f []≠[])))) σ'):aB prog m 74 [iu b mb f 0] σ KF:=by
 refine fs [] 1 Tryz.func74 rfl rfl (by rfl) (by kernel_rfl) ?_
 simp[Tryz.f74];refine bL.intro λd h3=>?_
 simp;have hW:Wl [iu b mb f 0,AV.lit (.slice none 0 0)] [iu b mb f 0,ints []]:=.cons (.refl _) (.cons (cW 1) .nil);refine aH Tryz.func63 rfl rfl hW (qt (begun:=[]) ?_);refine rn ?_;simp;refine ab.rangeFunc rfl λO r l M P p=>?_
 obtain⟨r1,r2,M⟩:=aa.aF M;obtain⟨l1,n,P⟩:=aa.aF P;generalize u:mE.mk _ _ _ _ _ _ _ _ _=N
 have hY:NZ m (.fn (.yield l) [] []) (ao f []) (λk F σ'=>k=0/\(∀c,F c↔c=l\/c=d)/\σ' l=some (.loop N)/\σ' d=some (.cells [bool false])) (λF σ'=>ao f []≠[]/\(∀c,F c↔c=l\/c=d)/\σ' l=some (.loop {N with state:=.done,pending:=some (.exit 0)})/\σ' d=some (.cells [bool true])):=by
  refine⟨λk F σ' a7 hk v hT hF=>?_,λk F Q j G v=>?_,λF Q j G v=>?_,λk F σ' c v w=>?_⟩
  . obtain⟨rfl,a,s,y⟩:=v
    have e3:∀x,(σ'.set l x) d=some (.cells [bool false]):=λx=>by rw[aa.ag _ _ n];exact y
    subst u;refine cN.tP (hold:=[]) O Tryz.func74 s rfl ?_;refine rn ?_;simp[gg];refine ab.beginRound s rfl ?_;refine rn ?_;simp[gg,e3];have R:ao f []≠[]:=λe=>by rw[e]at hk;cases hk
    refine⟨rfl,rfl,_,((aa.ag _ _ l1).trans (aa.ak _ _ _)),?_⟩;refine hF F _ (λc x w hx=>⟨?_,w⟩) ⟨R,a,aa.ak _ _ _,(aa.ag _ _ n).trans (aa.ak _ _ _)⟩
    have D:c≠l:=λe=>w ((a c).2 (.inl e))
    have H:c≠d:=λe=>w ((a c).2 (.inr e))
    exact(aa.ag _ _ D).trans ((aa.ag _ _ H).trans ((aa.ag _ _ D).trans hx))
  . obtain⟨rfl,a,s,y⟩:=v
    exact⟨rfl,a,by rw[G l ((a l).2 (.inl rfl))];exact s,by rw[G d ((a d).2 (.inr rfl))];exact y⟩
  . obtain⟨q,a,s,y⟩:=v
    exact⟨q,a,by rw[G l ((a l).2 (.inl rfl))];exact s,by rw[G d ((a d).2 (.inr rfl))];exact y⟩
  . obtain⟨rfl,a,s,y⟩:=v
    rcases(a c).1 w with rfl|rfl
    . exact⟨_,s,rfl⟩
    . exact⟨_,y,rfl⟩
 obtain⟨xb,I,a8⟩:=L.N1 Z;have nb:∀c,σ c=none->c≠b:=λc w e=>by subst e;rw[w]at I;cases I
 have J:σ.Le (((σ.set d (.cells [bool false])).set r (.raw (.deferred (some [])))).set l (.loop N)):=(by repeat (first|exact aa.le_refl _|assumption|refine aa.ia ?_ (by assumption)|refine aa.jT ?_ (by assumption)))
 have sr:(((σ.set d (.cells [bool false])).set r (.raw (.deferred (some [])))).set l (.loop N)) r=some (.raw (.deferred (some []))):=by rw[aa.ag _ _ p,aa.ak]
 refine eL Tryz.func99 rfl rfl rfl (nK (F:=λc=>c=l\/c=d) L hf (by simp) hY ⟨rfl,rfl⟩ (L.un (λc _ ⟨x,i,_⟩=>(J _ _ i).trans i.symm) Z) ⟨rfl,λc=>Iff.rfl,aa.ak _ _ _,(aa.ag _ _ n).trans ((aa.ag _ _ r2).trans (aa.ak _ _ _))⟩ λF' σ' K S t=>?_)
 have z:=(K r _ sr (λe=>by rcases e with e|e;exact p e;exact r1 e) (nb r M) (.inr rfl)).1
 have A:lh b mb σ σ':=λc x i E B=>(K c x (J c x i) (λe=>by rcases e with e|e<;>subst e<;>simp_all) E B).1
 have o:∀j,j=(σ'.del l).set r (.raw (.deferred none))->Un j/\lh b mb σ j:=λj e=>by
  subst e;refine⟨L.un (σ:=σ') (λc _ ⟨x,i,E⟩=>?_) S,λc x i E B=>?_⟩
  . have D:c≠r:=λe=>by subst e;rw[z]at i;cases i;cases E
    have H:c≠l:=λe=>by
     subst e
     rcases t with⟨_,_,g,_⟩|⟨_,_,g,_⟩<;>rw[g]at i<;>cases i<;>cases E
    rw[aa.ag _ _ D];simp[aa.del,H]
  . have D:c≠r:=λe=>by subst e;rw[M]at i;cases i
    have H:c≠l:=λe=>by subst e;rw[P]at i;cases i
    rw[aa.ag _ _ D];simp only[aa.del,H,if_false];exact A c x i E B
 rcases t with⟨T,_,U,V⟩|⟨T,_,U,V⟩
 . have W:decide (ao f []≠[])=false:=by simp[List.length_eq_zero_iff.1 T]
   rw[W]at h;subst u;refine⟨_,U,by simp,rfl,?_⟩
   have C:(σ'.del l) d=some (.cells [bool false]):=by simp only[aa.del,n,Ne.symm n,if_false];simpa[n,Ne.symm n]using V
   refine rn ?_;simp[C];refine⟨by simp only[aa.del,p,if_false];exact z,.done ?_⟩
   obtain⟨X,Y⟩:=o _ rfl;exact h _ X Y
 . have W:decide (ao f []≠[])=true:=by simp[T]
   rw[W]at h;subst u;refine⟨_,U,by simp,rfl,?_⟩
   have C:(σ'.del l) d=some (.cells [bool true]):=by simp only[aa.del,n,Ne.symm n,if_false];simpa[n,Ne.symm n]using V
   refine rn ?_;simp[C];refine⟨by simp only[aa.del,p,if_false];exact z,.done ?_⟩
   obtain⟨X,Y⟩:=o _ rfl;exact h _ X Y
end
end Go.Proofs.YtigilmjkokbblaaGreatDoor
namespace Go.Proofs.YtigilmjkokbblaaGreatDoor
open Tryz (prog)
open Go Go.bd
set_option maxRecDepth 100000
abbrev ng:JE:=⟨94,96,98,115,116,127,114,122,130,117,140,141,142,143,131,126,179,166,185⟩
theorem Mx:∀(b:Nat) (kind:CallKind),bb (A0 prog ng b kind).1=some (ng.ju,[])/\(A0 prog ng b kind).1.env.all plain=true/\(A0 prog ng b kind).2=[]/\(A0 prog ng b kind).1.kind=kind:=by intro b kind;exact⟨by kernel_rfl,by kernel_rfl,by kernel_rfl,by kernel_rfl⟩
theorem My:∀(b:Nat) (kind:CallKind),bb (A1 prog ng b kind).1=some (ng.Ow,[])/\(A1 prog ng b kind).1.env.all plain=true/\(A1 prog ng b kind).2=[]/\(A1 prog ng b kind).1.kind=kind:=by intro b kind;exact⟨by kernel_rfl,by kernel_rfl,by kernel_rfl,by kernel_rfl⟩
theorem Mz:∀(b:Nat) (kind:CallKind),bb (A2 prog ng b kind).1=some (ng.sU,[pt b 0,u64 4294967296])/\vM (A2 prog ng b kind)=true/\(A2 prog ng b kind).1.env.all plain=true/\(A2 prog ng b kind).2.all (·.env.all plain)=true:=by intro b kind;exact⟨by kernel_rfl,by kernel_rfl,by kernel_rfl,by kernel_rfl⟩
theorem MB:∀(b:Nat) (kind:CallKind) (a:Fl),kU (A3 prog ng b kind (f1 a true)).1=some (ng.tS,ng.tU,pt b 1):=by intro b kind a;kernel_rfl
theorem MC:∀(b:Nat) (kind:CallKind) (a:Fl),bb (A4 prog ng b kind (f1 a true)).1=some (ng.rd,[pt b 1])/\(A4 prog ng b kind (f1 a true)).1.kind=kind:=by intro b kind a;exact⟨by kernel_rfl,by kernel_rfl⟩
theorem MD:∀(b:Nat) (kind:CallKind) (a:Fl),rJ (A5 prog ng b kind (f0 (f1 a true) false)).1=some ng.en/\(A5 prog ng b kind (f0 (f1 a true) false)).2=[]/\(A5 prog ng b kind (f0 (f1 a true) false)).1.kind=kind/\(A5 prog ng b kind (f0 (f1 a true) false)).1.fn=ng.add:=by intro b kind a;exact⟨by kernel_rfl,by kernel_rfl,by kernel_rfl,by kernel_rfl⟩
theorem ME:∀(b:Nat) (kind:CallKind) (a:Fl),rJ (A3 prog ng b kind (f0 (f1 a false) false)).1=some ng.en/\(A3 prog ng b kind (f0 (f1 a false) false)).2=[]/\(A3 prog ng b kind (f0 (f1 a false) false)).1.kind=kind/\(A3 prog ng b kind (f0 (f1 a false) false)).1.fn=ng.add:=by intro b kind a;exact⟨by kernel_rfl,by kernel_rfl,by kernel_rfl,by kernel_rfl⟩
theorem MF:∀(b:Nat),kU (D0 prog ng b).1=some (ng.tG,ng.tU,pt b 0)/\(D0 prog ng b).1.env.all plain=true/\(D0 prog ng b).2.all (·.env.all plain)=true:=by intro b;exact⟨by kernel_rfl,by kernel_rfl,by kernel_rfl⟩
theorem MG:∀(b:Nat),bb (D1 prog ng b).1=some (ng.rel,[pt b 0])/\vM (D1 prog ng b)=true/\(D1 prog ng b).1.env.all plain=true/\(D1 prog ng b).2.all (·.env.all plain)=true:=by intro b;exact⟨by kernel_rfl,by kernel_rfl,by kernel_rfl,by kernel_rfl⟩
theorem MH:∀(b:Nat),bb (D2 prog ng b).1=some (ng.ju,[])/\vM (D2 prog ng b)=true/\(D2 prog ng b).1.env.all plain=true/\(D2 prog ng b).2.all (·.env.all plain)=true:=by intro b;exact⟨by kernel_rfl,by kernel_rfl,by kernel_rfl,by kernel_rfl⟩
theorem MI:∀(b:Nat),bb (D3 prog ng b).1=some (ng.Ow,[])/\vM (D3 prog ng b)=true/\(D3 prog ng b).1.env.all plain=true/\(D3 prog ng b).2.all (·.env.all plain)=true:=by intro b;exact⟨by kernel_rfl,by kernel_rfl,by kernel_rfl,by kernel_rfl⟩
theorem MJ:∀(b:Nat),bb (D4 prog ng b).1=some (ng.sU,[pt b 0,u64 18446744069414584320])/\vM (D4 prog ng b)=true/\(D4 prog ng b).1.env.all plain=true/\(D4 prog ng b).2.all (·.env.all plain)=true:=by intro b;exact⟨by kernel_rfl,by kernel_rfl,by kernel_rfl,by kernel_rfl⟩
theorem MK:∀(b:Nat) (a:Fl) (x:Bool),rJ (DE prog ng b (f0 a x) 0).1=some ng.en:=by intro b a x;cases x<;>kernel_rfl
theorem Jv:∀(b:Nat) (a:Fl) (x:Bool),kE (mz prog (f0 a x) (DE prog ng b (f0 a x) 0)).1 ng.done=true/\(mz prog (f0 a x) (DE prog ng b (f0 a x) 0)).2=[]/\(mz prog (f0 a x) (DE prog ng b (f0 a x) 0)).1.kind=.deferred:=by intro b a x;cases x<;>exact⟨by kernel_rfl,by kernel_rfl,by kernel_rfl⟩
theorem ML:∀(b:Nat) (a:Fl),rJ (DE prog ng b (f0 a false) 1).1=some ng.en:=by intro b a;kernel_rfl
theorem Jw:∀(b:Nat) (a:Fl),kE (mz prog (f0 a false) (DE prog ng b (f0 a false) 1)).1 ng.done=true/\(mz prog (f0 a false) (DE prog ng b (f0 a false) 1)).2=[]/\(mz prog (f0 a false) (DE prog ng b (f0 a false) 1)).1.kind=.deferred:=by intro b a;exact⟨by kernel_rfl,by kernel_rfl,by kernel_rfl⟩
theorem MM:∀(b:Nat) (a:Fl),bb (DE prog ng b (f0 a true) 1).1=some (ng.vC,[pt b 0])/\vM (DE prog ng b (f0 a true) 1)=true:=by intro b a;exact⟨by kernel_rfl,by kernel_rfl⟩
theorem MN:∀(b:Nat) (a:Fl),bb (D6 prog ng b (f0 a true)).1=some (ng.Ie,[pt b 0,u64 0])/\vM (D6 prog ng b (f0 a true))=true:=by intro b a;exact⟨by kernel_rfl,by kernel_rfl⟩
theorem MO:∀(b:Nat) (a:Fl),bb (D7 prog ng b (f0 a true)).1=some (ng.oH,[pt b 1,ff,i64 0])/\vM (D7 prog ng b (f0 a true))=true:=by intro b a;exact⟨by kernel_rfl,by kernel_rfl⟩
theorem MP:∀(b:Nat) (a:Fl),rJ (D8 prog ng b (f0 a true)).1=some ng.en:=by intro b a;kernel_rfl
theorem MQ:∀(b:Nat) (a:Fl),kE (mz prog (f0 a true) (D8 prog ng b (f0 a true))).1 ng.done=true/\(mz prog (f0 a true) (D8 prog ng b (f0 a true))).2=[]/\(mz prog (f0 a true) (D8 prog ng b (f0 a true))).1.kind=.deferred:=by intro b a;exact⟨by kernel_rfl,by kernel_rfl,by kernel_rfl⟩
theorem MR:∀(b:Nat) (kind:CallKind),bb (W0 prog ng b kind).1=some (ng.ju,[])/\(W0 prog ng b kind).1.env.all plain=true/\(W0 prog ng b kind).2=[]/\(W0 prog ng b kind).1.kind=kind:=by intro b kind;exact⟨by kernel_rfl,by kernel_rfl,by kernel_rfl,by kernel_rfl⟩
theorem MT:∀(b:Nat) (kind:CallKind),bb (W1 prog ng b kind).1=some (ng.vC,[pt b 0])/\vM (W1 prog ng b kind)=true/\(W1 prog ng b kind).1.env.all plain=true/\(W1 prog ng b kind).2.all (·.env.all plain)=true:=by intro b kind;exact⟨by kernel_rfl,by kernel_rfl,by kernel_rfl,by kernel_rfl⟩
theorem MU:∀(b:Nat) (kind:CallKind) (a:Fl),bb (WE prog ng b kind (f0 a true)).1=some (ng.en,[])/\(WE prog ng b kind (f0 a true)).1.kind=kind:=by intro b kind a;exact⟨by kernel_rfl,by kernel_rfl⟩
theorem MV:∀(b:Nat) (kind:CallKind) (a:Fl),kU (WC prog ng b kind (f0 a true)).1=some (ng.tG,ng.tU,pt b 0):=by intro b kind a;kernel_rfl
theorem MX:∀(b:Nat) (kind:CallKind) (a:Fl),bb (WA prog ng b kind (f0 a true)).1=some (ng.acq,[pt b 0])/\(WA prog ng b kind (f0 a true)).1.kind=kind:=by intro b kind a;exact⟨by kernel_rfl,by kernel_rfl⟩
theorem MY:∀(b:Nat) (kind:CallKind) (a:Fl),kE (WB prog ng b kind (f0 a true)).1 ng.wait=true/\(WB prog ng b kind (f0 a true)).2=[]/\(WB prog ng b kind (f0 a true)).1.kind=kind:=by intro b kind a;exact⟨by kernel_rfl,by kernel_rfl,by kernel_rfl⟩
theorem MZ:∀(b:Nat) (kind:CallKind) (a:Fl),bb (WE prog ng b kind (f0 a false)).1=some (ng.xB,[pt b 0,.eC 0,.eC 1])/\vM (WE prog ng b kind (f0 a false))=true:=by intro b kind a;exact⟨by kernel_rfl,by kernel_rfl⟩
theorem M0:∀(b:Nat) (kind:CallKind) (a:Fl),G1 [5] [[0]] (next prog (f0 a false) (WE prog ng b kind (f0 a false)) ff)=W1 prog ng b kind:=by intro b kind a;kernel_rfl
theorem M3:∀(b:Nat) (kind:CallKind) (a:Fl),kU (W3 prog ng b kind (f0 a false)).1=some (ng.tS,ng.tU,pt b 1):=by intro b kind a;kernel_rfl
theorem M4:∀(b:Nat) (kind:CallKind) (a:Fl),bb (RF prog ng b kind (f0 a false)).1=some (ng.wr,[pt b 1])/\(RF prog ng b kind (f0 a false)).1.kind=kind:=by intro b kind a;exact⟨by kernel_rfl,by kernel_rfl⟩
theorem M5:∀(b:Nat) (kind:CallKind) (a:Fl),bb (W4 prog ng b kind (f0 a false)).1=some (ng.Fo,[pt b 1,ff])/\(W4 prog ng b kind (f0 a false)).1.kind=kind:=by intro b kind a;exact⟨by kernel_rfl,by kernel_rfl⟩
theorem M6:∀(b:Nat) (kind:CallKind) (a:Fl),bb (W5 prog ng b kind (f0 a false)).1=some (ng.vC,[pt b 0])/\vM (W5 prog ng b kind (f0 a false))=true:=by intro b kind a;exact⟨by kernel_rfl,by kernel_rfl⟩
theorem M7:∀(b:Nat) (kind:CallKind) (a:Fl),bb (RG prog ng b kind (f0 a false)).1=some (ng.en,[])/\(RG prog ng b kind (f0 a false)).1.kind=kind:=by intro b kind a;exact⟨by kernel_rfl,by kernel_rfl⟩
theorem M8:∀(b:Nat) (kind:CallKind) (a:Fl),kU (Tn prog ng b kind (f0 a false)).1=some (ng.tG,ng.tU,pt b 0):=by intro b kind a;kernel_rfl
theorem M9:∀(b:Nat) (kind:CallKind) (a:Fl),bb (RH prog ng b kind (f0 a false)).1=some (ng.acq,[pt b 0])/\(RH prog ng b kind (f0 a false)).1.kind=kind:=by intro b kind a;exact⟨by kernel_rfl,by kernel_rfl⟩
theorem Na:∀(b:Nat) (kind:CallKind) (a:Fl),kE (PC prog ng b kind (f0 a false)).1 ng.wait=true/\(PC prog ng b kind (f0 a false)).2=[]/\(PC prog ng b kind (f0 a false)).1.kind=kind:=by intro b kind a;exact⟨by kernel_rfl,by kernel_rfl,by kernel_rfl⟩
theorem Ud:jH prog ng where
 a0:=Mx
 a1:=My
 a2:=Mz
 a3:=MB
 a4:=MC
 a5:=MD
 a6:=ME
 d0:=MF
 d1:=MG
 d2:=MH
 d3:=MI
 d4:=MJ
 d5:=MK
 Wr:=Jv
 d6:=ML
 Wt:=Jw
 d7:=MM
 d8:=MN
 d9:=MO
 da:=MP
 db:=MQ
 w0:=MR
 w1:=MT
 w2:=MU
 w3:=MV
 w4:=MX
 w5:=MY
 w6:=MZ
 w7:=M0
 w8:=M3
 w9:=M4
 wa:=M5
 wb:=M6
 wc:=M7
 wd:=M8
 we:=M9
 wf:=Na
theorem Ue:ll prog ng where
 ju:=⟨_,rfl,rfl,rfl,rfl,rfl⟩
 en:=⟨_,rfl,rfl,rfl,rfl,rfl⟩
 acq:=⟨_,rfl,rfl,rfl,rfl,rfl⟩
 rel:=⟨_,rfl,rfl,rfl,rfl,rfl⟩
 rd:=⟨_,rfl,rfl,rfl,rfl,rfl⟩
 wr:=⟨_,rfl,rfl,rfl,rfl,rfl⟩
 Ow:=⟨_,rfl,rfl,rfl,rfl,rfl⟩
 sU:=⟨_,rfl,rfl,rfl,rfl,rfl⟩
 vC:=⟨_,rfl,rfl,rfl,rfl,rfl⟩
 Ie:=⟨_,rfl,rfl,rfl,rfl,rfl⟩
 xB:=⟨_,rfl,rfl,rfl,rfl,rfl⟩
 Fo:=⟨_,rfl,rfl,rfl,rfl,rfl⟩
 oH:=⟨_,rfl,rfl,rfl,rfl,rfl⟩
 Wu:=⟨_,rfl,rfl,rfl⟩
 Wv:=⟨_,rfl,rfl,rfl⟩
 Qx:=⟨_,_,rfl,rfl,rfl,rfl⟩
 K6:=⟨_,_,rfl,rfl,rfl,rfl⟩
 K7:=⟨_,_,rfl,rfl,rfl,rfl⟩
end Go.Proofs.YtigilmjkokbblaaGreatDoor
namespace Go.Proofs.YtigilmjkokbblaaGreatDoor
open Tryz (prog)
open Go.bd Go.Conc
set_option maxHeartbeats 1000000
set_option maxRecDepth 4000
variable{m:Mo}{σ:aa}{KF:dV->aa->Prop}
theorem tO:rK prog nn:=⟨⟨_,_,Tryz.func132,rfl,rfl,rfl⟩,⟨_,_,Tryz.func133,rfl,rfl,rfl⟩⟩
section
variable{b mb:Nat}{f:Fr}{A:eu}{j:Nat}{begun:List Int}
theorem F6{b:ah}(a:A.ng=ng){body:Code}(hb:Tryz.f97.body=some body):ab prog (xH prog A) 97 4 none [] [.code body] ⟨dD [.ref A.gb 0,.cp (.chan A.cF) 0],kK A.fb,[],.told .deferred [di prog] b⟩ (λ_ _=>False):=by
 simp only[Tryz.f97,Option.some.injEq]at hb;subst hb;refine ab.runN lay [] 2 ?_;simp;refine ab.LM rfl (by rw[a];rfl) rfl (by simp) (by rw[a];exact Tryz.func98) rfl rfl rfl ?_;refine rn ?_;simp;exact ab.FM rfl rfl (by simp) rfl rfl rfl rfl rfl Tryz.func97 rfl rfl
theorem yp{V:ah}(W:A.fb=b/\A.mb=mb/\A.fo=6/\A.nm=nn/\A.ng=ng)(X:∀x,A.GI x↔∃l,x=mapA .u8 l/\dF f l)(Y:f.Good)(q:A.res j=int (ao f begun).length)(z:begun.length<1152921504606846976)(hlen:(ao f begun).length<1152921504606846976){body:Code}(hb:Tryz.f95.body=some body):
 ab prog (lC prog A j) 95 13 none [] [.code body] ⟨dD [.ref A.gb 0,.cp (iu b mb f 0) 0,.cp (ints begun) 0,.cp (.chan A.cF) 0],kK A.fb,[],.told .deferred [di prog] V⟩ (λ_ _=>False):=by
 obtain⟨rfl,rfl,B,C,s⟩:=W;simp only[Tryz.f95,Option.some.injEq]at hb;subst hb;have T:=LN (P:=prog) (A:=A) (j:=j) (kd:=.u8) X;rw[B,C]at T;refine rn ?_;simp;refine ab.defer rfl rfl rfl rfl (by simp) rfl ?_
 refine rn ?_;simp;refine bL.intro λcn t=>?_
 simp;refine cf Tryz.func63 rfl (qt (begun:=begun) (sp:=.any) ?_);refine rn ?_;simp;refine ab.rangeFunc rfl λD r l u n g=>?_
 obtain⟨Z,r2,u⟩:=aa.aF u;obtain⟨l1,h,n⟩:=aa.aF n;generalize v:mE.mk _ _ _ _ _ _ _ _ _=E
 have hY:NZ (lC prog A j) (.fn (.yield l) [] []) (ao f begun) (λk F a=>(∀c,F c↔c=l\/c=cn)/\a l=some (.loop E)/\a cn=some (.cells [int k])) (λF a=>False):=by
  refine⟨λk F a a7 hk i hT hF=>?_,λk F G H I i=>?_,λF G H I i=>i.elim,λk F a c i m=>?_⟩
  . obtain⟨d,o,w⟩:=i
    have e3:∀x,(a.set l x) cn=some (.cells [int k]):=λx=>(aa.ag _ _ h).trans w
    have f1:-9223372036854775808<=(k:Int)+1/\(k:Int)+1<=9223372036854775807:=by omega
    subst v;refine cN.tP (hold:=[]) D Tryz.func95 o rfl ?_;refine rn ?_;simp[gg];refine ab.beginRound o rfl ?_;refine rn ?_;simp[gg,e3,f1.1,f1.2];refine⟨rfl,rfl,_,((aa.ag _ _ l1).trans (aa.ak _ _ _)),?_⟩;refine hT F _ (λc x m hx=>⟨?_,m⟩) ⟨d,aa.ak _ _ _,(aa.ag _ _ h).trans (aa.ak _ _ _)⟩
    have U:c≠l:=λe=>m ((d c).2 (.inl e))
    have c2:c≠cn:=λe=>m ((d c).2 (.inr e))
    exact(aa.ag _ _ U).trans ((aa.ag _ _ c2).trans ((aa.ag _ _ U).trans hx))
  . obtain⟨d,o,w⟩:=i
    exact⟨d,by rw[I l ((d l).2 (.inl rfl))];exact o,by rw[I cn ((d cn).2 (.inr rfl))];exact w⟩
  . obtain⟨d,o,w⟩:=i
    rcases(d c).1 m with rfl|rfl
    . exact⟨_,o,rfl⟩
    . exact⟨_,w,rfl⟩
 have hu:WJ A.fb (((kK A.fb).set cn (.cells [int 0])).set r (.raw (.deferred (some [])))|>.set l (.loop E)):=by
  have p:(kK A.fb) A.fb=some .kg:=by simp[kK]
  have J:A.fb≠cn:=λe=>by rw[<-e,p]at t;cases t
  have K:A.fb≠r:=λe=>by rw[<-e,p]at u;cases u
  have L:A.fb≠l:=λe=>by rw[<-e,p]at n;cases n
  show _=_;rw[aa.ag _ _ L,aa.ag _ _ K,aa.ag _ _ J];exact p
 have nb:∀c,(kK A.fb) c=none->c≠A.fb:=λc m e=>by subst e;simp[kK]at m
 have sr:(((kK A.fb).set cn (.cells [int 0])).set r (.raw (.deferred (some [])))|>.set l (.loop E)) r=some (.raw (.deferred (some []))):=(aa.ag _ _ g).trans (aa.ak _ _ _)
 refine eL Tryz.func99 rfl rfl rfl (nK (F:=λc=>c=l\/c=cn) T Y z hY ⟨rfl,rfl⟩ hu ⟨λc=>Iff.rfl,aa.ak _ _ _,(aa.ag _ _ h).trans ((aa.ag _ _ r2).trans (aa.ak _ _ _))⟩ λF' a M N y=>?_)
 have O:=(M r _ sr (λe=>by rcases e with e|e;exact g e;exact Z e) (nb r u) (.inr rfl)).1
 rcases y with⟨_,J,K⟩|hE
 . subst v
   refine⟨_,J,by simp,rfl,?_⟩
   have Q:(a.del l) cn=some (.cells [int (ao f begun).length]):=by simp only[aa.del,h,Ne.symm h,if_false];simpa[h,Ne.symm h]using K
   have R:(a.del l) A.fb=some .kg:=by
    have L:A.fb≠l:=λe=>by
     have p:(kK A.fb) A.fb=some .kg:=by simp[kK]
     rw[<-e,p]at n;cases n
    simp only[aa.del,L,if_false];exact N
   have S:(a.del l) r=some (.raw (.deferred (some []))):=by simp only[aa.del,g,if_false];exact O
   refine rn ?_;simp[Q];refine ab.LL rfl rfl (by simp) rfl rfl (by rw[q];simp) R rfl rfl Tryz.func95 rfl (by rw[s];exact Tryz.func96) rfl rfl ?_
   refine rn ?_;simp;refine⟨rfl,.inl rfl,⟨_,rfl⟩,r,by rw[s],S⟩
 . exact hE.elim
end
def jz(j:Nat):List Int:=if j=0 then[0,0]else[0,1]
def lx(f:Fr):Int:=if f.aA.length<2 then 1 else(ao f [0,0]).length+(ao f [0,1]).length
theorem Nb{v d:AV}(n:v.cells=[v])(g:d.cells=[d])(h:v.W d):(AV.cp v 0).W (.cp d 0):=λk x o=>by
 cases o with
 | cp b base off N E v c p i l m=>
   rw[n]at i l m;refine .cp b base 0 N E d c p (by rw[g];exact i) (λj e=>l j (by rw[g]at e;exact e)) (λj a f=>?_)
   rw[g]at f
   have e:j=0:=by have:=(List.getElem?_eq_some_iff.1 f).1;simp at this;exact this
   subst e;simp at f;subst f;exact h k _ (m 0 v rfl)
section
variable{b mb:Nat}{f:Fr}
theorem CR(hs:m.solo=true)(L:f.Good)(hlen:(ao f [0,0]).length<1000000000/\(ao f [0,1]).length<1000000000)(v:b≠mb)(X:yA b 6 mb .u8 (dF f) σ)(h:∀σ',yA b 6 mb .u8 (dF f) σ'->lh b mb σ σ'->KF (.val (int (lx f))) σ'):aB prog m 61 [iu b mb f 0] σ KF:=by
 have h6:=L.vw;unfold lx at h;refine fs [] 1 Tryz.func61 rfl rfl (by rfl) (by kernel_rfl) ?_
 simp[Tryz.f61]
 by_cases Y:f.aA.length<2
 . have q:(f.aA.length:Int)<2:=by omega
   rw[if_pos Y]at h;simp[q];exact .done (h σ X (lh.refl b mb σ))
 have q:¬(f.aA.length:Int)<2:=by omega
 rw[if_neg Y]at h;obtain⟨E,lm,w,u3⟩:=X;simp[q];refine DU lay rfl Hm rfl rl rfl (by decide) λcF o=>?_
 refine rn ?_;simp;refine bL.intro λF i=>?_
 obtain⟨G,H,i⟩:=aa.aF i;simp;refine bL.intro λgb g=>?_
 obtain⟨I,J,g⟩:=aa.aF g;obtain⟨K,y,g⟩:=aa.aF g;simp[G,H,I,J,K,y];have M:cF≠b:=λe=>by rw[e,E]at o;cases o
 have N:cF≠mb:=λe=>by rw[e,w]at o;cases o
 have Z:F≠b:=λe=>by rw[e,E]at i;cases i
 have m3:F≠mb:=λe=>by rw[e,w]at i;cases i
 have r:gb≠b:=λe=>by rw[e,E]at g;cases g
 have gm:gb≠mb:=λe=>by rw[e,w]at g;cases g
 refine ab.bY 3 (b:=F) (.chan cF) (by simp[I,J,K,y,G,H,aa.ag]) (by simp) rfl ?_
 refine ab.cB hs ⟨2,cF,b,6,gb,mb,λx=>∃l,x=mapA .u8 l/\dF f l,λj=>int (ao f (jz j)).length,nn,ng,by omega,M,y,N,Ne.symm r,v,gm⟩ Ud Ue nH nI tO (tm:=false) (a:=mapA .u8 lm) (by simp[aa.del,aa.ag,G,H,I,J,K,y]) (by simp[aa.del,aa.ag,G,H,I,J,K,y]) (by simp[aa.del,aa.set,Z,Ne.symm Z,r,Ne.symm r,M,Ne.symm M,E]) (by simp[aa.del,aa.set,m3,Ne.symm m3,gm,Ne.symm gm,N,Ne.symm N,w]) (by simp[mapA]) ⟨lm,rfl,u3⟩ rfl λpb a7 Fin kd a8 k0 z=>?_
 refine ab.LO ?_;refine ab.runN lay [] 18 ?_;simp;refine bL.intro λO A=>?_
 have d:O≠b:=λe=>by subst e;simp at A
 simp
 change ab _ _ _ _ _ _ _ _ _
 refine ab.bY 6 (b:=O) (.sl 1 [int 0,int 0] .exact) (aa.ak _ _ _) (by simp) rfl ?_
 refine ab.zt 6 (a':=.cp (ints [0,0]) 0) (by simp;exact Nb rfl rfl (ck 1 [int 0,int 0] .exact)) ?_
 refine ab.OV rfl rfl rfl (by simp) Tryz.func94 rfl rfl rfl ?_
 refine rn ?_;simp;refine ab.vv (hold':=[]) rfl rfl rfl (by simp) rfl Tryz.func95 rfl rfl (by show(4:Nat)<=13;decide) (by simp[lp.at,aa.del,aa.set,d,Ne.symm d,d,Ne.symm d]) (by kernel_rfl) (λk1=>yp (b:=b) (mb:=mb) (f:=f) (begun:=[0,0]) ⟨rfl,rfl,rfl,rfl,rfl⟩ (λx=>Iff.rfl) L rfl (by simp) (by omega) rfl) ?_
 refine rn ?_;simp;refine ab.again (by kernel_rfl) ?_
 refine ab.runN lay [] 18 ?_;simp;refine bL.intro λP B=>?_
 have k:P≠b:=λe=>by subst e;simp[aa.del,aa.set,d,Ne.symm d]at B
 simp
 change ab _ _ _ _ _ _ _ _ _
 refine ab.bY 6 (b:=P) (.sl 1 [int 0,int 1] .exact) (aa.ak _ _ _) (by simp) rfl ?_
 refine ab.zt 6 (a':=.cp (ints [0,1]) 0) (by simp;exact Nb rfl rfl (ck 1 [int 0,int 1] .exact)) ?_
 refine ab.OV rfl rfl rfl (by simp) Tryz.func94 rfl rfl rfl ?_
 refine rn ?_;simp;refine ab.vv (hold':=[]) rfl rfl rfl (by simp) rfl Tryz.func95 rfl rfl (by show(4:Nat)<=13;decide) (by simp[lp.at,aa.del,aa.set,k,Ne.symm k,d,Ne.symm d]) (by kernel_rfl) (λk1=>yp (b:=b) (mb:=mb) (f:=f) (begun:=[0,1]) ⟨rfl,rfl,rfl,rfl,rfl⟩ (λx=>Iff.rfl) L rfl (by simp) (by omega) rfl) ?_
 refine rn ?_;simp;refine ab.again (by kernel_rfl) ?_
 refine rn ?_;simp;refine ab.VK (hold':=[]) rfl rfl rfl (by simp) rfl Tryz.func97 rfl rfl (by show(2:Nat)<=4;decide) (by simp[lp.at,aa.del,aa.set,k,Ne.symm k,d,Ne.symm d]) (by kernel_rfl) (λk1=>F6 rfl rfl) ?_
 refine rn ?_;simp;refine ab.LO ?_;refine rn ?_;simp;refine ab.Hi lay rfl rfl Hm rfl rl (by simp) rfl rfl λp Q=>?_
 have s:∀j,(ao f (jz j)).length<1000000000:=λj=>by
  unfold jz;split
  . exact hlen.1
  . exact hlen.2
 have f1:-9223372036854775808<=((ao f (jz p)).length:Int)/\((ao f (jz p)).length:Int)<=9223372036854775807:=by have:=s p;omega
 refine rn ?_;simp[lp.at,f1.1,f1.2];refine ab.again (by kernel_rfl) ?_
 refine rn ?_;simp;refine ab.Hi lay rfl rfl Hm rfl rl (by simp) rfl rfl λt R=>?_
 have f2:-9223372036854775808<=((ao f (jz p)).length:Int)+((ao f (jz t)).length:Int)/\((ao f (jz p)).length:Int)+((ao f (jz t)).length:Int)<=9223372036854775807:=by have:=s p;have:=s t;omega
 refine rn ?_;simp[lp.at,f2.1,f2.2];refine ab.again (by kernel_rfl) ?_
 refine rn ?_;simp;refine ab.BT lay rfl rfl Hm rfl rl (by simp) rfl rfl (by simp[aa.del,aa.set,k,Ne.symm k,d,Ne.symm d]) rfl z λa ha=>?_
 refine rn ?_;simp
 have C:((ao f (jz p)).length:Int)+((ao f (jz t)).length:Int)=((ao f [0,0]).length:Int)+((ao f [0,1]).length:Int):=by
  have n:p∈List.range 2:=Q;have u:t∈(List.range 2).erase p:=R;have:p=0\/p=1:=by have:=List.mem_range.1 n;omega
  rcases this with rfl|rfl
  . have:t=1:=by simpa[List.range,List.range.loop]using u
    subst this;rfl
  . have:t=0:=by simpa[List.range,List.range.loop]using u
    subst this;exact Int.add_comm _ _
 rw[C];obtain⟨la,rfl,S⟩:=ha;refine .done (h _ ⟨aa.ak _ _ _,la,(aa.ag _ _ (Ne.symm v)).trans (aa.ak _ _ _),S⟩ λc x n u D=>?_)
 have T:c≠mb:=λe=>by
  subst e;rw[w]at n;cases n
  rcases D with D|D
  . exact D rfl
  . cases D
 have U:c≠cF:=λe=>by subst e;rw[o]at n;cases n
 have V:c≠F:=λe=>by subst e;rw[i]at n;cases n
 have W:c≠gb:=λe=>by subst e;rw[g]at n;cases n
 have e5:c≠O:=λe=>by subst e;simp[aa.del,aa.set,T,U,V,W,u,n]at A
 have e6:c≠P:=λe=>by subst e;simp[aa.del,aa.set,T,U,V,W,e5,u,n]at B
 simp[aa.del,aa.set,T,U,V,W,e5,e6,u,n]
end
section
variable{b mb:Nat}{f:Fr}{Un:aa->Prop}{Ld:aa->List (Int × AV)->Prop}
theorem rA(W:Gu prog m nn b 6 mb .u8 (dF f) Un Ld)(hf:f.Good){L:AV}{p:List Int->Bool}(B:L.cells=[L]/\L.flat=true)(a7:∀w∈ao f [],∀(σ:aa) (KF:dV->aa->Prop),KF (.val (bool (p w))) σ->cN prog m L [ints w] σ KF)(hlen:(ao f []).length<1152921504606846976)(hu:Un σ)
 (h:∀σ',Un σ'->lh b mb σ σ'->KF (.val (.bG [int (((ao f []).filter p).length),int (ao f []).length])) σ'):aB prog m 68 [iu b mb f 0,L] σ KF:=by
 refine fs TV 2 Tryz.func68 rfl rfl (by rfl) (by kernel_rfl) ?_
 simp[Tryz.f68,B.1,B.2];refine bL.intro λj h6=>?_
 simp;refine bL.intro λi h7=>?_
 obtain⟨X,z2,h7⟩:=aa.aF h7;simp[X,z2,aa.ag];have hW:Wl [iu b mb f 0,AV.lit (.slice none 0 0)] [iu b mb f 0,ints []]:=.cons (.refl _) (.cons (cW 1) .nil);refine aH Tryz.func63 rfl rfl hW (qt (begun:=[]) ?_);refine rn ?_;simp;refine ab.rangeFunc rfl λa8 r l t v C=>?_
 obtain⟨a1,_,t⟩:=aa.aF t;obtain⟨a2,_,t⟩:=aa.aF t;obtain⟨_,_,t⟩:=aa.aF t;obtain⟨_,_,t⟩:=aa.aF t;obtain⟨a3,_,v⟩:=aa.aF v;obtain⟨a4,_,v⟩:=aa.aF v;obtain⟨_,_,v⟩:=aa.aF v;obtain⟨_,_,v⟩:=aa.aF v;have z:σ r=none/\r≠j/\r≠i:=⟨t,a2,a1⟩;have d:σ l=none/\l≠j/\l≠i:=⟨v,a4,a3⟩;generalize M:mE.mk _ _ _ _ _ _ _ _ _=N
 have hY:NZ m (.fn (.yield l) [] []) (ao f []) (λk F σ'=>(∀c,F c↔c=l\/c=j\/c=i)/\σ' l=some (.loop N)/\σ' j=some (.cells [int ((((ao f []).take k).filter p).length)])/\σ' i=some (.cells [int k])) (λF σ'=>False):=by
  refine⟨λk F σ' ay hk D hT hF=>?_,λk F a9 o Y D=>?_,λF a9 o Y D=>D.elim,λk F σ' c D s=>?_⟩
  . obtain⟨a,J,O,P⟩:=D
    have e7:∀x,(σ'.set l x) i=some (.cells [int k]):=λx=>(aa.ag _ _ (Ne.symm d.2.2)).trans P
    have f1:-9223372036854775808<=(k:Int)+1/\(k:Int)+1<=9223372036854775807:=by omega
    have b0:(((ao f []).take k).filter p).length<=k:=Nat.le_trans (List.length_filter_le _ _) (by rw[List.length_take];omega)
    have f2:-9223372036854775808<=((((ao f []).take k).filter p).length:Int)+1/\((((ao f []).take k).filter p).length:Int)+1<=9223372036854775807:=by omega
    have u:(((ao f []).take (k+1)).filter p).length=(((ao f []).take k).filter p).length+if p (ao f [])[k]then 1 else 0:=by
     rw[List.take_succ_eq_append_getElem hk,List.filter_append,List.length_append];congr 1
     by_cases Z:p (ao f [])[k]<;>simp[List.filter_cons,Z]
    have Q:(ao f [])[k]∈ao f []:=List.getElem_mem hk;subst M;refine cN.tP (hold:=TV) a8 Tryz.func68 J rfl ?_;refine rn ?_;simp[gg];refine ab.beginRound J rfl ?_;refine rn ?_;simp[gg,e7,f1.1,f1.2,B.1];refine a7 _ Q _ _ ?_;have e6:∀x y,((σ'.set l x).set i y) j=some (.cells [int ((((ao f []).take k).filter p).length)]):=λx y=>(aa.ag _ _ (Ne.symm X)).trans ((aa.ag _ _ (Ne.symm d.2.1)).trans O)
    cases Z:p (ao f [])[k]
    . refine rn ?_
      simp;refine⟨rfl,rfl,_,((aa.ag _ _ d.2.2).trans (aa.ak _ _ _)),?_⟩;refine hT F _ (λc x s hx=>⟨?_,s⟩) ⟨a,aa.ak _ _ _,?_,(aa.ag _ _ (Ne.symm d.2.2)).trans (aa.ak _ _ _)⟩
      . have E:c≠l:=λe=>s ((a c).2 (.inl e))
        have R:c≠i:=λe=>s ((a c).2 (.inr (.inr e)))
        exact(aa.ag _ _ E).trans ((aa.ag _ _ R).trans ((aa.ag _ _ E).trans hx))
      . refine(aa.ag _ _ (Ne.symm d.2.1)).trans ((e6 _ _).trans ?_)
        rw[u,Z];rfl
    . refine rn ?_
      simp[e6,f2.1,f2.2];refine⟨rfl,rfl,_,((aa.ag _ _ d.2.1).trans ((aa.ag _ _ d.2.2).trans (aa.ak _ _ _))),?_⟩;refine hT F _ (λc x s hx=>⟨?_,s⟩) ⟨a,aa.ak _ _ _,?_,(aa.ag _ _ (Ne.symm d.2.2)).trans ((aa.ag _ _ X).trans (aa.ak _ _ _))⟩
      . have E:c≠l:=λe=>s ((a c).2 (.inl e))
        have q2:c≠j:=λe=>s ((a c).2 (.inr (.inl e)))
        have R:c≠i:=λe=>s ((a c).2 (.inr (.inr e)))
        exact(aa.ag _ _ E).trans ((aa.ag _ _ q2).trans ((aa.ag _ _ R).trans ((aa.ag _ _ E).trans hx)))
      . refine(aa.ag _ _ (Ne.symm d.2.1)).trans ((aa.ak _ _ _).trans ?_)
        rw[u,Z];simp
  . obtain⟨a,J,O,P⟩:=D
    exact⟨a,by rw[Y l ((a l).2 (.inl rfl))];exact J,by rw[Y j ((a j).2 (.inr (.inl rfl)))];exact O,by rw[Y i ((a i).2 (.inr (.inr rfl)))];exact P⟩
  . obtain⟨a,J,O,P⟩:=D
    rcases(a c).1 s with rfl|rfl|rfl
    . exact⟨_,J,rfl⟩
    . exact⟨_,O,rfl⟩
    . exact⟨_,P,rfl⟩
 obtain⟨xb,S,b1⟩:=W.N1 hu;have nb:∀c,σ c=none->c≠b:=λc s e=>by subst e;rw[s]at S;cases S
 have T:σ.Le ((((((σ.set j (.cells [int 0])).set i (.cells [int 0])).set j (.cells [int 0])).set i (.cells [int 0])).set r (.raw (.deferred (some [])))).set l (.loop N)):=(by repeat (first|exact aa.le_refl _|assumption|refine aa.ia ?_ (by assumption)|refine aa.jT ?_ (by assumption)))
 have sr:((((((σ.set j (.cells [int 0])).set i (.cells [int 0])).set j (.cells [int 0])).set i (.cells [int 0])).set r (.raw (.deferred (some [])))).set l (.loop N)) r=some (.raw (.deferred (some []))):=(aa.ag _ _ C).trans (aa.ak _ _ _);have s7:((((((σ.set j (.cells [int 0])).set i (.cells [int 0])).set j (.cells [int 0])).set i (.cells [int 0])).set r (.raw (.deferred (some [])))).set l (.loop N)) i=some (.cells [int 0]):=(aa.ag _ _ (Ne.symm d.2.2)).trans ((aa.ag _ _ (Ne.symm z.2.2)).trans (aa.ak _ _ _))
 have s6:((((((σ.set j (.cells [int 0])).set i (.cells [int 0])).set j (.cells [int 0])).set i (.cells [int 0])).set r (.raw (.deferred (some [])))).set l (.loop N)) j=some (.cells [int 0]):=(aa.ag _ _ (Ne.symm d.2.1)).trans ((aa.ag _ _ (Ne.symm z.2.1)).trans ((aa.ag _ _ (Ne.symm X)).trans (aa.ak _ _ _)))
 refine eL Tryz.func99 rfl rfl rfl (nK (F:=λc=>c=l\/c=j\/c=i) W hf (by simp) hY ⟨rfl,rfl⟩ (W.un (λc _ ⟨x,n,_⟩=>(T _ _ n).trans n.symm) hu) ⟨λc=>Iff.rfl,aa.ak _ _ _,by simpa using s6,by simpa using s7⟩ λF' σ' U ad A=>?_)
 have V:=(U r _ sr (λe=>by rcases e with e|e|e;exact C e;exact z.2.1 e;exact z.2.2 e) (nb r t) (.inr rfl)).1
 have G:lh b mb σ σ':=λc x n K H=>(U c x (T c x n) (λe=>by rcases e with e|e|e<;>subst e<;>simp_all) K H).1
 have I:∀o,o=(σ'.del l).set r (.raw (.deferred none))->Un o/\lh b mb σ o:=λo e=>by
  subst e;refine⟨W.un (σ:=σ') (λc _ ⟨x,n,K⟩=>?_) ad,λc x n K H=>?_⟩
  . have c1:c≠r:=λe=>by subst e;rw[V]at n;cases n;cases K
    have c2:c≠l:=λe=>by
     subst e
     rcases A with⟨_,g,_⟩|g
     . rw[g]at n;cases n;cases K
     . exact g.elim
    rw[aa.ag _ _ c1];simp[aa.del,c2]
  . have c1:c≠r:=λe=>by subst e;rw[t]at n;cases n
    have c2:c≠l:=λe=>by subst e;rw[v]at n;cases n
    rw[aa.ag _ _ c1];simp only[aa.del,c2,if_false];exact G c x n K H
 rcases A with⟨_,E,q2,R⟩|q
 . rw[List.take_length]at q2
   subst M;refine⟨_,E,by simp,rfl,?_⟩
   have av:(σ'.del l) j=some (.cells [int ((ao f []).filter p).length]):=by simp only[aa.del,Ne.symm d.2.1,if_false];exact q2
   have ax:(σ'.del l) i=some (.cells [int (ao f []).length]):=by simp only[aa.del,Ne.symm d.2.2,if_false];exact R
   refine rn ?_;simp[av,ax];refine rn ?_;simp;refine⟨by simp only[aa.del,C,if_false];exact V,.done ?_⟩
   obtain⟨e1,e2⟩:=I _ rfl;exact h _ e1 e2
 . exact q.elim
end
theorem iR(f:Fr)(begun:List Int):∀(fuel:Nat) (er:List Int) (many:Int) (c:List Int),∀w∈fy f begun fuel er many c,w.length=er.length+fuel
 |0,er,many,c,w,b=>by simp[fy]at b;subst b;rfl
 | fuel+1,er,many,c,w,b=>by
   rw[rU,List.mem_flatMap]at b;obtain⟨k,_,a⟩:=b;unfold pf at a;split at a
   . cases a
   split at a
   . have:=iR f begun fuel _ _ _ w a
     rw[this];simp;omega
   . cases a
section
variable{b mb:Nat}{f:Fr}{Un:aa->Prop}{Ld:aa->List (Int × AV)->Prop}
def bZ(x y:Int)(w:List Int):Bool:=decide (w.getD x.toNat 0=w.getD y.toNat 0)
theorem Nc{w:List Int}{x y:Int}(a:0<=x/\x.toNat<w.length)(b:0<=y/\y.toNat<w.length)(h:KF (.val (bool (bZ x y w))) σ):aB prog m 105 [ints w,.cp (int x) 0,.cp (int y) 0] σ KF:=by
 have c:w.getD x.toNat 0=w[x.toNat]:=by simp[List.getD_eq_getElem?_getD,a.2]
 have d:w.getD y.toNat 0=w[y.toNat]:=by simp[List.getD_eq_getElem?_getD,b.2]
 unfold bZ at h;rw[c,d]at h;refine fs TZ 3 Tryz.func105 rfl rfl (by rfl) (by kernel_rfl) ?_;simp[Tryz.f105,a.1,a.2,b.1,b.2];refine rn ?_;simp;refine .done ?_;by_cases q:w[x.toNat]=w[y.toNat]
 . simpa[q]using h
 . have:(w[x.toNat]==w[y.toNat])=false:=by simp[q]
   simpa[q,this]using h
theorem Gv(g:Gu prog m nn b 6 mb .u8 (dF f) Un Ld)(i:f.Good){x y:Int}(d:0<=x/\x.toNat<f.aA.length)(e:0<=y/\y.toNat<f.aA.length)(hlen:(ao f []).length<1152921504606846976)(j:Un σ)
 (h:∀σ',Un σ'->lh b mb σ σ'->KF (.val (int (fY (((ao f []).filter (bZ x y)).length:Int) (ao f []).length))) σ'):aB prog m 66 [iu b mb f 0,int x,int y] σ KF:=by
 have c:∀w∈ao f [],w.length=f.aA.length:=λw c=>by have:=iR f [] _ _ _ _ w c;simpa using this
 refine fs [] 3 Tryz.func66 rfl rfl (by rfl) (by kernel_rfl) ?_;simp[Tryz.f66];refine cf Tryz.func68 rfl (rA g i (p:=bZ x y) ⟨rfl,rfl⟩ (λw a σ KF k=>eL Tryz.func105 rfl rfl rfl (Nc ⟨d.1,by rw[c w a];exact d.2⟩ ⟨e.1,by rw[c w a];exact e.2⟩ k)) hlen j λσ' l n=>?_);refine rn ?_;simp;refine cf Tryz.func67 rfl (wY ?_);refine rn ?_;simp;exact .done (h σ' l n)
end
theorem jS(r:m.solo=true){f:Fr}{l:List Int}{sp:cG}(o:f.Fits)(p:check f=0)(s:∀n∈l,0<=n/\n<f.aA.length)(j:l.length<1152921504606846976)(g:ao f []≠[])(h:∀b mb σ',b≠mb->yA b 6 mb .u8 (dF f) σ'->σ b=none/\σ mb=none->σ.Le σ'->KF (.val (.bG [iu b mb f 0,int 0])) σ'):aB prog m 62 [aC f,.sl 1 (l.map int) sp] σ KF:=by
 have t:=Fr.hQ o p;have u:=ry p s;refine fs [] 2 Tryz.func62 rfl rfl (by rfl) (by kernel_rfl) ?_
 simp[Tryz.f62];have v:Wl [AV.agg (bO f),.sl 1 (l.map int) sp] [aC f,ints l]:=.cons (.refl _) (.cons (ck 1 _ sp) .nil);refine aH Tryz.func49 rfl rfl v (gq o j (λq=>absurd u q) λ_ b mb σ' d=>?_)
 have w:yA b 6 mb .u8 (dF f) σ':=by rw[d.eq];exact⟨aa.ak _ _ _,[],(aa.ag _ _ (Ne.symm d.ne)).trans (aa.ak _ _ _),λn a h=>by simp[gY]at h⟩
 refine rn ?_;simp;refine cf Tryz.func74 rfl (sK (fS nH nI tO r d.ne) t w λk y z=>?_)
 refine rn ?_;simp[g];refine .done (h b mb k d.ne y ⟨d.hb,d.vy⟩ λc x i=>?_)
 have A:c≠b:=λe=>by subst e;rw[d.hb]at i;cases i
 have B:c≠mb:=λe=>by subst e;rw[d.vy]at i;cases i
 exact z c x (d.le c x i) A (.inl B)
theorem Gw(k:m.solo=true){f:Fr}{x y:Int}(o:f.Fits)(p:check f=0)(a:0<=x/\x<f.aA.length)(r:0<=y/\y<f.aA.length)(d:ao f []≠[])(hlen:(ao f []).length<1152921504606846976)(h:KF (.val (.bG [int (fY (((ao f []).filter (bZ x y)).length:Int) (ao f []).length),int 0])) σ):aB prog m 28 [aC f,int x,int y] σ KF:=by
 have s:=Fr.hQ o p;refine fs [] 3 Tryz.func28 rfl rfl (by rfl) (by kernel_rfl) ?_
 simp[Tryz.f28];refine cf Tryz.func62 rfl (jS (l:=[x,y]) (sp:=.exact) k o p (λn q=>by simp at q;rcases q with rfl|rfl<;>omega) (by simp) d λb mb t i u g j=>?_)
 refine rn ?_;simp;refine cf Tryz.func66 rfl (Gv (fS nH nI tO k i) s ⟨a.1,by omega⟩ ⟨r.1,by omega⟩ hlen u λv B w=>?_)
 refine rn ?_;simp;refine .less (λc x a=>?_) (.done h)
 have z:c≠b:=λe=>by subst e;rw[g.1]at a;cases a
 have A:c≠mb:=λe=>by subst e;rw[g.2]at a;cases a
 exact w c x (j c x a) z (.inl A)
theorem CU(l:m.solo=true){f:Fr}(j:f.Fits)(k:check f=0)(hlen:(ao f [0,0]).length<1000000000/\(ao f [0,1]).length<1000000000)(h:KF (.val (.bG [int (lx f),int 0])) σ):aB prog m 25 [aC f] σ KF:=by
 have o:=Fr.hQ j k;have p:=kz k;refine fs [] 1 Tryz.func25 rfl rfl (by rfl) (by kernel_rfl) ?_
 simp[Tryz.f25];have r:Wl [AV.agg (bO f),AV.lit (.slice none 0 0)] [aC f,ints []]:=.cons (.refl _) (.cons (cW 1) .nil);refine aH Tryz.func49 rfl rfl r (gq j (by simp) (λq=>absurd p q) λ_ b mb i d=>?_)
 have s:yA b 6 mb .u8 (dF f) i:=by rw[d.eq];exact⟨aa.ak _ _ _,[],(aa.ag _ _ (Ne.symm d.ne)).trans (aa.ak _ _ _),λn a h=>by simp[gY]at h⟩
 refine rn ?_;simp;refine cf Tryz.func61 rfl (CR l o hlen d.ne s λt y u=>?_)
 refine rn ?_;simp;refine .less (λc x g=>?_) (.done h)
 have v:c≠b:=λe=>by subst e;rw[d.hb]at g;cases g
 have w:c≠mb:=λe=>by subst e;rw[d.vy]at g;cases g
 exact u c x (d.le c x g) v (.inl w)
theorem Nd{f:Fr}{l:List Int}(j:f.Fits)(k:check f=0)(c:QP f l)(i:l.length<20)(h:KF (.val (.bG [bool (decide (kr f l=0)),int 0])) σ):aB prog m 13 [aC f,ints l] σ KF:=by
 refine fs [] 2 Tryz.func13 rfl rfl (by rfl) (by kernel_rfl) ?_;simp[Tryz.f13];refine cf Tryz.func42 rfl (Az j k c λb mb n o=>?_);refine rn ?_;simp;refine cf Tryz.func43 rfl (FV (Fr.hQ j k) ⟨c.mem,c.ne,c.len⟩ i ?_);refine rn ?_;simp;refine kA lay rfl TN rfl (isNil:=decide (kr f l=0)) ?_ (.inl ⟨rfl,rfl⟩) ?_
 . by_cases g:kr f l=0
   . left
     refine⟨?_,by simp[g]⟩;simp[g];rfl
   . right
     obtain⟨d,a,e⟩:=Ee g;refine⟨⟨d,a,?_⟩,by simp[g]⟩;rw[<-e];simp
 refine rn ?_;simp;exact .less o.le (.done h)
end Go.Proofs.YtigilmjkokbblaaGreatDoor

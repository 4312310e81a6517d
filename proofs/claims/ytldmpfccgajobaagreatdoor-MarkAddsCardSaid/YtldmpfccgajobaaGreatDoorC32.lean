import Derived.Test.YtldmpfccgajobaaGreatDoorC31
set_option linter.all false
namespace Go.Proofs.YtldmpfccgajobaaGreatDoor
open Tryz (prog)
open Go.aR Go.Conc
set_option maxHeartbeats 1000000
set_option maxRecDepth 4000
variable{m:Mo}{σ:aa}{KF:dF->aa->Prop}
section
variable{b mb:Nat}{f:Fr}{begun:List Int}{y:AV}{W:List (List Int)}{I:Nat->(Nat->Prop)->aa->Prop}{E:(Nat->Prop)->aa->Prop}{Un:aa->Prop}{Ld:aa->List (Int × AV)->Prop}{c4 cg cp:Nat}
def ol(f:Fr)(begun:List Int)(fuel:Nat)(de:List Int)(many:Int)(a:List Int)(k:Nat):List (List Int):=
 if de.length<begun.length/\begun.getD de.length 0≠(k:Int)then[]
 else if jc f (bH (a.getD k 0) de.length)=true then dv f begun fuel (de++[(k:Int)]) (max many ((k:Int)+1)) (a.set k (bH (a.getD k 0) de.length))else[]
theorem oY(f:Fr)(begun:List Int)(fuel:Nat)(de:List Int)(many:Int)(a:List Int):dv f begun (fuel+1) de many a=(List.range (min (many+1) f.most).toNat).flatMap (ol f begun fuel de many a):=rfl
theorem C5(K:Nat->List (List Int)){k cnt:Nat}(h:k<cnt):∃rest,(List.range cnt).flatMap K=(List.range k).flatMap K++(K k++rest):=by
 obtain⟨n,rfl⟩:∃n,cnt=k+1+n:=⟨cnt-(k+1),by omega⟩;induction n with
 |zero=>exact⟨[],by rw[Nat.add_zero,List.range_succ,List.flatMap_append];simp⟩
 | succ n a=>
   obtain⟨rest,b⟩:=a (by omega);refine⟨rest++K (k+1+n),?_⟩;rw[show k+1+(n+1)=(k+1+n)+1 by omega,List.range_succ,List.flatMap_append,b];simp
theorem Nq(U:Fa prog m nn b 6 mb .u8 (cO f) Un Ld)(X:f.Good)(Z:begun.length<1152921504606846976)(Y:Ma m y W I E)(a7:y.cells=[y]):∀fuel:Nat,KW m b mb f begun y W I E Un c4 cg cp fuel:=by
 have h6:=X.oA;have ad:=X.most;intro fuel
 induction fuel with
 | zero=>
   intro de many h sp F σ pre post KF hlen l hh hw O K P z;have hl:(de.length:Int)=f.ao.length:=by omega
   refine fs [] 6 Tryz.func117 rfl rfl (by rfl) (by kernel_rfl) ?_
   simp[Tryz.f117,hl,a7];have hk:pre.length<W.length:=by rw[K];simp[dv]
   have a8:W[pre.length]=de:=by subst K;simp[dv]
   refine dX.weaken (args':=[ints de]) ?_ ⟨eE 1 _ sp,trivial⟩;rw[<-a8];refine Y.step pre.length F σ _ hk P (λt d n C=>?_) (λt d n C=>?_)
   . refine rn ?_
     simp;exact .done (z.1 t d (C3 n) (xw U O n (λc hc=>Y.Oe _ _ _ c P hc)) C)
   . refine rn ?_
     simp;exact .done (z.2 t d (C3 n) (xw U O n (λc hc=>Y.Oe _ _ _ c P hc)) C)
 | succ fuel a9=>
   intro de many h sp F σ pre post KF hlen l hh hw O K P z;have hl:((de.length:Int)==f.ao.length)=false:=by rw[beq_eq_false_iff_ne];omega
   have al:=hw.pt;rw[oY]at K z;obtain⟨cnt,A⟩:∃cnt:Nat,cnt=(min (many+1) f.most).toNat:=⟨_,rfl⟩;rw[<-A]at K z;have Q:(if f.most<many+1 then f.most else many+1)=(cnt:Int):=by rw[A];split<;>omega
   have av:cnt<=6:=by omega
   have m1:-9223372036854775808<=many+1/\many+1<=9223372036854775807:=by omega
   refine fs [] 6 Tryz.func117 rfl rfl (by rfl) (by kernel_rfl) ?_
   simp[Tryz.f117,hl,m1.1,m1.2,Q];refine ab.loop cnt (λk s=>∃env d t,s=⟨env,d,[],.no⟩/\env 0=.sl 1 (de.map int) sp/\env 1=int many/\env 2=.cp (iY b mb f 0) 0/\env 4=.cp (ints begun) 0/\env 5=.ref cp 0/\env 29=int cnt/\env 30=int k/\Mv b mb F t σ d/\Un d/\I (pre.length+((List.range k).flatMap (ol f begun fuel de many h)).length) t d) ⟨_,_,F,rfl,by simp,by simp,by simp,by simp,by simp,by simp,by simp,Mv.refl b mb F σ,O,P⟩ ?_
   rintro c0 k _ hk ⟨env,d,t,rfl,L,n,C,M,R,g,i,o,D,G⟩ ih
   rcases Nat.lt_or_ge k cnt with g1|g1
   . have S:=hw.mv (U.Mb O) o
     have B:=S.pt;obtain⟨rest,u⟩:=C5 (ol f begun fuel de many h) g1
     have p:((List.range (k+1)).flatMap (ol f begun fuel de many h)).length=((List.range k).flatMap (ol f begun fuel de many h)).length+(ol f begun fuel de many h k).length:=by rw[List.range_succ,List.flatMap_append,List.length_append];simp
     by_cases N:de.length<begun.length/\begun.getD de.length 0≠(k:Int)
     . have hK:ol f begun fuel de many h k=[]:=if_pos N
       have e1:begun.getD de.length 0=begun[de.length]:=by simp[List.getD_eq_getElem?_getD,N.1]
       have e2:(begun[de.length] !=(k:Int))=true:=by have:=N.2;rw[e1]at this;simpa using this
       refine rn ?_;simp[L,M,g,i,g1,N.1,e2];refine⟨by omega,ih _ g1 ⟨_,_,t,rfl,by simp[L],by simp[n],by simp[C],by simp[M],by simp[R],by simp[g],by simp,o,D,?_⟩⟩
       rw[p,hK];exact G
     . have hK:ol f begun fuel de many h k=if jc f (bH (h.getD k 0) de.length)=true then dv f begun fuel (de++[(k:Int)]) (max many ((k:Int)+1)) (h.set k (bH (h.getD k 0) de.length))else[]:=if_neg N
       have r:∀H:dF->aa->Prop,(∀(v:Bool) a j,Mv b mb F j σ a->Un a->(v=true->I (pre.length+((List.range (k+1)).flatMap (ol f begun fuel de many h)).length) j a)->(v=false->E j a)->H (.val (bool v)) a)->ar prog m 113 [.sl 1 (de.map int) sp,int many,int k,.ref c4 0,.cp (iY b mb f 0) 0,.ref cg 0] d H:=λH T=>by
        refine Pa U X Z Y a9 (pre:=pre++(List.range k).flatMap (ol f begun fuel de many h)) (post:=rest++post) hlen l (by omega) hh S D hK (by rw[K,u];simp) (by rw[List.length_append];exact G) ⟨λj a w x J=>?_,λj a w x J=>?_⟩
        . refine T true a j (o.trans w) x (λ_=>?_) (λe=>by cases e)
          rw[p,<-Nat.add_assoc,<-List.length_append];exact J
        . exact T false a j (o.trans w) x (λe=>by cases e) (λ_=>J)
       by_cases V:de.length<begun.length
       . have e1:begun.getD de.length 0=begun[de.length]:=by simp[List.getD_eq_getElem?_getD,V]
         have e2:(begun[de.length] !=(k:Int))=false:=by
          have:begun[de.length]=(k:Int):=by rw[<-e1];exact Classical.byContradiction λq=>N ⟨V,q⟩
          simp[this]
         refine rn ?_;simp[L,n,M,R,g,i,g1,V,e2,B];refine eY Tryz.func113 rfl rfl (by simp) (r _ λv a j w x J q4=>?_)
         cases v
         . refine rn ?_
           simp;exact .done (z.2 j a w x (q4 rfl))
         . refine rn ?_
           simp[i];exact⟨by omega,ih _ g1 ⟨_,_,j,rfl,by simp[L],by simp[n],by simp[C],by simp[M],by simp[R],by simp[g],by simp,w,x,J rfl⟩⟩
       . refine rn ?_
         simp[L,n,M,R,g,i,g1,V,B];refine eY Tryz.func113 rfl rfl (by simp) (r _ λv a j w x J q4=>?_)
         cases v
         . refine rn ?_
           simp;exact .done (z.2 j a w x (q4 rfl))
         . refine rn ?_
           simp[i];exact⟨by omega,ih _ g1 ⟨_,_,j,rfl,by simp[L],by simp[n],by simp[C],by simp[M],by simp[R],by simp[g],by simp,w,x,J rfl⟩⟩
   . have:k=cnt:=by omega
     subst this;refine rn ?_;simp[g,i];exact .done (z.1 t d o D G)
end
section
variable{b mb:Nat}{f:Fr}{begun:List Int}{y:AV}{I:Nat->(Nat->Prop)->aa->Prop}{E:(Nat->Prop)->aa->Prop}{Un:aa->Prop}{Ld:aa->List (Int × AV)->Prop}
theorem qk{sp:bX}(h:KF (.val (.fn (.func 112) [] [.cp (iY b mb f 0) 0,.cp (.sl 1 (begun.map int) sp) 0])) σ):ar prog m 63 [iY b mb f 0,.sl 1 (begun.map int) sp] σ KF:=by
 refine fs [] 2 Tryz.func63 rfl rfl (by rfl) (by kernel_rfl) ?_;simp[Tryz.f63];exact .done h
theorem V9(f:Fr):Hs f 0 [0,0,0,0,0,0]:=by
 refine⟨rfl,λx a e b=>?_,λx a=>?_⟩
 . have hb:cD 0=[]:=by decide +kernel
   simp at a;subst a;rw[hb]at b;cases b
 . simp at a;subst a;omega
theorem Mv.le{F d:Nat->Prop}{σ0 σ':aa}(h:Mv b mb F d σ σ')(a:σ0.Le σ):Mv b mb F d σ0 σ':=λc x e f g i=>h c x (a c x e) f g i
theorem nX(s:Fa prog m nn b 6 mb .u8 (cO f) Un Ld)(w:f.Good)(k:begun.length<1152921504606846976)(Y:Ma m y (am f begun) I E)(d:y.cells=[y]/\y.flat=true){F:Nat->Prop}(z:Un σ)(l:I 0 F σ)
 (h:∀e σ',Mv b mb F e σ σ'->Un σ'->(I (am f begun).length e σ'\/E e σ')->KF (.val (.bk [])) σ'):ar prog m 112 [y,.cp (iY b mb f 0) 0,.cp (ints begun) 0] σ KF:=by
 refine fs [] 3 Tryz.func112 rfl rfl (by rfl) (by kernel_rfl) ?_
 simp[Tryz.f112,d.1,d.2];refine bT.intro λc4 A=>?_
 simp;refine bT.intro λcg n=>?_
 obtain⟨J,t,n⟩:=aa.aG n;simp;refine bT.intro λcp i=>?_
 obtain⟨B,C,i⟩:=aa.aG i;obtain⟨K,u,i⟩:=aa.aG i;simp[C,aa.ag];have a:σ.Le ((((σ.set c4 (.cells [u8 0,u8 0,u8 0,u8 0,u8 0,u8 0])).set cg (.cells [.lit .nilFunc])).set cp (.cells [bp (iY b mb f 0) c4 cg])).set cg (.cells [xx (iY b mb f 0) y begun cp])):=(by repeat (first|exact aa.le_refl _|assumption|refine aa.iz ?_ (by assumption)|refine aa.jZ ?_ (by assumption)))
 have D:((((σ.set c4 (.cells [u8 0,u8 0,u8 0,u8 0,u8 0,u8 0])).set cg (.cells [.lit .nilFunc])).set cp (.cells [bp (iY b mb f 0) c4 cg])).set cg (.cells [xx (iY b mb f 0) y begun cp])) c4=some (.cells (([0,0,0,0,0,0]:List Int).map u8)):=by simp[t,u,aa.ag]
 have G:((((σ.set c4 (.cells [u8 0,u8 0,u8 0,u8 0,u8 0,u8 0])).set cg (.cells [.lit .nilFunc])).set cp (.cells [bp (iY b mb f 0) c4 cg])).set cg (.cells [xx (iY b mb f 0) y begun cp])) cg=some (.cells [xx (iY b mb f 0) y begun cp]):=by simp
 have sp:((((σ.set c4 (.cells [u8 0,u8 0,u8 0,u8 0,u8 0,u8 0])).set cg (.cells [.lit .nilFunc])).set cp (.cells [bp (iY b mb f 0) c4 cg])).set cg (.cells [xx (iY b mb f 0) y begun cp])) cp=some (.cells [bp (iY b mb f 0) c4 cg]):=by simp[B,aa.ag]
 have g:∀c,σ c=none -> ¬F c:=λc o H=>by obtain⟨x,j,_⟩:=Y.Oe _ _ _ _ l H;rw[o]at j;cases j
 refine dX.weaken (args':=[.sl 1 (([]:List Int).map int) .any,int 0]) ?_ ⟨cV 1,.refl _,trivial⟩
 refine eY Tryz.func117 rfl rfl rfl (Nq (y:=y) s w k Y d.1 f.ao.length [] 0 [0,0,0,0,0,0] .any F _ [] [] _ (by simp) (by omega) (V9 f) ⟨D,G,sp,⟨g _ A,g _ n,g _ i⟩,⟨t,u⟩⟩ (s.un (λc _ ⟨x,v,_⟩=>by rw[v];exact a _ _ v) z) (by simp[am]) (Y.frame _ _ _ _ (λc o=>by obtain⟨x,j,_⟩:=Y.Oe _ _ _ _ l o;rw[j];exact a _ _ j) l) ⟨λe σ' p q r=>?_,λe σ' p q r=>?_⟩)
 . refine rn ?_
   simp;refine .done (h e σ' (p.le a) q (.inl ?_));simpa[am]using r
 . refine rn ?_
   simp;exact .done (h e σ' (p.le a) q (.inr r))
end
section
variable{b mb:Nat}{f:Fr}{Un:aa->Prop}{Ld:aa->List (Int × AV)->Prop}
theorem mR(L:Fa prog m nn b 6 mb .u8 (cO f) Un Ld)(hf:f.Good)(Z:Un σ)(h:∀σ',Un σ'->lq b mb σ σ'->KF (.val (bool (decide (am f []≠[])))) σ'):ar prog m 88 [iY b mb f 0] σ KF:=by
 refine fs [] 1 Tryz.func88 rfl rfl (by rfl) (by kernel_rfl) ?_
 simp[Tryz.f88];refine bT.intro λd h3=>?_
 simp;have hW:Wl [iY b mb f 0,AV.lit (.slice none 0 0)] [iY b mb f 0,ints []]:=.cons (.refl _) (.cons (cV 1) .nil);refine aT Tryz.func63 rfl rfl hW (qk (begun:=[]) ?_);refine rn ?_;simp;refine ab.rangeFunc rfl λO r l M P o=>?_
 obtain⟨r1,r2,M⟩:=aa.aG M;obtain⟨l1,p,P⟩:=aa.aG P;generalize u:mM.mk _ _ _ _ _ _ _ _ _=N
 have hY:Ma m (.fn (.yield l) [] []) (am f []) (λk F σ'=>k=0/\(∀c,F c↔c=l\/c=d)/\σ' l=some (.loop N)/\σ' d=some (.cells [bool false])) (λF σ'=>am f []≠[]/\(∀c,F c↔c=l\/c=d)/\σ' l=some (.loop {N with state:=.done,pending:=some (.exit 0)})/\σ' d=some (.cells [bool true])):=by
  refine⟨λk F σ' a7 hk v hT hF=>?_,λk F Q j G v=>?_,λF Q j G v=>?_,λk F σ' c v w=>?_⟩
  . obtain⟨rfl,a,s,y⟩:=v
    have e3:∀x,(σ'.set l x) d=some (.cells [bool false]):=λx=>by rw[aa.ag _ _ p];exact y
    subst u;refine dX.tA (hold:=[]) O Tryz.func88 s rfl ?_;refine rn ?_;simp[lU];refine ab.beginRound s rfl ?_;refine rn ?_;simp[e3];have R:am f []≠[]:=λe=>by rw[e]at hk;cases hk
    refine⟨rfl,rfl,_,((aa.ag _ _ l1).trans (aa.an _ _ _)),?_⟩;refine hF F _ (λc x w hx=>⟨?_,w⟩) ⟨R,a,aa.an _ _ _,(aa.ag _ _ p).trans (aa.an _ _ _)⟩
    have D:c≠l:=λe=>w ((a c).2 (.inl e))
    have H:c≠d:=λe=>w ((a c).2 (.inr e))
    exact(aa.ag _ _ D).trans ((aa.ag _ _ H).trans ((aa.ag _ _ D).trans hx))
  . obtain⟨rfl,a,s,y⟩:=v
    exact⟨rfl,a,by rw[G l ((a l).2 (.inl rfl))];exact s,by rw[G d ((a d).2 (.inr rfl))];exact y⟩
  . obtain⟨q,a,s,y⟩:=v
    exact⟨q,a,by rw[G l ((a l).2 (.inl rfl))];exact s,by rw[G d ((a d).2 (.inr rfl))];exact y⟩
  . obtain⟨rfl,a,s,y⟩:=v
    rcases(a c).1 w with rfl|rfl
    . exact⟨_,s,rfl⟩
    . exact⟨_,y,rfl⟩
 obtain⟨xb,I,a8⟩:=L.Mb Z;have nb:∀c,σ c=none->c≠b:=λc w e=>by subst e;rw[w]at I;cases I
 have J:σ.Le (((σ.set d (.cells [bool false])).set r (.raw (.deferred (some [])))).set l (.loop N)):=(by repeat (first|exact aa.le_refl _|assumption|refine aa.iz ?_ (by assumption)|refine aa.jZ ?_ (by assumption)))
 have sr:(((σ.set d (.cells [bool false])).set r (.raw (.deferred (some [])))).set l (.loop N)) r=some (.raw (.deferred (some []))):=by rw[aa.ag _ _ o,aa.an]
 refine eY Tryz.func112 rfl rfl rfl (nX (F:=λc=>c=l\/c=d) L hf (by simp) hY ⟨rfl,rfl⟩ (L.un (λc _ ⟨x,i,_⟩=>(J _ _ i).trans i.symm) Z) ⟨rfl,λc=>Iff.rfl,aa.an _ _ _,(aa.ag _ _ p).trans ((aa.ag _ _ r2).trans (aa.an _ _ _))⟩ λF' σ' K S t=>?_)
 have z:=(K r _ sr (λe=>by rcases e with e|e;exact o e;exact r1 e) (nb r M) (.inr rfl)).1
 have A:lq b mb σ σ':=λc x i E B=>(K c x (J c x i) (λe=>by rcases e with e|e<;>subst e<;>simp_all) E B).1
 have n:∀j,j=(σ'.del l).set r (.raw (.deferred none))->Un j/\lq b mb σ j:=λj e=>by
  subst e;refine⟨L.un (σ:=σ') (λc _ ⟨x,i,E⟩=>?_) S,λc x i E B=>?_⟩
  . have D:c≠r:=λe=>by subst e;rw[z]at i;cases i;cases E
    have H:c≠l:=λe=>by
     subst e
     rcases t with⟨_,_,g,_⟩|⟨_,_,g,_⟩<;>rw[g]at i<;>cases i<;>cases E
    rw[aa.ag _ _ D];simp[aa.del,H]
  . have D:c≠r:=λe=>by subst e;rw[M]at i;cases i
    have H:c≠l:=λe=>by subst e;rw[P]at i;cases i
    rw[aa.ag _ _ D];simp only[aa.del,H,if_false];exact A c x i E B
 rcases t with⟨T,_,U,V⟩|⟨T,_,U,V⟩
 . have W:decide (am f []≠[])=false:=by simp[List.length_eq_zero_iff.1 T]
   rw[W]at h;subst u;refine⟨_,U,by simp,rfl,?_⟩
   have C:(σ'.del l) d=some (.cells [bool false]):=by simp only[aa.del,p,if_false];simpa[p,Ne.symm p]using V
   refine rn ?_;simp[C];refine⟨by simp only[aa.del,o,if_false];exact z,.done ?_⟩
   obtain⟨X,Y⟩:=n _ rfl;exact h _ X Y
 . have W:decide (am f []≠[])=true:=by simp[T]
   rw[W]at h;subst u;refine⟨_,U,by simp,rfl,?_⟩
   have C:(σ'.del l) d=some (.cells [bool true]):=by simp only[aa.del,p,if_false];simpa[p,Ne.symm p]using V
   refine rn ?_;simp[C];refine⟨by simp only[aa.del,o,if_false];exact z,.done ?_⟩
   obtain⟨X,Y⟩:=n _ rfl;exact h _ X Y
end
end Go.Proofs.YtldmpfccgajobaaGreatDoor
namespace Go.Proofs.YtldmpfccgajobaaGreatDoor
open Tryz (prog)
open Go Go.aR
set_option maxRecDepth 100000
abbrev ng:Iq:=⟨107,109,111,131,132,143,130,138,146,133,159,160,161,162,147,142,176,178,183⟩
theorem KZ:∀(b:Nat) (kind:CallKind),bb (A0 prog ng b kind).1=some (ng.jF,[])/\(A0 prog ng b kind).1.env.all plain=true/\(A0 prog ng b kind).2=[]/\(A0 prog ng b kind).1.kind=kind:=by intro b kind;exact⟨by kernel_rfl,by kernel_rfl,by kernel_rfl,by kernel_rfl⟩
theorem K0:∀(b:Nat) (kind:CallKind),bb (A1 prog ng b kind).1=some (ng.MM,[])/\(A1 prog ng b kind).1.env.all plain=true/\(A1 prog ng b kind).2=[]/\(A1 prog ng b kind).1.kind=kind:=by intro b kind;exact⟨by kernel_rfl,by kernel_rfl,by kernel_rfl,by kernel_rfl⟩
theorem K1:∀(b:Nat) (kind:CallKind),bb (A2 prog ng b kind).1=some (ng.sF,[pt b 0,u64 4294967296])/\vt (A2 prog ng b kind)=true/\(A2 prog ng b kind).1.env.all plain=true/\(A2 prog ng b kind).2.all (·.env.all plain)=true:=by intro b kind;exact⟨by kernel_rfl,by kernel_rfl,by kernel_rfl,by kernel_rfl⟩
theorem K2:∀(b:Nat) (kind:CallKind) (a:Fl),kY (A3 prog ng b kind (f1 a true)).1=some (ng.tS,ng.tU,pt b 1):=by intro b kind a;kernel_rfl
theorem K3:∀(b:Nat) (kind:CallKind) (a:Fl),bb (A4 prog ng b kind (f1 a true)).1=some (ng.rd,[pt b 1])/\(A4 prog ng b kind (f1 a true)).1.kind=kind:=by intro b kind a;exact⟨by kernel_rfl,by kernel_rfl⟩
theorem K4:∀(b:Nat) (kind:CallKind) (a:Fl),rE (A5 prog ng b kind (f0 (f1 a true) false)).1=some ng.en/\(A5 prog ng b kind (f0 (f1 a true) false)).2=[]/\(A5 prog ng b kind (f0 (f1 a true) false)).1.kind=kind/\(A5 prog ng b kind (f0 (f1 a true) false)).1.fn=ng.add:=by intro b kind a;exact⟨by kernel_rfl,by kernel_rfl,by kernel_rfl,by kernel_rfl⟩
theorem K5:∀(b:Nat) (kind:CallKind) (a:Fl),rE (A3 prog ng b kind (f0 (f1 a false) false)).1=some ng.en/\(A3 prog ng b kind (f0 (f1 a false) false)).2=[]/\(A3 prog ng b kind (f0 (f1 a false) false)).1.kind=kind/\(A3 prog ng b kind (f0 (f1 a false) false)).1.fn=ng.add:=by intro b kind a;exact⟨by kernel_rfl,by kernel_rfl,by kernel_rfl,by kernel_rfl⟩
theorem K6:∀(b:Nat),kY (D0 prog ng b).1=some (ng.tG,ng.tU,pt b 0)/\(D0 prog ng b).1.env.all plain=true/\(D0 prog ng b).2.all (·.env.all plain)=true:=by intro b;exact⟨by kernel_rfl,by kernel_rfl,by kernel_rfl⟩
theorem K7:∀(b:Nat),bb (D1 prog ng b).1=some (ng.rel,[pt b 0])/\vt (D1 prog ng b)=true/\(D1 prog ng b).1.env.all plain=true/\(D1 prog ng b).2.all (·.env.all plain)=true:=by intro b;exact⟨by kernel_rfl,by kernel_rfl,by kernel_rfl,by kernel_rfl⟩
theorem K8:∀(b:Nat),bb (D2 prog ng b).1=some (ng.jF,[])/\vt (D2 prog ng b)=true/\(D2 prog ng b).1.env.all plain=true/\(D2 prog ng b).2.all (·.env.all plain)=true:=by intro b;exact⟨by kernel_rfl,by kernel_rfl,by kernel_rfl,by kernel_rfl⟩
theorem K9:∀(b:Nat),bb (D3 prog ng b).1=some (ng.MM,[])/\vt (D3 prog ng b)=true/\(D3 prog ng b).1.env.all plain=true/\(D3 prog ng b).2.all (·.env.all plain)=true:=by intro b;exact⟨by kernel_rfl,by kernel_rfl,by kernel_rfl,by kernel_rfl⟩
theorem La:∀(b:Nat),bb (D4 prog ng b).1=some (ng.sF,[pt b 0,u64 18446744069414584320])/\vt (D4 prog ng b)=true/\(D4 prog ng b).1.env.all plain=true/\(D4 prog ng b).2.all (·.env.all plain)=true:=by intro b;exact⟨by kernel_rfl,by kernel_rfl,by kernel_rfl,by kernel_rfl⟩
theorem Lb:∀(b:Nat) (a:Fl) (x:Bool),rE (DE prog ng b (f0 a x) 0).1=some ng.en:=by intro b a x;cases x<;>kernel_rfl
theorem Ic:∀(b:Nat) (a:Fl) (x:Bool),kJ (mJ prog (f0 a x) (DE prog ng b (f0 a x) 0)).1 ng.done=true/\(mJ prog (f0 a x) (DE prog ng b (f0 a x) 0)).2=[]/\(mJ prog (f0 a x) (DE prog ng b (f0 a x) 0)).1.kind=.deferred:=by intro b a x;cases x<;>exact⟨by kernel_rfl,by kernel_rfl,by kernel_rfl⟩
theorem Lc:∀(b:Nat) (a:Fl),rE (DE prog ng b (f0 a false) 1).1=some ng.en:=by intro b a;kernel_rfl
theorem Id:∀(b:Nat) (a:Fl),kJ (mJ prog (f0 a false) (DE prog ng b (f0 a false) 1)).1 ng.done=true/\(mJ prog (f0 a false) (DE prog ng b (f0 a false) 1)).2=[]/\(mJ prog (f0 a false) (DE prog ng b (f0 a false) 1)).1.kind=.deferred:=by intro b a;exact⟨by kernel_rfl,by kernel_rfl,by kernel_rfl⟩
theorem Lf:∀(b:Nat) (a:Fl),bb (DE prog ng b (f0 a true) 1).1=some (ng.vg,[pt b 0])/\vt (DE prog ng b (f0 a true) 1)=true:=by intro b a;exact⟨by kernel_rfl,by kernel_rfl⟩
theorem Lg:∀(b:Nat) (a:Fl),bb (D6 prog ng b (f0 a true)).1=some (ng.GU,[pt b 0,u64 0])/\vt (D6 prog ng b (f0 a true))=true:=by intro b a;exact⟨by kernel_rfl,by kernel_rfl⟩
theorem Lh:∀(b:Nat) (a:Fl),bb (D7 prog ng b (f0 a true)).1=some (ng.oI,[pt b 1,ff,i64 0])/\vt (D7 prog ng b (f0 a true))=true:=by intro b a;exact⟨by kernel_rfl,by kernel_rfl⟩
theorem Li:∀(b:Nat) (a:Fl),rE (D8 prog ng b (f0 a true)).1=some ng.en:=by intro b a;kernel_rfl
theorem Lj:∀(b:Nat) (a:Fl),kJ (mJ prog (f0 a true) (D8 prog ng b (f0 a true))).1 ng.done=true/\(mJ prog (f0 a true) (D8 prog ng b (f0 a true))).2=[]/\(mJ prog (f0 a true) (D8 prog ng b (f0 a true))).1.kind=.deferred:=by intro b a;exact⟨by kernel_rfl,by kernel_rfl,by kernel_rfl⟩
theorem Lk:∀(b:Nat) (kind:CallKind),bb (W0 prog ng b kind).1=some (ng.jF,[])/\(W0 prog ng b kind).1.env.all plain=true/\(W0 prog ng b kind).2=[]/\(W0 prog ng b kind).1.kind=kind:=by intro b kind;exact⟨by kernel_rfl,by kernel_rfl,by kernel_rfl,by kernel_rfl⟩
theorem Ll:∀(b:Nat) (kind:CallKind),bb (W1 prog ng b kind).1=some (ng.vg,[pt b 0])/\vt (W1 prog ng b kind)=true/\(W1 prog ng b kind).1.env.all plain=true/\(W1 prog ng b kind).2.all (·.env.all plain)=true:=by intro b kind;exact⟨by kernel_rfl,by kernel_rfl,by kernel_rfl,by kernel_rfl⟩
theorem Lm:∀(b:Nat) (kind:CallKind) (a:Fl),bb (WE prog ng b kind (f0 a true)).1=some (ng.en,[])/\(WE prog ng b kind (f0 a true)).1.kind=kind:=by intro b kind a;exact⟨by kernel_rfl,by kernel_rfl⟩
theorem Ln:∀(b:Nat) (kind:CallKind) (a:Fl),kY (WC prog ng b kind (f0 a true)).1=some (ng.tG,ng.tU,pt b 0):=by intro b kind a;kernel_rfl
theorem Lp:∀(b:Nat) (kind:CallKind) (a:Fl),bb (WA prog ng b kind (f0 a true)).1=some (ng.acq,[pt b 0])/\(WA prog ng b kind (f0 a true)).1.kind=kind:=by intro b kind a;exact⟨by kernel_rfl,by kernel_rfl⟩
theorem Lq:∀(b:Nat) (kind:CallKind) (a:Fl),kJ (WB prog ng b kind (f0 a true)).1 ng.wait=true/\(WB prog ng b kind (f0 a true)).2=[]/\(WB prog ng b kind (f0 a true)).1.kind=kind:=by intro b kind a;exact⟨by kernel_rfl,by kernel_rfl,by kernel_rfl⟩
theorem Lr:∀(b:Nat) (kind:CallKind) (a:Fl),bb (WE prog ng b kind (f0 a false)).1=some (ng.wC,[pt b 0,.eI 0,.eI 1])/\vt (WE prog ng b kind (f0 a false))=true:=by intro b kind a;exact⟨by kernel_rfl,by kernel_rfl⟩
theorem Ls:∀(b:Nat) (kind:CallKind) (a:Fl),FD [5] [[0]] (next prog (f0 a false) (WE prog ng b kind (f0 a false)) ff)=W1 prog ng b kind:=by intro b kind a;kernel_rfl
theorem Lt:∀(b:Nat) (kind:CallKind) (a:Fl),kY (W3 prog ng b kind (f0 a false)).1=some (ng.tS,ng.tU,pt b 1):=by intro b kind a;kernel_rfl
theorem Lu:∀(b:Nat) (kind:CallKind) (a:Fl),bb (PV prog ng b kind (f0 a false)).1=some (ng.wr,[pt b 1])/\(PV prog ng b kind (f0 a false)).1.kind=kind:=by intro b kind a;exact⟨by kernel_rfl,by kernel_rfl⟩
theorem Lv:∀(b:Nat) (kind:CallKind) (a:Fl),bb (W4 prog ng b kind (f0 a false)).1=some (ng.D5,[pt b 1,ff])/\(W4 prog ng b kind (f0 a false)).1.kind=kind:=by intro b kind a;exact⟨by kernel_rfl,by kernel_rfl⟩
theorem Lw:∀(b:Nat) (kind:CallKind) (a:Fl),bb (W5 prog ng b kind (f0 a false)).1=some (ng.vg,[pt b 0])/\vt (W5 prog ng b kind (f0 a false))=true:=by intro b kind a;exact⟨by kernel_rfl,by kernel_rfl⟩
theorem Lx:∀(b:Nat) (kind:CallKind) (a:Fl),bb (PW prog ng b kind (f0 a false)).1=some (ng.en,[])/\(PW prog ng b kind (f0 a false)).1.kind=kind:=by intro b kind a;exact⟨by kernel_rfl,by kernel_rfl⟩
theorem Ly:∀(b:Nat) (kind:CallKind) (a:Fl),kY (QT prog ng b kind (f0 a false)).1=some (ng.tG,ng.tU,pt b 0):=by intro b kind a;kernel_rfl
theorem Lz:∀(b:Nat) (kind:CallKind) (a:Fl),bb (PX prog ng b kind (f0 a false)).1=some (ng.acq,[pt b 0])/\(PX prog ng b kind (f0 a false)).1.kind=kind:=by intro b kind a;exact⟨by kernel_rfl,by kernel_rfl⟩
theorem LA:∀(b:Nat) (kind:CallKind) (a:Fl),kJ (N4 prog ng b kind (f0 a false)).1 ng.wait=true/\(N4 prog ng b kind (f0 a false)).2=[]/\(N4 prog ng b kind (f0 a false)).1.kind=kind:=by intro b kind a;exact⟨by kernel_rfl,by kernel_rfl,by kernel_rfl⟩
theorem RJ:jS prog ng where
 a0:=KZ
 a1:=K0
 a2:=K1
 a3:=K2
 a4:=K3
 a5:=K4
 a6:=K5
 d0:=K6
 d1:=K7
 d2:=K8
 d3:=K9
 d4:=La
 d5:=Lb
 Ua:=Ic
 d6:=Lc
 Ub:=Id
 d7:=Lf
 d8:=Lg
 d9:=Lh
 da:=Li
 db:=Lj
 w0:=Lk
 w1:=Ll
 w2:=Lm
 w3:=Ln
 w4:=Lp
 w5:=Lq
 w6:=Lr
 w7:=Ls
 w8:=Lt
 w9:=Lu
 wa:=Lv
 wb:=Lw
 wc:=Lx
 wd:=Ly
 we:=Lz
 wf:=LA
theorem RK:lw prog ng where
 jF:=⟨_,rfl,rfl,rfl,rfl,rfl⟩
 en:=⟨_,rfl,rfl,rfl,rfl,rfl⟩
 acq:=⟨_,rfl,rfl,rfl,rfl,rfl⟩
 rel:=⟨_,rfl,rfl,rfl,rfl,rfl⟩
 rd:=⟨_,rfl,rfl,rfl,rfl,rfl⟩
 wr:=⟨_,rfl,rfl,rfl,rfl,rfl⟩
 MM:=⟨_,rfl,rfl,rfl,rfl,rfl⟩
 sF:=⟨_,rfl,rfl,rfl,rfl,rfl⟩
 vg:=⟨_,rfl,rfl,rfl,rfl,rfl⟩
 GU:=⟨_,rfl,rfl,rfl,rfl,rfl⟩
 wC:=⟨_,rfl,rfl,rfl,rfl,rfl⟩
 D5:=⟨_,rfl,rfl,rfl,rfl,rfl⟩
 oI:=⟨_,rfl,rfl,rfl,rfl,rfl⟩
 Uc:=⟨_,rfl,rfl,rfl⟩
 Ud:=⟨_,rfl,rfl,rfl⟩
 OK:=⟨_,_,rfl,rfl,rfl,rfl⟩
 JE:=⟨_,_,rfl,rfl,rfl,rfl⟩
 JF:=⟨_,_,rfl,rfl,rfl,rfl⟩
end Go.Proofs.YtldmpfccgajobaaGreatDoor
namespace Go.Proofs.YtldmpfccgajobaaGreatDoor
open Tryz (prog)
open Go.aR Go.Conc
set_option maxHeartbeats 1000000
set_option maxRecDepth 4000
variable{m:Mo}{σ:aa}{KF:dF->aa->Prop}
theorem qH:rH prog nn:=⟨⟨_,_,Tryz.func148,rfl,rfl,rfl⟩,⟨_,_,Tryz.func149,rfl,rfl,rfl⟩⟩
section
variable{b mb:Nat}{f:Fr}{A:eD}{j:Nat}{begun:List Int}
theorem EP{b:ah}(a:A.ng=ng){body:Code}(hb:Tryz.f110.body=some body):ab prog (wG prog A) 110 4 none [] [.code body] ⟨dT [.ref A.gb 0,.cp (.chan A.cF) 0],kP A.fb,[],.told .deferred [dl prog] b⟩ (λ_ _=>False):=by
 simp only[Tryz.f110,Option.some.injEq]at hb;subst hb;refine ab.runN lay [] 2 ?_;simp;refine ab.Ke rfl (by rw[a];rfl) rfl (by simp) (by rw[a];exact Tryz.func111) rfl rfl rfl ?_;refine rn ?_;simp;exact ab.Ew rfl rfl (by simp) rfl rfl rfl rfl rfl Tryz.func110 rfl rfl
theorem xy{V:ah}(W:A.fb=b/\A.mb=mb/\A.fo=6/\A.nm=nn/\A.ng=ng)(X:∀x,A.GI x↔∃l,x=mapA .u8 l/\cO f l)(Y:f.Good)(q:A.res j=int (am f begun).length)(z:begun.length<1152921504606846976)(hlen:(am f begun).length<1152921504606846976){body:Code}(hb:Tryz.f108.body=some body):
 ab prog (lG prog A j) 108 13 none [] [.code body] ⟨dT [.ref A.gb 0,.cp (iY b mb f 0) 0,.cp (ints begun) 0,.cp (.chan A.cF) 0],kP A.fb,[],.told .deferred [dl prog] V⟩ (λ_ _=>False):=by
 obtain⟨rfl,rfl,B,C,s⟩:=W;simp only[Tryz.f108,Option.some.injEq]at hb;subst hb;have T:=Kf (P:=prog) (A:=A) (j:=j) (kd:=.u8) X;rw[B,C]at T;refine rn ?_;simp;refine ab.defer rfl rfl rfl rfl (by simp) rfl ?_
 refine rn ?_;simp;refine bT.intro λcn t=>?_
 simp;refine cf Tryz.func63 rfl (qk (begun:=begun) (sp:=.any) ?_);refine rn ?_;simp;refine ab.rangeFunc rfl λD r l u m g=>?_
 obtain⟨Z,r2,u⟩:=aa.aG u;obtain⟨l1,n,m⟩:=aa.aG m;generalize v:mM.mk _ _ _ _ _ _ _ _ _=E
 have hY:Ma (lG prog A j) (.fn (.yield l) [] []) (am f begun) (λk F a=>(∀c,F c↔c=l\/c=cn)/\a l=some (.loop E)/\a cn=some (.cells [int k])) (λF a=>False):=by
  refine⟨λk F a a7 hk h hT hF=>?_,λk F G H I h=>?_,λF G H I h=>h.elim,λk F a c h i=>?_⟩
  . obtain⟨d,o,w⟩:=h
    have e3:∀x,(a.set l x) cn=some (.cells [int k]):=λx=>(aa.ag _ _ n).trans w
    have f1:-9223372036854775808<=(k:Int)+1/\(k:Int)+1<=9223372036854775807:=by omega
    subst v;refine dX.tA (hold:=[]) D Tryz.func108 o rfl ?_;refine rn ?_;simp[lU];refine ab.beginRound o rfl ?_;refine rn ?_;simp[e3,f1.1,f1.2];refine⟨rfl,rfl,_,((aa.ag _ _ l1).trans (aa.an _ _ _)),?_⟩;refine hT F _ (λc x i hx=>⟨?_,i⟩) ⟨d,aa.an _ _ _,(aa.ag _ _ n).trans (aa.an _ _ _)⟩
    have U:c≠l:=λe=>i ((d c).2 (.inl e))
    have c2:c≠cn:=λe=>i ((d c).2 (.inr e))
    exact(aa.ag _ _ U).trans ((aa.ag _ _ c2).trans ((aa.ag _ _ U).trans hx))
  . obtain⟨d,o,w⟩:=h
    exact⟨d,by rw[I l ((d l).2 (.inl rfl))];exact o,by rw[I cn ((d cn).2 (.inr rfl))];exact w⟩
  . obtain⟨d,o,w⟩:=h
    rcases(d c).1 i with rfl|rfl
    . exact⟨_,o,rfl⟩
    . exact⟨_,w,rfl⟩
 have hu:Uk A.fb (((kP A.fb).set cn (.cells [int 0])).set r (.raw (.deferred (some [])))|>.set l (.loop E)):=by
  have p:(kP A.fb) A.fb=some .iG:=by simp[kP]
  have J:A.fb≠cn:=λe=>by rw[<-e,p]at t;cases t
  have K:A.fb≠r:=λe=>by rw[<-e,p]at u;cases u
  have L:A.fb≠l:=λe=>by rw[<-e,p]at m;cases m
  show _=_;rw[aa.ag _ _ L,aa.ag _ _ K,aa.ag _ _ J];exact p
 have nb:∀c,(kP A.fb) c=none->c≠A.fb:=λc i e=>by subst e;simp[kP]at i
 have sr:(((kP A.fb).set cn (.cells [int 0])).set r (.raw (.deferred (some [])))|>.set l (.loop E)) r=some (.raw (.deferred (some []))):=(aa.ag _ _ g).trans (aa.an _ _ _)
 refine eY Tryz.func112 rfl rfl rfl (nX (F:=λc=>c=l\/c=cn) T Y z hY ⟨rfl,rfl⟩ hu ⟨λc=>Iff.rfl,aa.an _ _ _,(aa.ag _ _ n).trans ((aa.ag _ _ r2).trans (aa.an _ _ _))⟩ λF' a M N y=>?_)
 have O:=(M r _ sr (λe=>by rcases e with e|e;exact g e;exact Z e) (nb r u) (.inr rfl)).1
 rcases y with⟨_,J,K⟩|hE
 . subst v
   refine⟨_,J,by simp,rfl,?_⟩
   have Q:(a.del l) cn=some (.cells [int (am f begun).length]):=by simp only[aa.del,n,if_false];simpa[n,Ne.symm n]using K
   have R:(a.del l) A.fb=some .iG:=by
    have L:A.fb≠l:=λe=>by
     have p:(kP A.fb) A.fb=some .iG:=by simp[kP]
     rw[<-e,p]at m;cases m
    simp only[aa.del,L,if_false];exact N
   have S:(a.del l) r=some (.raw (.deferred (some []))):=by simp only[aa.del,g,if_false];exact O
   refine rn ?_;simp[Q];refine ab.Kd rfl rfl (by simp) rfl rfl (by rw[q];simp) R rfl rfl Tryz.func108 rfl (by rw[s];exact Tryz.func109) rfl rfl ?_
   refine rn ?_;simp;refine⟨rfl,.inl rfl,⟨_,rfl⟩,r,by rw[s],S⟩
 . exact hE.elim
end
def jL(j:Nat):List Int:=if j=0 then[0,0]else[0,1]
def gT(f:Fr):Int:=if f.ao.length<2 then 1 else(am f [0,0]).length+(am f [0,1]).length
theorem LB{v d:AV}(n:v.cells=[v])(g:d.cells=[d])(h:v.W d):(AV.cp v 0).W (.cp d 0):=λk x o=>by
 cases o with
 | cp b base off N E v c p i l m=>
   rw[n]at i l m;refine .cp b base 0 N E d c p (by rw[g];exact i) (λj e=>l j (by rw[g]at e;exact e)) (λj a f=>?_)
   rw[g]at f
   have e:j=0:=by have:=(List.getElem?_eq_some_iff.1 f).1;simp at this;exact this
   subst e;simp at f;subst f;exact h k _ (m 0 v rfl)
section
variable{b mb:Nat}{f:Fr}
theorem BX(X:m.solo=true)(F:f.Good)(hlen:(am f [0,0]).length<1000000000/\(am f [0,1]).length<1000000000)(u:b≠mb)(P:rj b 6 mb .u8 (cO f) σ)(h:∀σ',rj b 6 mb .u8 (cO f) σ'->lq b mb σ σ'->KF (.val (int (gT f))) σ'):ar prog m 60 [iY b mb f 0] σ KF:=by
 have h6:=F.oA;unfold gT at h;refine fs [] 1 Tryz.func60 rfl rfl (by rfl) (by kernel_rfl) ?_
 simp[Tryz.f60]
 by_cases Q:f.ao.length<2
 . have p:(f.ao.length:Int)<2:=by omega
   rw[if_pos Q]at h;simp[p];exact .done (h σ P (lq.refl b mb σ))
 have p:¬(f.ao.length:Int)<2:=by omega
 rw[if_neg Q]at h;obtain⟨D,lm,v,Y⟩:=P;simp[p];refine CO lay rfl FX rfl oo rfl (by decide) λcF k=>?_
 refine rn ?_;simp;refine bT.intro λE g=>?_
 obtain⟨n1,Z,g⟩:=aa.aG g;simp;refine bT.intro λgb d=>?_
 obtain⟨n3,n4,d⟩:=aa.aG d;obtain⟨n5,R,d⟩:=aa.aG d;simp;have S:cF≠b:=λe=>by rw[e,D]at k;cases k
 have T:cF≠mb:=λe=>by rw[e,v]at k;cases k
 have b3:E≠b:=λe=>by rw[e,D]at g;cases g
 have m3:E≠mb:=λe=>by rw[e,v]at g;cases g
 have w:gb≠b:=λe=>by rw[e,D]at d;cases d
 have gm:gb≠mb:=λe=>by rw[e,v]at d;cases d
 refine ab.bD 3 (b:=E) (.chan cF) (by simp[n4,aa.ag]) (by simp) rfl ?_
 refine ab.cG X ⟨2,cF,b,6,gb,mb,λx=>∃l,x=mapA .u8 l/\cO f l,λj=>int (am f (jL j)).length,nn,ng,by omega,S,R,T,Ne.symm w,u,gm⟩ RJ RK ln lp qH (tm:=false) (a:=mapA .u8 lm) (by simp[aa.del,aa.ag,Z,R]) (by simp[aa.del,n3]) (by simp[aa.del,aa.set,Ne.symm b3,Ne.symm w,Ne.symm S,D]) (by simp[aa.del,aa.set,Ne.symm m3,Ne.symm gm,Ne.symm T,v]) (by simp[mapA]) ⟨lm,rfl,Y⟩ rfl λpb a7 Fin kd a8 k0 y=>?_
 refine ab.Kg ?_;refine ab.runN lay [] 18 ?_;simp;refine bT.intro λG z=>?_
 have n:G≠b:=λe=>by subst e;simp at z
 simp
 change ab _ _ _ _ _ _ _ _ _
 refine ab.bD 6 (b:=G) (.sl 1 [int 0,int 0] .exact) (aa.an _ _ _) (by simp) rfl ?_
 refine ab.yD 6 (a':=.cp (ints [0,0]) 0) (by simp;exact LB rfl rfl (eE 1 [int 0,int 0] .exact)) ?_
 refine ab.Nf rfl rfl rfl (by simp) Tryz.func107 rfl rfl rfl ?_
 refine rn ?_;simp;refine ab.vp (hold':=[]) rfl rfl rfl (by simp) rfl Tryz.func108 rfl rfl (by show(4:Nat)<=13;decide) (by simp[mC.at,aa.del,aa.set,Ne.symm n]) (by kernel_rfl) (λU=>xy (b:=b) (mb:=mb) (f:=f) (begun:=[0,0]) ⟨rfl,rfl,rfl,rfl,rfl⟩ (λx=>Iff.rfl) F rfl (by simp) (by omega) rfl) ?_
 refine rn ?_;simp;refine ab.again (by kernel_rfl) ?_
 refine ab.runN lay [] 18 ?_;simp;refine bT.intro λH A=>?_
 have q:H≠b:=λe=>by subst e;simp[aa.del,aa.set,Ne.symm n]at A
 simp
 change ab _ _ _ _ _ _ _ _ _
 refine ab.bD 6 (b:=H) (.sl 1 [int 0,int 1] .exact) (aa.an _ _ _) (by simp) rfl ?_
 refine ab.yD 6 (a':=.cp (ints [0,1]) 0) (by simp;exact LB rfl rfl (eE 1 [int 0,int 1] .exact)) ?_
 refine ab.Nf rfl rfl rfl (by simp) Tryz.func107 rfl rfl rfl ?_
 refine rn ?_;simp;refine ab.vp (hold':=[]) rfl rfl rfl (by simp) rfl Tryz.func108 rfl rfl (by show(4:Nat)<=13;decide) (by simp[mC.at,aa.del,aa.set,Ne.symm q,Ne.symm n]) (by kernel_rfl) (λU=>xy (b:=b) (mb:=mb) (f:=f) (begun:=[0,1]) ⟨rfl,rfl,rfl,rfl,rfl⟩ (λx=>Iff.rfl) F rfl (by simp) (by omega) rfl) ?_
 refine rn ?_;simp;refine ab.again (by kernel_rfl) ?_
 refine rn ?_;simp;refine ab.S8 (hold':=[]) rfl rfl rfl (by simp) rfl Tryz.func110 rfl rfl (by show(2:Nat)<=4;decide) (by simp[mC.at,aa.del,aa.set,Ne.symm q,Ne.symm n]) (by kernel_rfl) (λU=>EP rfl rfl) ?_
 refine rn ?_;simp;refine ab.Kg ?_;refine rn ?_;simp;refine ab.FU lay rfl rfl FX rfl oo (by simp) rfl rfl λo I=>?_
 have r:∀j,(am f (jL j)).length<1000000000:=λj=>by
  unfold jL;split
  . exact hlen.1
  . exact hlen.2
 have f1:-9223372036854775808<=((am f (jL o)).length:Int)/\((am f (jL o)).length:Int)<=9223372036854775807:=by have:=r o;omega
 refine rn ?_;simp[mC.at,f1.1,f1.2];refine ab.again (by kernel_rfl) ?_
 refine rn ?_;simp;refine ab.FU lay rfl rfl FX rfl oo (by simp) rfl rfl λs J=>?_
 have V:-9223372036854775808<=((am f (jL o)).length:Int)+((am f (jL s)).length:Int)/\((am f (jL o)).length:Int)+((am f (jL s)).length:Int)<=9223372036854775807:=by have:=r o;have:=r s;omega
 refine rn ?_;simp[V.1,V.2];refine ab.again (by kernel_rfl) ?_
 refine rn ?_;simp;refine ab.AZ lay rfl rfl FX rfl oo (by simp) rfl rfl (by simp[aa.del,aa.set,Ne.symm q,Ne.symm n]) rfl y λa ha=>?_
 refine rn ?_;simp
 have B:((am f (jL o)).length:Int)+((am f (jL s)).length:Int)=((am f [0,0]).length:Int)+((am f [0,1]).length:Int):=by
  have i:o∈List.range 2:=I;have t:s∈(List.range 2).erase o:=J;have:o=0\/o=1:=by have:=List.mem_range.1 i;omega
  rcases this with rfl|rfl
  . have:s=1:=by simpa[List.range,List.range.loop]using t
    subst this;rfl
  . have:s=0:=by simpa[List.range,List.range.loop]using t
    subst this;exact Int.add_comm _ _
 rw[B];obtain⟨la,rfl,K⟩:=ha;refine .done (h _ ⟨aa.an _ _ _,la,(aa.ag _ _ (Ne.symm u)).trans (aa.an _ _ _),K⟩ λc x i t C=>?_)
 have L:c≠mb:=λe=>by
  subst e;rw[v]at i;cases i
  rcases C with C|C
  . exact C rfl
  . cases C
 have M:c≠cF:=λe=>by subst e;rw[k]at i;cases i
 have N:c≠E:=λe=>by subst e;rw[g]at i;cases i
 have O:c≠gb:=λe=>by subst e;rw[d]at i;cases i
 have W:c≠G:=λe=>by subst e;simp[aa.del,aa.set,L,M,N,O,t,i]at z
 have e6:c≠H:=λe=>by subst e;simp[aa.del,aa.set,L,M,N,O,W,t,i]at A
 simp[aa.del,aa.set,L,M,N,O,W,e6,t,i]
end
section
variable{b mb:Nat}{f:Fr}{Un:aa->Prop}{Ld:aa->List (Int × AV)->Prop}
theorem rl(W:Fa prog m nn b 6 mb .u8 (cO f) Un Ld)(hf:f.Good){L:AV}{p:List Int->Bool}(B:L.cells=[L]/\L.flat=true)(a7:∀w∈am f [],∀(σ:aa) (KF:dF->aa->Prop),KF (.val (bool (p w))) σ->dX prog m L [ints w] σ KF)(hlen:(am f []).length<1152921504606846976)(hu:Un σ)
 (h:∀σ',Un σ'->lq b mb σ σ'->KF (.val (.bk [int (((am f []).filter p).length),int (am f []).length])) σ'):ar prog m 91 [iY b mb f 0,L] σ KF:=by
 refine fs Ro 2 Tryz.func91 rfl rfl (by rfl) (by kernel_rfl) ?_
 simp[Tryz.f91,B.1,B.2];refine bT.intro λj h6=>?_
 simp;refine bT.intro λi h7=>?_
 obtain⟨X,z2,h7⟩:=aa.aG h7;simp[X,z2,aa.ag];have hW:Wl [iY b mb f 0,AV.lit (.slice none 0 0)] [iY b mb f 0,ints []]:=.cons (.refl _) (.cons (cV 1) .nil);refine aT Tryz.func63 rfl rfl hW (qk (begun:=[]) ?_);refine rn ?_;simp;refine ab.rangeFunc rfl λa8 r l t v C=>?_
 obtain⟨a1,_,t⟩:=aa.aG t;obtain⟨a2,_,t⟩:=aa.aG t;obtain⟨_,_,t⟩:=aa.aG t;obtain⟨_,_,t⟩:=aa.aG t;obtain⟨a3,_,v⟩:=aa.aG v;obtain⟨a4,_,v⟩:=aa.aG v;obtain⟨_,_,v⟩:=aa.aG v;obtain⟨_,_,v⟩:=aa.aG v;have z:σ r=none/\r≠j/\r≠i:=⟨t,a2,a1⟩;have d:σ l=none/\l≠j/\l≠i:=⟨v,a4,a3⟩;generalize M:mM.mk _ _ _ _ _ _ _ _ _=N
 have hY:Ma m (.fn (.yield l) [] []) (am f []) (λk F σ'=>(∀c,F c↔c=l\/c=j\/c=i)/\σ' l=some (.loop N)/\σ' j=some (.cells [int ((((am f []).take k).filter p).length)])/\σ' i=some (.cells [int k])) (λF σ'=>False):=by
  refine⟨λk F σ' ay hk D hT hF=>?_,λk F a9 o Y D=>?_,λF a9 o Y D=>D.elim,λk F σ' c D s=>?_⟩
  . obtain⟨a,J,O,P⟩:=D
    have e7:∀x,(σ'.set l x) i=some (.cells [int k]):=λx=>(aa.ag _ _ (Ne.symm d.2.2)).trans P
    have f1:-9223372036854775808<=(k:Int)+1/\(k:Int)+1<=9223372036854775807:=by omega
    have b0:(((am f []).take k).filter p).length<=k:=Nat.le_trans (List.length_filter_le _ _) (by rw[List.length_take];omega)
    have f2:-9223372036854775808<=((((am f []).take k).filter p).length:Int)+1/\((((am f []).take k).filter p).length:Int)+1<=9223372036854775807:=by omega
    have u:(((am f []).take (k+1)).filter p).length=(((am f []).take k).filter p).length+if p (am f [])[k]then 1 else 0:=by
     rw[List.take_succ_eq_append_getElem hk,List.filter_append,List.length_append];congr 1
     by_cases Z:p (am f [])[k]<;>simp[Z]
    have Q:(am f [])[k]∈am f []:=List.getElem_mem hk;subst M;refine dX.tA (hold:=Ro) a8 Tryz.func91 J rfl ?_;refine rn ?_;simp[lU];refine ab.beginRound J rfl ?_;refine rn ?_;simp[e7,f1.1,f1.2,B.1];refine a7 _ Q _ _ ?_;have e6:∀x y,((σ'.set l x).set i y) j=some (.cells [int ((((am f []).take k).filter p).length)]):=λx y=>(aa.ag _ _ (Ne.symm X)).trans ((aa.ag _ _ (Ne.symm d.2.1)).trans O)
    cases Z:p (am f [])[k]
    . refine rn ?_
      simp;refine⟨rfl,rfl,_,((aa.ag _ _ d.2.2).trans (aa.an _ _ _)),?_⟩;refine hT F _ (λc x s hx=>⟨?_,s⟩) ⟨a,aa.an _ _ _,?_,(aa.ag _ _ (Ne.symm d.2.2)).trans (aa.an _ _ _)⟩
      . have E:c≠l:=λe=>s ((a c).2 (.inl e))
        have R:c≠i:=λe=>s ((a c).2 (.inr (.inr e)))
        exact(aa.ag _ _ E).trans ((aa.ag _ _ R).trans ((aa.ag _ _ E).trans hx))
      . refine(aa.ag _ _ (Ne.symm d.2.1)).trans ((e6 _ _).trans ?_)
        rw[u,Z];rfl
    . refine rn ?_
      simp[e6,f2.1,f2.2];refine⟨rfl,rfl,_,((aa.ag _ _ d.2.1).trans ((aa.ag _ _ d.2.2).trans (aa.an _ _ _))),?_⟩;refine hT F _ (λc x s hx=>⟨?_,s⟩) ⟨a,aa.an _ _ _,?_,(aa.ag _ _ (Ne.symm d.2.2)).trans ((aa.ag _ _ X).trans (aa.an _ _ _))⟩
      . have E:c≠l:=λe=>s ((a c).2 (.inl e))
        have q2:c≠j:=λe=>s ((a c).2 (.inr (.inl e)))
        have R:c≠i:=λe=>s ((a c).2 (.inr (.inr e)))
        exact(aa.ag _ _ E).trans ((aa.ag _ _ q2).trans ((aa.ag _ _ R).trans ((aa.ag _ _ E).trans hx)))
      . refine(aa.ag _ _ (Ne.symm d.2.1)).trans ((aa.an _ _ _).trans ?_)
        rw[u,Z];simp
  . obtain⟨a,J,O,P⟩:=D
    exact⟨a,by rw[Y l ((a l).2 (.inl rfl))];exact J,by rw[Y j ((a j).2 (.inr (.inl rfl)))];exact O,by rw[Y i ((a i).2 (.inr (.inr rfl)))];exact P⟩
  . obtain⟨a,J,O,P⟩:=D
    rcases(a c).1 s with rfl|rfl|rfl
    . exact⟨_,J,rfl⟩
    . exact⟨_,O,rfl⟩
    . exact⟨_,P,rfl⟩
 obtain⟨xb,S,b1⟩:=W.Mb hu;have nb:∀c,σ c=none->c≠b:=λc s e=>by subst e;rw[s]at S;cases S
 have T:σ.Le ((((((σ.set j (.cells [int 0])).set i (.cells [int 0])).set j (.cells [int 0])).set i (.cells [int 0])).set r (.raw (.deferred (some [])))).set l (.loop N)):=(by repeat (first|exact aa.le_refl _|assumption|refine aa.iz ?_ (by assumption)|refine aa.jZ ?_ (by assumption)))
 have sr:((((((σ.set j (.cells [int 0])).set i (.cells [int 0])).set j (.cells [int 0])).set i (.cells [int 0])).set r (.raw (.deferred (some [])))).set l (.loop N)) r=some (.raw (.deferred (some []))):=(aa.ag _ _ C).trans (aa.an _ _ _);have s7:((((((σ.set j (.cells [int 0])).set i (.cells [int 0])).set j (.cells [int 0])).set i (.cells [int 0])).set r (.raw (.deferred (some [])))).set l (.loop N)) i=some (.cells [int 0]):=(aa.ag _ _ (Ne.symm d.2.2)).trans ((aa.ag _ _ (Ne.symm z.2.2)).trans (aa.an _ _ _))
 have s6:((((((σ.set j (.cells [int 0])).set i (.cells [int 0])).set j (.cells [int 0])).set i (.cells [int 0])).set r (.raw (.deferred (some [])))).set l (.loop N)) j=some (.cells [int 0]):=(aa.ag _ _ (Ne.symm d.2.1)).trans ((aa.ag _ _ (Ne.symm z.2.1)).trans ((aa.ag _ _ (Ne.symm X)).trans (aa.an _ _ _)))
 refine eY Tryz.func112 rfl rfl rfl (nX (F:=λc=>c=l\/c=j\/c=i) W hf (by simp) hY ⟨rfl,rfl⟩ (W.un (λc _ ⟨x,n,_⟩=>(T _ _ n).trans n.symm) hu) ⟨λc=>Iff.rfl,aa.an _ _ _,by simpa using s6,by simpa using s7⟩ λF' σ' U ad A=>?_)
 have V:=(U r _ sr (λe=>by rcases e with e|e|e;exact C e;exact z.2.1 e;exact z.2.2 e) (nb r t) (.inr rfl)).1
 have G:lq b mb σ σ':=λc x n K H=>(U c x (T c x n) (λe=>by rcases e with e|e|e<;>subst e<;>simp_all) K H).1
 have I:∀o,o=(σ'.del l).set r (.raw (.deferred none))->Un o/\lq b mb σ o:=λo e=>by
  subst e;refine⟨W.un (σ:=σ') (λc _ ⟨x,n,K⟩=>?_) ad,λc x n K H=>?_⟩
  . have c1:c≠r:=λe=>by subst e;rw[V]at n;cases n;cases K
    have c2:c≠l:=λe=>by
     subst e
     rcases A with⟨_,g,_⟩|g
     . rw[g]at n;cases n;cases K
     . exact g.elim
    rw[aa.ag _ _ c1];simp[aa.del,c2]
  . have c1:c≠r:=λe=>by subst e;rw[t]at n;cases n
    have c2:c≠l:=λe=>by subst e;rw[v]at n;cases n
    rw[aa.ag _ _ c1];simp only[aa.del,c2,if_false];exact G c x n K H
 rcases A with⟨_,E,q2,R⟩|q
 . rw[List.take_length]at q2
   subst M;refine⟨_,E,by simp,rfl,?_⟩
   have av:(σ'.del l) j=some (.cells [int ((am f []).filter p).length]):=by simp only[aa.del,Ne.symm d.2.1,if_false];exact q2
   have ax:(σ'.del l) i=some (.cells [int (am f []).length]):=by simp only[aa.del,Ne.symm d.2.2,if_false];exact R
   refine rn ?_;simp[av,ax];refine rn ?_;simp;refine⟨by simp only[aa.del,C,if_false];exact V,.done ?_⟩
   obtain⟨e1,e2⟩:=I _ rfl;exact h _ e1 e2
 . exact q.elim
end
theorem fP(f:Fr)(begun:List Int):∀(fuel:Nat) (de:List Int) (many:Int) (c:List Int),∀w∈dv f begun fuel de many c,w.length=de.length+fuel
 |0,de,many,c,w,b=>by simp[dv]at b;subst b;rfl
 | fuel+1,de,many,c,w,b=>by
   rw[oY,List.mem_flatMap]at b;obtain⟨k,_,a⟩:=b;unfold ol at a;split at a
   . cases a
   split at a
   . have:=fP f begun fuel _ _ _ w a
     rw[this];simp;omega
   . cases a
section
variable{b mb:Nat}{f:Fr}{Un:aa->Prop}{Ld:aa->List (Int × AV)->Prop}
def aJ(x y:Int)(w:List Int):Bool:=decide (w.getD x.toNat 0=w.getD y.toNat 0)
theorem LC{w:List Int}{x y:Int}(a:0<=x/\x.toNat<w.length)(b:0<=y/\y.toNat<w.length)(h:KF (.val (bool (aJ x y w))) σ):ar prog m 129 [ints w,.cp (int x) 0,.cp (int y) 0] σ KF:=by
 have c:w.getD x.toNat 0=w[x.toNat]:=by simp[List.getD_eq_getElem?_getD,a.2]
 have d:w.getD y.toNat 0=w[y.toNat]:=by simp[List.getD_eq_getElem?_getD,b.2]
 unfold aJ at h;rw[c,d]at h;refine fs Rv 3 Tryz.func129 rfl rfl (by rfl) (by kernel_rfl) ?_;simp[Tryz.f129,a.1,a.2,b.1,b.2];refine rn ?_;simp;refine .done ?_;by_cases q:w[x.toNat]=w[y.toNat]
 . simpa[q]using h
 . have:(w[x.toNat]==w[y.toNat])=false:=by simp[q]
   simpa[q,this]using h
theorem Fb(g:Fa prog m nn b 6 mb .u8 (cO f) Un Ld)(i:f.Good){x y:Int}(d:0<=x/\x.toNat<f.ao.length)(e:0<=y/\y.toNat<f.ao.length)(hlen:(am f []).length<1152921504606846976)(j:Un σ)
 (h:∀σ',Un σ'->lq b mb σ σ'->KF (.val (int (eN (((am f []).filter (aJ x y)).length:Int) (am f []).length))) σ'):ar prog m 95 [iY b mb f 0,int x,int y] σ KF:=by
 have c:∀w∈am f [],w.length=f.ao.length:=λw c=>by have:=fP f [] _ _ _ _ w c;simpa using this
 refine fs [] 3 Tryz.func95 rfl rfl (by rfl) (by kernel_rfl) ?_;simp[Tryz.f95];refine cf Tryz.func91 rfl (rl g i (p:=aJ x y) ⟨rfl,rfl⟩ (λw a σ KF k=>eY Tryz.func129 rfl rfl rfl (LC ⟨d.1,by rw[c w a];exact d.2⟩ ⟨e.1,by rw[c w a];exact e.2⟩ k)) hlen j λσ' l n=>?_);refine rn ?_;simp;refine cf Tryz.func100 rfl (vW ?_);refine rn ?_;simp;exact .done (h σ' l n)
end
theorem jX(r:m.solo=true){f:Fr}{l:List Int}{sp:bX}(o:f.Fits)(p:check f=0)(s:∀n∈l,0<=n/\n<f.ao.length)(j:l.length<1152921504606846976)(g:am f []≠[])(h:∀b mb σ',b≠mb->rj b 6 mb .u8 (cO f) σ'->σ b=none/\σ mb=none->σ.Le σ'->KF (.val (.bk [iY b mb f 0,int 0])) σ'):ar prog m 62 [az f,.sl 1 (l.map int) sp] σ KF:=by
 have t:=Fr.eh o p;have u:=l8 p s;refine fs [] 2 Tryz.func62 rfl rfl (by rfl) (by kernel_rfl) ?_
 simp[Tryz.f62];have v:Wl [AV.agg (bS f),.sl 1 (l.map int) sp] [az f,ints l]:=.cons (.refl _) (.cons (eE 1 _ sp) .nil);refine aT Tryz.func59 rfl rfl v (fI o j (λq=>absurd u q) λ_ b mb σ' d=>?_)
 have w:rj b 6 mb .u8 (cO f) σ':=by rw[d.eq];exact⟨aa.an _ _ _,[],(aa.ag _ _ (Ne.symm d.ne)).trans (aa.an _ _ _),λn a h=>by simp[gu]at h⟩
 refine rn ?_;simp;refine cf Tryz.func88 rfl (mR (eo ln lp qH r d.ne) t w λk y z=>?_)
 refine rn ?_;simp[g];refine .done (h b mb k d.ne y ⟨d.hb,d.tk⟩ λc x i=>?_)
 have A:c≠b:=λe=>by subst e;rw[d.hb]at i;cases i
 have B:c≠mb:=λe=>by subst e;rw[d.tk]at i;cases i
 exact z c x (d.le c x i) A (.inl B)
theorem Fc(k:m.solo=true){f:Fr}{x y:Int}(o:f.Fits)(p:check f=0)(a:0<=x/\x<f.ao.length)(r:0<=y/\y<f.ao.length)(d:am f []≠[])(hlen:(am f []).length<1152921504606846976)(h:KF (.val (.bk [int (eN (((am f []).filter (aJ x y)).length:Int) (am f []).length),int 0])) σ):ar prog m 39 [az f,int x,int y] σ KF:=by
 have s:=Fr.eh o p;refine fs [] 3 Tryz.func39 rfl rfl (by rfl) (by kernel_rfl) ?_
 simp[Tryz.f39];refine cf Tryz.func62 rfl (jX (l:=[x,y]) (sp:=.exact) k o p (λn q=>by simp at q;rcases q with rfl|rfl<;>omega) (by simp) d λb mb t i u g j=>?_)
 refine rn ?_;simp;refine cf Tryz.func95 rfl (Fb (eo ln lp qH k i) s ⟨a.1,by omega⟩ ⟨r.1,by omega⟩ hlen u λv B w=>?_)
 refine rn ?_;simp;refine .less (λc x a=>?_) (.done h)
 have z:c≠b:=λe=>by subst e;rw[g.1]at a;cases a
 have A:c≠mb:=λe=>by subst e;rw[g.2]at a;cases a
 exact w c x (j c x a) z (.inl A)
theorem BT(l:m.solo=true){f:Fr}(j:f.Fits)(k:check f=0)(hlen:(am f [0,0]).length<1000000000/\(am f [0,1]).length<1000000000)(h:KF (.val (.bk [int (gT f),int 0])) σ):ar prog m 15 [az f] σ KF:=by
 have o:=Fr.eh j k;have p:=mQ k;refine fs [] 1 Tryz.func15 rfl rfl (by rfl) (by kernel_rfl) ?_
 simp[Tryz.f15];have r:Wl [AV.agg (bS f),AV.lit (.slice none 0 0)] [az f,ints []]:=.cons (.refl _) (.cons (cV 1) .nil);refine aT Tryz.func59 rfl rfl r (fI j (by simp) (λq=>absurd p q) λ_ b mb i d=>?_)
 have s:rj b 6 mb .u8 (cO f) i:=by rw[d.eq];exact⟨aa.an _ _ _,[],(aa.ag _ _ (Ne.symm d.ne)).trans (aa.an _ _ _),λn a h=>by simp[gu]at h⟩
 refine rn ?_;simp;refine cf Tryz.func60 rfl (BX l o hlen d.ne s λt y u=>?_)
 refine rn ?_;simp;refine .less (λc x g=>?_) (.done h)
 have v:c≠b:=λe=>by subst e;rw[d.hb]at g;cases g
 have w:c≠mb:=λe=>by subst e;rw[d.tk]at g;cases g
 exact u c x (d.le c x g) v (.inl w)
theorem Pb{f:Fr}{l:List Int}(j:f.Fits)(k:check f=0)(c:O4 f l)(i:l.length<20)(h:KF (.val (.bk [bool (decide (mG f l=0)),int 0])) σ):ar prog m 26 [az f,ints l] σ KF:=by
 refine fs [] 2 Tryz.func26 rfl rfl (by rfl) (by kernel_rfl) ?_;simp[Tryz.f26];refine cf Tryz.func69 rfl (zB j k c λb mb n o=>?_);refine rn ?_;simp;refine cf Tryz.func70 rfl (Ko (Fr.eh j k) ⟨c.mem,c.ne,c.len⟩ i ?_);refine rn ?_;simp;refine pM lay rfl Rg rfl (isNil:=decide (mG f l=0)) ?_ (.inl ⟨rfl,rfl⟩) ?_
 . by_cases g:mG f l=0
   . left
     refine⟨?_,by simp[g]⟩;simp[g];rfl
   . right
     obtain⟨d,a,e⟩:=C2 g;refine⟨⟨d,a,?_⟩,by simp[g]⟩;rw[<-e];simp
 refine rn ?_;simp;exact .less o.le (.done h)
end Go.Proofs.YtldmpfccgajobaaGreatDoor

import Derived.Test.YtkcceaplmgdnfaaGreatDoorC30
set_option linter.all false
namespace Go.Proofs.YtkcceaplmgdnfaaGreatDoor
open Go.Proofs.Tryz (prog)
open Go.bu Go.Conc
set_option maxHeartbeats 1000000
set_option maxRecDepth 4000
variable{m:Mo}{σ:aa}{KF:cJ->aa->Prop}
section
variable{b mb:Nat}{f:Fr}{begun:List Int}{y:AV}{W:List (List Int)}{I:Nat->(Nat->Prop)->aa->Prop}{E:(Nat->Prop)->aa->Prop}{Un:aa->Prop}{Ld:aa->List (Int × AV)->Prop}{c4 cg cp:Nat}
def ov(f:Fr)(begun:List Int)(fuel:Nat)(way:List Int)(many:Int)(a:List Int)(k:Nat):List (List Int):=
 if way.length<begun.length/\begun.getD way.length 0≠(k:Int)then[]
 else if lf f (b0 (a.getD k 0) way.length)=true then fM f begun fuel (way++[(k:Int)]) (max many ((k:Int)+1)) (a.set k (b0 (a.getD k 0) way.length))else[]
theorem wG(f:Fr)(begun:List Int)(fuel:Nat)(way:List Int)(many:Int)(a:List Int):fM f begun (fuel+1) way many a=(List.range (min (many+1) f.eQ).toNat).flatMap (ov f begun fuel way many a):=rfl
theorem Cg(K:Nat->List (List Int)){k cnt:Nat}(h:k<cnt):∃rest,(List.range cnt).flatMap K=(List.range k).flatMap K++(K k++rest):=by
 obtain⟨n,rfl⟩:∃n,cnt=k+1+n:=⟨cnt-(k+1),by omega⟩;induction n with
 |zero=>exact⟨[],by rw[Nat.add_zero,List.range_succ,List.flatMap_append];simp⟩
 | succ n a=>
   obtain⟨rest,b⟩:=a (by omega);refine⟨rest++K (k+1+n),?_⟩;rw[show k+1+(n+1)=(k+1+n)+1 by omega,List.range_succ,List.flatMap_append,b];simp
theorem Nz(P:JJ prog m nn b 6 mb .u8 (jV f) Un Ld)(R:f.Good)(S:begun.length<1152921504606846976)(Y:QG m y W I E)(T:y.cells=[y]):∀fuel:Nat,Kx m b mb f begun y W I E Un c4 cg cp fuel:=by
 have h6:=R.qt;have ab:=R.eQ;intro fuel
 induction fuel with
 | zero=>
   intro way many h sp F σ pre post KF hlen l hh U G H J u;have V:(way.length:Int)=f.aF.length:=by omega
   refine fs [] 6 Tryz.func189 rfl rfl (by rfl) (by kernel_rfl) ?_
   simp[Tryz.f189,V,T];have hk:pre.length<W.length:=by rw[H];simp[fM]
   have X:W[pre.length]=way:=by subst H;simp[fM]
   refine bz.weaken (args':=[ints way]) ?_ ⟨bQ 1 _ sp,trivial⟩;rw[<-X];refine Y.step pre.length F σ _ hk J (λq d n x=>?_) (λq d n x=>?_)
   . refine rn ?_
     simp;exact .done (u.1 q d (Cf n) (wE P G n (λc Z=>Y.Mh _ _ _ c J Z)) x)
   . refine rn ?_
     simp;exact .done (u.2 q d (Cf n) (wE P G n (λc Z=>Y.Mh _ _ _ c J Z)) x)
 | succ fuel a7=>
   intro way many h sp F σ pre post KF hlen l hh U G H J u;have V:((way.length:Int)==f.aF.length)=false:=by grind
   have ad:=U.pt;rw[wG]at H u;obtain⟨cnt,K⟩:∃cnt:Nat,cnt=(min (many+1) f.eQ).toNat:=⟨_,rfl⟩;rw[<-K]at H u;have L:(if f.eQ<many+1 then f.eQ else many+1)=(cnt:Int):=by omega
   have al:cnt<=6:=by omega
   have m1:-9223372036854775808<=many+1/\many+1<=9223372036854775807:=by omega
   refine fs [] 6 Tryz.func189 rfl rfl (by rfl) (by kernel_rfl) ?_
   simp[Tryz.f189,V,m1.1,m1.2,L];refine af.loop cnt (λk s=>∃env d q,s=⟨env,d,[],.no⟩/\env 0=.sl 1 (way.map int) sp/\env 1=int many/\env 2=.cp (jU b mb f 0) 0/\env 4=.cp (ints begun) 0/\env 5=.ref cp 0/\env 29=int cnt/\env 30=int k/\Mv b mb F q σ d/\Un d/\I (pre.length+((List.range k).flatMap (ov f begun fuel way many h)).length) q d) ⟨_,_,F,rfl,by simp,by simp,by simp,by simp,by simp,by simp,by simp,Mv.refl b mb F σ,G,J⟩ ?_
   rintro c0 k _ hk ⟨env,d,q,rfl,B,n,x,C,M,g,i,o,z,a8⟩ ih
   rcases Nat.lt_or_ge k cnt with g1|g1
   . have N:=U.mv (P.QC G) o
     have w:=N.pt;obtain⟨rest,Q⟩:=Cg (ov f begun fuel way many h) g1
     have a9:((List.range (k+1)).flatMap (ov f begun fuel way many h)).length=((List.range k).flatMap (ov f begun fuel way many h)).length+(ov f begun fuel way many h k).length:=by rw[List.range_succ,List.flatMap_append,List.length_append];simp
     by_cases g2:way.length<begun.length/\begun.getD way.length 0≠(k:Int)
     . have hK:ov f begun fuel way many h k=[]:=if_pos g2
       have e1:begun.getD way.length 0=begun[way.length]:=by grind
       have e2:(begun[way.length] !=(k:Int))=true:=by grind
       refine rn ?_;simp[B,C,g,i,g1,g2.1,e2];refine⟨by omega,ih _ g1 ⟨_,_,q,rfl,by simp[B],by simp[n],by simp[x],by simp[C],by simp[M],by simp[g],by simp,o,z,?_⟩⟩
       grind
     . have hK:ov f begun fuel way many h k=if lf f (b0 (h.getD k 0) way.length)=true then fM f begun fuel (way++[(k:Int)]) (max many ((k:Int)+1)) (h.set k (b0 (h.getD k 0) way.length))else[]:=if_neg g2
       have p:∀A:cJ->aa->Prop,(∀(v:Bool) a j,Mv b mb F j σ a->Un a->(v=true->I (pre.length+((List.range (k+1)).flatMap (ov f begun fuel way many h)).length) j a)->(v=false->E j a)->A (.val (bool v)) a)->aB prog m 185 [.sl 1 (way.map int) sp,int many,int k,.ref c4 0,.cp (jU b mb f 0) 0,.ref cg 0] d A:=λA O=>by
        refine PC P R S Y a7 (pre:=pre++(List.range k).flatMap (ov f begun fuel way many h)) (post:=rest++post) hlen l (by omega) hh N z hK (by grind) (by grind) ⟨λj a r t D=>?_,λj a r t D=>?_⟩
        . refine O true a j (o.trans r) t (λ_=>?_) (λe=>by cases e)
          grind
        . exact O false a j (o.trans r) t (λe=>by cases e) (λ_=>D)
       by_cases g3:way.length<begun.length
       . have e1:begun.getD way.length 0=begun[way.length]:=by grind
         have e2:(begun[way.length] !=(k:Int))=false:=by grind
         refine rn ?_;simp[B,n,C,M,g,i,g1,g3,e2,w];refine cP Tryz.func185 rfl rfl (by simp) (p _ λv a j r t D q4=>?_)
         cases v
         . refine rn ?_
           simp;exact .done (u.2 j a r t (q4 rfl))
         . refine rn ?_
           simp[i];exact⟨by omega,ih _ g1 ⟨_,_,j,rfl,by simp[B],by simp[n],by simp[x],by simp[C],by simp[M],by simp[g],by simp,r,t,D rfl⟩⟩
       . refine rn ?_
         simp[B,n,C,M,g,i,g1,g3,w];refine cP Tryz.func185 rfl rfl (by simp) (p _ λv a j r t D q4=>?_)
         cases v
         . refine rn ?_
           simp;exact .done (u.2 j a r t (q4 rfl))
         . refine rn ?_
           simp[i];exact⟨by omega,ih _ g1 ⟨_,_,j,rfl,by simp[B],by simp[n],by simp[x],by simp[C],by simp[M],by simp[g],by simp,r,t,D rfl⟩⟩
   . have:k=cnt:=by omega
     subst this;refine rn ?_;simp[g,i];exact .done (u.1 q d o z a8)
end
section
variable{b mb:Nat}{f:Fr}{begun:List Int}{y:AV}{I:Nat->(Nat->Prop)->aa->Prop}{E:(Nat->Prop)->aa->Prop}{Un:aa->Prop}{Ld:aa->List (Int × AV)->Prop}
theorem Ad{sp:cQ}(h:KF (.val (.fn (.func 184) [] [.cp (jU b mb f 0) 0,.cp (.sl 1 (begun.map int) sp) 0])) σ):aB prog m 159 [jU b mb f 0,.sl 1 (begun.map int) sp] σ KF:=by
 refine fs [] 2 Tryz.func159 rfl rfl (by rfl) (by kernel_rfl) ?_;simp[Tryz.f159];exact .done h
theorem KA(f:Fr):Hs f 0 [0,0,0,0,0,0]:=by
 refine⟨rfl,λx a e b=>?_,λx a=>?_⟩
 . have hb:aC 0=[]:=by decide +kernel
   simp at a;subst a;rw[hb]at b;cases b
 . simp at a;subst a;omega
theorem Mv.le{F d:Nat->Prop}{σ0 σ':aa}(h:Mv b mb F d σ σ')(a:σ0.Le σ):Mv b mb F d σ0 σ':=λc x e f g i=>h c x (a c x e) f g i
theorem wH(s:JJ prog m nn b 6 mb .u8 (jV f) Un Ld)(w:f.Good)(k:begun.length<1152921504606846976)(Y:QG m y (aK f begun) I E)(d:y.cells=[y]/\y.flat=true){F:Nat->Prop}(z:Un σ)(l:I 0 F σ)
 (h:∀e σ',Mv b mb F e σ σ'->Un σ'->(I (aK f begun).length e σ'\/E e σ')->KF (.val (.bp [])) σ'):aB prog m 184 [y,.cp (jU b mb f 0) 0,.cp (ints begun) 0] σ KF:=by
 refine fs [] 3 Tryz.func184 rfl rfl (by rfl) (by kernel_rfl) ?_
 simp[Tryz.f184,d.1,d.2];refine bq.intro λc4 A=>?_
 simp;refine bq.intro λcg n=>?_
 obtain⟨J,t,n⟩:=aa.aH n;simp;refine bq.intro λcp i=>?_
 obtain⟨B,C,i⟩:=aa.aH i;obtain⟨K,u,i⟩:=aa.aH i;simp[C,aa.ak];have a:σ.Le ((((σ.set c4 (.cells [u8 0,u8 0,u8 0,u8 0,u8 0,u8 0])).set cg (.cells [.lit .nilFunc])).set cp (.cells [aX (jU b mb f 0) c4 cg])).set cg (.cells [wF (jU b mb f 0) y begun cp])):=(by repeat (first|exact aa.le_refl _|assumption|refine aa.eo ?_ (by assumption)|refine aa.kJ ?_ (by assumption)))
 have D:((((σ.set c4 (.cells [u8 0,u8 0,u8 0,u8 0,u8 0,u8 0])).set cg (.cells [.lit .nilFunc])).set cp (.cells [aX (jU b mb f 0) c4 cg])).set cg (.cells [wF (jU b mb f 0) y begun cp])) c4=some (.cells (([0,0,0,0,0,0]:List Int).map u8)):=by simp[t,u,aa.ak]
 have G:((((σ.set c4 (.cells [u8 0,u8 0,u8 0,u8 0,u8 0,u8 0])).set cg (.cells [.lit .nilFunc])).set cp (.cells [aX (jU b mb f 0) c4 cg])).set cg (.cells [wF (jU b mb f 0) y begun cp])) cg=some (.cells [wF (jU b mb f 0) y begun cp]):=by simp
 have sp:((((σ.set c4 (.cells [u8 0,u8 0,u8 0,u8 0,u8 0,u8 0])).set cg (.cells [.lit .nilFunc])).set cp (.cells [aX (jU b mb f 0) c4 cg])).set cg (.cells [wF (jU b mb f 0) y begun cp])) cp=some (.cells [aX (jU b mb f 0) c4 cg]):=by simp[B,aa.ak]
 have g:∀c,σ c=none -> ¬F c:=λc o H=>by obtain⟨x,j,_⟩:=Y.Mh _ _ _ _ l H;rw[o]at j;cases j
 refine bz.weaken (args':=[.sl 1 (([]:List Int).map int) .any,int 0]) ?_ ⟨cz 1,.refl _,trivial⟩
 refine cP Tryz.func189 rfl rfl rfl (Nz (y:=y) s w k Y d.1 f.aF.length [] 0 [0,0,0,0,0,0] .any F _ [] [] _ (by simp) (by omega) (KA f) ⟨D,G,sp,⟨g _ A,g _ n,g _ i⟩,⟨t,u⟩⟩ (s.un (λc _ ⟨x,v,_⟩=>by rw[v];exact a _ _ v) z) (by simp[aK]) (Y.frame _ _ _ _ (λc o=>by obtain⟨x,j,_⟩:=Y.Mh _ _ _ _ l o;rw[j];exact a _ _ j) l) ⟨λe σ' p q r=>?_,λe σ' p q r=>?_⟩)
 . refine rn ?_
   simp;refine .done (h e σ' (p.le a) q (.inl ?_));simpa[aK]using r
 . refine rn ?_
   simp;exact .done (h e σ' (p.le a) q (.inr r))
end
section
variable{b mb:Nat}{f:Fr}{Un:aa->Prop}{Ld:aa->List (Int × AV)->Prop}
theorem NA(L:JJ prog m nn b 6 mb .u8 (jV f) Un Ld)(hf:f.Good)(Z:Un σ)(h:∀σ',Un σ'->nL b mb σ σ'->KF (.val (bool (decide (aK f []≠[])))) σ'):aB prog m 201 [jU b mb f 0] σ KF:=by
 refine fs [] 1 Tryz.func201 rfl rfl (by rfl) (by kernel_rfl) ?_
 simp[Tryz.f201];refine bq.intro λd h3=>?_
 simp;have hW:Wl [jU b mb f 0,AV.lit (.slice none 0 0)] [jU b mb f 0,ints []]:=.cons (.refl _) (.cons (cz 1) .nil);refine aM Tryz.func159 rfl rfl hW (Ad (begun:=[]) ?_);refine rn ?_;simp;refine af.rangeFunc rfl λO r l M P o=>?_
 obtain⟨r1,r2,M⟩:=aa.aH M;obtain⟨l1,p,P⟩:=aa.aH P;generalize u:me.mk _ _ _ _ _ _ _ _ _=N
 have hY:QG m (.fn (.yield l) [] []) (aK f []) (λk F σ'=>k=0/\(∀c,F c↔c=l\/c=d)/\σ' l=some (.loop N)/\σ' d=some (.cells [bool false])) (λF σ'=>aK f []≠[]/\(∀c,F c↔c=l\/c=d)/\σ' l=some (.loop {N with state:=.done,pending:=some (.exit 0)})/\σ' d=some (.cells [bool true])):=by
  refine⟨λk F σ' a7 hk v hT hF=>?_,λk F Q j G v=>?_,λF Q j G v=>?_,λk F σ' c v w=>?_⟩
  . obtain⟨rfl,a,s,y⟩:=v
    have e3:∀x,(σ'.set l x) d=some (.cells [bool false]):=λx=>by rw[aa.ak _ _ p];exact y
    subst u;refine bz.r6 (hold:=[]) O Tryz.func201 s rfl ?_;refine rn ?_;simp[kG];refine af.beginRound s rfl ?_;refine rn ?_;simp[e3];have R:aK f []≠[]:=λe=>by rw[e]at hk;cases hk
    refine⟨rfl,rfl,_,((aa.ak _ _ l1).trans (aa.ao _ _ _)),?_⟩;refine hF F _ (λc x w hx=>⟨?_,w⟩) ⟨R,a,aa.ao _ _ _,(aa.ak _ _ p).trans (aa.ao _ _ _)⟩
    have D:c≠l:=λe=>w ((a c).2 (.inl e))
    have H:c≠d:=λe=>w ((a c).2 (.inr e))
    exact(aa.ak _ _ D).trans ((aa.ak _ _ H).trans ((aa.ak _ _ D).trans hx))
  . obtain⟨rfl,a,s,y⟩:=v
    exact⟨rfl,a,by rw[G l ((a l).2 (.inl rfl))];exact s,by rw[G d ((a d).2 (.inr rfl))];exact y⟩
  . obtain⟨q,a,s,y⟩:=v
    exact⟨q,a,by rw[G l ((a l).2 (.inl rfl))];exact s,by rw[G d ((a d).2 (.inr rfl))];exact y⟩
  . obtain⟨rfl,a,s,y⟩:=v
    rcases(a c).1 w with rfl|rfl
    . exact⟨_,s,rfl⟩
    . exact⟨_,y,rfl⟩
 obtain⟨xb,I,a8⟩:=L.QC Z;have nb:∀c,σ c=none->c≠b:=λc w e=>by subst e;rw[w]at I;cases I
 have J:σ.Le (((σ.set d (.cells [bool false])).set r (.raw (.deferred (some [])))).set l (.loop N)):=(by repeat (first|exact aa.le_refl _|assumption|refine aa.eo ?_ (by assumption)|refine aa.kJ ?_ (by assumption)))
 have sr:(((σ.set d (.cells [bool false])).set r (.raw (.deferred (some [])))).set l (.loop N)) r=some (.raw (.deferred (some []))):=by rw[aa.ak _ _ o,aa.ao]
 refine cP Tryz.func184 rfl rfl rfl (wH (F:=λc=>c=l\/c=d) L hf (by simp) hY ⟨rfl,rfl⟩ (L.un (λc _ ⟨x,i,_⟩=>(J _ _ i).trans i.symm) Z) ⟨rfl,λc=>Iff.rfl,aa.ao _ _ _,(aa.ak _ _ p).trans ((aa.ak _ _ r2).trans (aa.ao _ _ _))⟩ λF' σ' K S t=>?_)
 have z:=(K r _ sr (λe=>by rcases e with e|e;exact o e;exact r1 e) (nb r M) (.inr rfl)).1
 have A:nL b mb σ σ':=λc x i E B=>(K c x (J c x i) (λe=>by rcases e with e|e<;>subst e<;>simp_all) E B).1
 have n:∀j,j=(σ'.del l).set r (.raw (.deferred none))->Un j/\nL b mb σ j:=λj e=>by
  subst e;refine⟨L.un (σ:=σ') (λc _ ⟨x,i,E⟩=>?_) S,λc x i E B=>?_⟩
  . have D:c≠r:=λe=>by subst e;rw[z]at i;cases i;cases E
    have H:c≠l:=λe=>by
     subst e
     rcases t with⟨_,_,g,_⟩|⟨_,_,g,_⟩<;>rw[g]at i<;>cases i<;>cases E
    rw[aa.ak _ _ D];simp[aa.del,H]
  . have D:c≠r:=λe=>by subst e;rw[M]at i;cases i
    have H:c≠l:=λe=>by subst e;rw[P]at i;cases i
    rw[aa.ak _ _ D];simp only[aa.del,H,if_false];exact A c x i E B
 rcases t with⟨T,_,U,V⟩|⟨T,_,U,V⟩
 . have W:decide (aK f []≠[])=false:=by simp[List.length_eq_zero_iff.1 T]
   rw[W]at h;subst u;refine⟨_,U,by simp,rfl,?_⟩
   have C:(σ'.del l) d=some (.cells [bool false]):=by simp only[aa.del,p,if_false];simpa[p,Ne.symm p]using V
   refine rn ?_;simp[C];refine⟨by simp only[aa.del,o,if_false];exact z,.done ?_⟩
   obtain⟨X,Y⟩:=n _ rfl;exact h _ X Y
 . have W:decide (aK f []≠[])=true:=by simp[T]
   rw[W]at h;subst u;refine⟨_,U,by simp,rfl,?_⟩
   have C:(σ'.del l) d=some (.cells [bool true]):=by simp only[aa.del,p,if_false];simpa[p,Ne.symm p]using V
   refine rn ?_;simp[C];refine⟨by simp only[aa.del,o,if_false];exact z,.done ?_⟩
   obtain⟨X,Y⟩:=n _ rfl;exact h _ X Y
end
end Go.Proofs.YtkcceaplmgdnfaaGreatDoor
namespace Go.Proofs.YtkcceaplmgdnfaaGreatDoor
open Go.Proofs.Tryz (prog)
open Go Go.bu
set_option maxRecDepth 100000
abbrev ng:Gd:=⟨89,91,95,119,120,133,118,126,136,121,162,163,164,169,137,130,208,210,215⟩
theorem KB:∀(b:Nat) (kind:CallKind),aU (A0 prog ng b kind).1=some (ng.iF,[])/\(A0 prog ng b kind).1.env.all plain=true/\(A0 prog ng b kind).2=[]/\(A0 prog ng b kind).1.kind=kind:=by intro b kind;exact⟨by kernel_rfl,by kernel_rfl,by kernel_rfl,by kernel_rfl⟩
theorem KC:∀(b:Nat) (kind:CallKind),aU (A1 prog ng b kind).1=some (ng.MP,[])/\(A1 prog ng b kind).1.env.all plain=true/\(A1 prog ng b kind).2=[]/\(A1 prog ng b kind).1.kind=kind:=by intro b kind;exact⟨by kernel_rfl,by kernel_rfl,by kernel_rfl,by kernel_rfl⟩
theorem KG:∀(b:Nat) (kind:CallKind),aU (A2 prog ng b kind).1=some (ng.qT,[pt b 0,u64 4294967296])/\uC (A2 prog ng b kind)=true/\(A2 prog ng b kind).1.env.all plain=true/\(A2 prog ng b kind).2.all (·.env.all plain)=true:=by intro b kind;exact⟨by kernel_rfl,by kernel_rfl,by kernel_rfl,by kernel_rfl⟩
theorem KH:∀(b:Nat) (kind:CallKind) (a:Fl),jL (A3 prog ng b kind (f1 a true)).1=some (ng.tS,ng.tU,pt b 1):=by intro b kind a;kernel_rfl
theorem KI:∀(b:Nat) (kind:CallKind) (a:Fl),aU (A4 prog ng b kind (f1 a true)).1=some (ng.rd,[pt b 1])/\(A4 prog ng b kind (f1 a true)).1.kind=kind:=by intro b kind a;exact⟨by kernel_rfl,by kernel_rfl⟩
theorem KJ:∀(b:Nat) (kind:CallKind) (a:Fl),qf (A5 prog ng b kind (f0 (f1 a true) false)).1=some ng.en/\(A5 prog ng b kind (f0 (f1 a true) false)).2=[]/\(A5 prog ng b kind (f0 (f1 a true) false)).1.kind=kind/\(A5 prog ng b kind (f0 (f1 a true) false)).1.fn=ng.add:=by intro b kind a;exact⟨by kernel_rfl,by kernel_rfl,by kernel_rfl,by kernel_rfl⟩
theorem KL:∀(b:Nat) (kind:CallKind) (a:Fl),qf (A3 prog ng b kind (f0 (f1 a false) false)).1=some ng.en/\(A3 prog ng b kind (f0 (f1 a false) false)).2=[]/\(A3 prog ng b kind (f0 (f1 a false) false)).1.kind=kind/\(A3 prog ng b kind (f0 (f1 a false) false)).1.fn=ng.add:=by intro b kind a;exact⟨by kernel_rfl,by kernel_rfl,by kernel_rfl,by kernel_rfl⟩
theorem KM:∀(b:Nat),jL (D0 prog ng b).1=some (ng.tG,ng.tU,pt b 0)/\(D0 prog ng b).1.env.all plain=true/\(D0 prog ng b).2.all (·.env.all plain)=true:=by intro b;exact⟨by kernel_rfl,by kernel_rfl,by kernel_rfl⟩
theorem KN:∀(b:Nat),aU (D1 prog ng b).1=some (ng.rel,[pt b 0])/\uC (D1 prog ng b)=true/\(D1 prog ng b).1.env.all plain=true/\(D1 prog ng b).2.all (·.env.all plain)=true:=by intro b;exact⟨by kernel_rfl,by kernel_rfl,by kernel_rfl,by kernel_rfl⟩
theorem KO:∀(b:Nat),aU (D2 prog ng b).1=some (ng.iF,[])/\uC (D2 prog ng b)=true/\(D2 prog ng b).1.env.all plain=true/\(D2 prog ng b).2.all (·.env.all plain)=true:=by intro b;exact⟨by kernel_rfl,by kernel_rfl,by kernel_rfl,by kernel_rfl⟩
theorem KP:∀(b:Nat),aU (D3 prog ng b).1=some (ng.MP,[])/\uC (D3 prog ng b)=true/\(D3 prog ng b).1.env.all plain=true/\(D3 prog ng b).2.all (·.env.all plain)=true:=by intro b;exact⟨by kernel_rfl,by kernel_rfl,by kernel_rfl,by kernel_rfl⟩
theorem KQ:∀(b:Nat),aU (D4 prog ng b).1=some (ng.qT,[pt b 0,u64 18446744069414584320])/\uC (D4 prog ng b)=true/\(D4 prog ng b).1.env.all plain=true/\(D4 prog ng b).2.all (·.env.all plain)=true:=by intro b;exact⟨by kernel_rfl,by kernel_rfl,by kernel_rfl,by kernel_rfl⟩
theorem KR:∀(b:Nat) (a:Fl) (x:Bool),qf (DE prog ng b (f0 a x) 0).1=some ng.en:=by intro b a x;cases x<;>kernel_rfl
theorem HG:∀(b:Nat) (a:Fl) (x:Bool),jA (ll prog (f0 a x) (DE prog ng b (f0 a x) 0)).1 ng.done=true/\(ll prog (f0 a x) (DE prog ng b (f0 a x) 0)).2=[]/\(ll prog (f0 a x) (DE prog ng b (f0 a x) 0)).1.kind=.deferred:=by intro b a x;cases x<;>exact⟨by kernel_rfl,by kernel_rfl,by kernel_rfl⟩
theorem KS:∀(b:Nat) (a:Fl),qf (DE prog ng b (f0 a false) 1).1=some ng.en:=by intro b a;kernel_rfl
theorem HH:∀(b:Nat) (a:Fl),jA (ll prog (f0 a false) (DE prog ng b (f0 a false) 1)).1 ng.done=true/\(ll prog (f0 a false) (DE prog ng b (f0 a false) 1)).2=[]/\(ll prog (f0 a false) (DE prog ng b (f0 a false) 1)).1.kind=.deferred:=by intro b a;exact⟨by kernel_rfl,by kernel_rfl,by kernel_rfl⟩
theorem KT:∀(b:Nat) (a:Fl),aU (DE prog ng b (f0 a true) 1).1=some (ng.uh,[pt b 0])/\uC (DE prog ng b (f0 a true) 1)=true:=by intro b a;exact⟨by kernel_rfl,by kernel_rfl⟩
theorem KU:∀(b:Nat) (a:Fl),aU (D6 prog ng b (f0 a true)).1=some (ng.Ge,[pt b 0,u64 0])/\uC (D6 prog ng b (f0 a true))=true:=by intro b a;exact⟨by kernel_rfl,by kernel_rfl⟩
theorem KV:∀(b:Nat) (a:Fl),aU (D7 prog ng b (f0 a true)).1=some (ng.m6,[pt b 1,ff,i64 0])/\uC (D7 prog ng b (f0 a true))=true:=by intro b a;exact⟨by kernel_rfl,by kernel_rfl⟩
theorem KW:∀(b:Nat) (a:Fl),qf (D8 prog ng b (f0 a true)).1=some ng.en:=by intro b a;kernel_rfl
theorem KX:∀(b:Nat) (a:Fl),jA (ll prog (f0 a true) (D8 prog ng b (f0 a true))).1 ng.done=true/\(ll prog (f0 a true) (D8 prog ng b (f0 a true))).2=[]/\(ll prog (f0 a true) (D8 prog ng b (f0 a true))).1.kind=.deferred:=by intro b a;exact⟨by kernel_rfl,by kernel_rfl,by kernel_rfl⟩
theorem KY:∀(b:Nat) (kind:CallKind),aU (W0 prog ng b kind).1=some (ng.iF,[])/\(W0 prog ng b kind).1.env.all plain=true/\(W0 prog ng b kind).2=[]/\(W0 prog ng b kind).1.kind=kind:=by intro b kind;exact⟨by kernel_rfl,by kernel_rfl,by kernel_rfl,by kernel_rfl⟩
theorem KZ:∀(b:Nat) (kind:CallKind),aU (W1 prog ng b kind).1=some (ng.uh,[pt b 0])/\uC (W1 prog ng b kind)=true/\(W1 prog ng b kind).1.env.all plain=true/\(W1 prog ng b kind).2.all (·.env.all plain)=true:=by intro b kind;exact⟨by kernel_rfl,by kernel_rfl,by kernel_rfl,by kernel_rfl⟩
theorem K0:∀(b:Nat) (kind:CallKind) (a:Fl),aU (WE prog ng b kind (f0 a true)).1=some (ng.en,[])/\(WE prog ng b kind (f0 a true)).1.kind=kind:=by intro b kind a;exact⟨by kernel_rfl,by kernel_rfl⟩
theorem K1:∀(b:Nat) (kind:CallKind) (a:Fl),jL (WC prog ng b kind (f0 a true)).1=some (ng.tG,ng.tU,pt b 0):=by intro b kind a;kernel_rfl
theorem K2:∀(b:Nat) (kind:CallKind) (a:Fl),aU (WA prog ng b kind (f0 a true)).1=some (ng.acq,[pt b 0])/\(WA prog ng b kind (f0 a true)).1.kind=kind:=by intro b kind a;exact⟨by kernel_rfl,by kernel_rfl⟩
theorem K3:∀(b:Nat) (kind:CallKind) (a:Fl),jA (WB prog ng b kind (f0 a true)).1 ng.wait=true/\(WB prog ng b kind (f0 a true)).2=[]/\(WB prog ng b kind (f0 a true)).1.kind=kind:=by intro b kind a;exact⟨by kernel_rfl,by kernel_rfl,by kernel_rfl⟩
theorem K4:∀(b:Nat) (kind:CallKind) (a:Fl),aU (WE prog ng b kind (f0 a false)).1=some (ng.vD,[pt b 0,.dN 0,.dN 1])/\uC (WE prog ng b kind (f0 a false))=true:=by intro b kind a;exact⟨by kernel_rfl,by kernel_rfl⟩
theorem K5:∀(b:Nat) (kind:CallKind) (a:Fl),Fa [5] [[0]] (next prog (f0 a false) (WE prog ng b kind (f0 a false)) ff)=W1 prog ng b kind:=by intro b kind a;kernel_rfl
theorem K6:∀(b:Nat) (kind:CallKind) (a:Fl),jL (W3 prog ng b kind (f0 a false)).1=some (ng.tS,ng.tU,pt b 1):=by intro b kind a;kernel_rfl
theorem K7:∀(b:Nat) (kind:CallKind) (a:Fl),aU (Qw prog ng b kind (f0 a false)).1=some (ng.wr,[pt b 1])/\(Qw prog ng b kind (f0 a false)).1.kind=kind:=by intro b kind a;exact⟨by kernel_rfl,by kernel_rfl⟩
theorem K8:∀(b:Nat) (kind:CallKind) (a:Fl),aU (W4 prog ng b kind (f0 a false)).1=some (ng.Dd,[pt b 1,ff])/\(W4 prog ng b kind (f0 a false)).1.kind=kind:=by intro b kind a;exact⟨by kernel_rfl,by kernel_rfl⟩
theorem K9:∀(b:Nat) (kind:CallKind) (a:Fl),aU (W5 prog ng b kind (f0 a false)).1=some (ng.uh,[pt b 0])/\uC (W5 prog ng b kind (f0 a false))=true:=by intro b kind a;exact⟨by kernel_rfl,by kernel_rfl⟩
theorem La:∀(b:Nat) (kind:CallKind) (a:Fl),aU (Qx prog ng b kind (f0 a false)).1=some (ng.en,[])/\(Qx prog ng b kind (f0 a false)).1.kind=kind:=by intro b kind a;exact⟨by kernel_rfl,by kernel_rfl⟩
theorem Lb:∀(b:Nat) (kind:CallKind) (a:Fl),jL (RI prog ng b kind (f0 a false)).1=some (ng.tG,ng.tU,pt b 0):=by intro b kind a;kernel_rfl
theorem Lc:∀(b:Nat) (kind:CallKind) (a:Fl),aU (Qy prog ng b kind (f0 a false)).1=some (ng.acq,[pt b 0])/\(Qy prog ng b kind (f0 a false)).1.kind=kind:=by intro b kind a;exact⟨by kernel_rfl,by kernel_rfl⟩
theorem Lf:∀(b:Nat) (kind:CallKind) (a:Fl),jA (Ob prog ng b kind (f0 a false)).1 ng.wait=true/\(Ob prog ng b kind (f0 a false)).2=[]/\(Ob prog ng b kind (f0 a false)).1.kind=kind:=by intro b kind a;exact⟨by kernel_rfl,by kernel_rfl,by kernel_rfl⟩
theorem Oz:fG prog ng where
 a0:=KB
 a1:=KC
 a2:=KG
 a3:=KH
 a4:=KI
 a5:=KJ
 a6:=KL
 d0:=KM
 d1:=KN
 d2:=KO
 d3:=KP
 d4:=KQ
 d5:=KR
 Vb:=HG
 d6:=KS
 Vd:=HH
 d7:=KT
 d8:=KU
 d9:=KV
 da:=KW
 db:=KX
 w0:=KY
 w1:=KZ
 w2:=K0
 w3:=K1
 w4:=K2
 w5:=K3
 w6:=K4
 w7:=K5
 w8:=K6
 w9:=K7
 wa:=K8
 wb:=K9
 wc:=La
 wd:=Lb
 we:=Lc
 wf:=Lf
theorem OA:gF prog ng where
 iF:=⟨_,rfl,rfl,rfl,rfl,rfl⟩
 en:=⟨_,rfl,rfl,rfl,rfl,rfl⟩
 acq:=⟨_,rfl,rfl,rfl,rfl,rfl⟩
 rel:=⟨_,rfl,rfl,rfl,rfl,rfl⟩
 rd:=⟨_,rfl,rfl,rfl,rfl,rfl⟩
 wr:=⟨_,rfl,rfl,rfl,rfl,rfl⟩
 MP:=⟨_,rfl,rfl,rfl,rfl,rfl⟩
 qT:=⟨_,rfl,rfl,rfl,rfl,rfl⟩
 uh:=⟨_,rfl,rfl,rfl,rfl,rfl⟩
 Ge:=⟨_,rfl,rfl,rfl,rfl,rfl⟩
 vD:=⟨_,rfl,rfl,rfl,rfl,rfl⟩
 Dd:=⟨_,rfl,rfl,rfl,rfl,rfl⟩
 m6:=⟨_,rfl,rfl,rfl,rfl,rfl⟩
 Ve:=⟨_,rfl,rfl,rfl⟩
 Vf:=⟨_,rfl,rfl,rfl⟩
 O9:=⟨_,_,rfl,rfl,rfl,rfl⟩
 I6:=⟨_,_,rfl,rfl,rfl,rfl⟩
 I7:=⟨_,_,rfl,rfl,rfl,rfl⟩
end Go.Proofs.YtkcceaplmgdnfaaGreatDoor
namespace Go.Proofs.YtkcceaplmgdnfaaGreatDoor
open Go.Proofs.Tryz (prog)
open Go.bu Go.Conc
set_option maxHeartbeats 1000000
set_option maxRecDepth 4000
variable{m:Mo}{σ:aa}{KF:cJ->aa->Prop}
theorem PD:lq prog nn:=⟨⟨_,_,Tryz.func93,rfl,rfl,rfl⟩,⟨_,_,Tryz.func94,rfl,rfl,rfl⟩⟩
section
variable{b mb:Nat}{f:Fr}{A:bt}{j:Nat}{begun:List Int}
theorem Em{b:ai}(a:A.ng=ng){body:Code}(hb:Tryz.f160.body=some body):af prog (vG prog A) 160 4 none [] [.code body] ⟨cW [.ref A.gb 0,.cp (.chan A.cF) 0],ij A.fb,[],.told .deferred [cd prog] b⟩ (λ_ _=>False):=by
 simp only[Tryz.f160,Option.some.injEq]at hb;subst hb;refine af.runN lay [] 2 ?_;simp;refine af.JI rfl (by rw[a];rfl) rfl (by simp) (by rw[a];exact Tryz.func95) rfl rfl rfl ?_;refine rn ?_;simp;exact af.DD rfl rfl (by simp) rfl rfl rfl rfl rfl Tryz.func160 rfl rfl
theorem wI{W:ai}(X:A.fb=b/\A.mb=mb/\A.fo=6/\A.nm=nn/\A.ng=ng/\A.dir=false)(Y:∀x,A.GI x↔∃l,x=mapA .u8 l/\jV f l)(Z:f.Good)(s:A.res j=int (aK f begun).length)(B:begun.length<1152921504606846976)(hlen:(aK f begun).length<1152921504606846976){body:Code}(hb:Tryz.f158.body=some body):
 af prog (gg prog A j) 158 13 none [] [.code body] ⟨cW [.ref A.gb 0,.cp (jU b mb f 0) 0,.cp (ints begun) 0,.cp (.chan A.cF) 0],ij A.fb,[],.told .deferred [cd prog] W⟩ (λ_ _=>False):=by
 obtain⟨rfl,rfl,C,D,t,g⟩:=X;simp only[Tryz.f158,Option.some.injEq]at hb;subst hb;have U:=JK (P:=prog) (A:=A) g (j:=j) (kd:=.u8) Y;rw[C,D]at U;refine rn ?_;simp;refine af.defer rfl rfl rfl rfl (by simp) rfl ?_
 refine rn ?_;simp;refine bq.intro λcn u=>?_
 simp;refine cf Tryz.func159 rfl (Ad (begun:=begun) (sp:=.any) ?_);refine rn ?_;simp;refine af.rangeFunc rfl λE r l v n h=>?_
 obtain⟨r1,r2,v⟩:=aa.aH v;obtain⟨l1,o,n⟩:=aa.aH n;generalize w:me.mk _ _ _ _ _ _ _ _ _=G
 have hY:QG (gg prog A j) (.fn (.yield l) [] []) (aK f begun) (λk F a=>(∀c,F c↔c=l\/c=cn)/\a l=some (.loop G)/\a cn=some (.cells [int k])) (λF a=>False):=by
  refine⟨λk F a a7 hk i hT hF=>?_,λk F H I J i=>?_,λF H I J i=>i.elim,λk F a c i m=>?_⟩
  . obtain⟨d,p,y⟩:=i
    have e3:∀x,(a.set l x) cn=some (.cells [int k]):=λx=>(aa.ak _ _ o).trans y
    have f1:-9223372036854775808<=(k:Int)+1/\(k:Int)+1<=9223372036854775807:=by omega
    subst w;refine bz.r6 (hold:=[]) E Tryz.func158 p rfl ?_;refine rn ?_;simp[kG];refine af.beginRound p rfl ?_;refine rn ?_;simp[e3,f1.1,f1.2];refine⟨rfl,rfl,_,((aa.ak _ _ l1).trans (aa.ao _ _ _)),?_⟩;refine hT F _ (λc x m hx=>⟨?_,m⟩) ⟨d,aa.ao _ _ _,(aa.ak _ _ o).trans (aa.ao _ _ _)⟩
    have V:c≠l:=λe=>m ((d c).2 (.inl e))
    have c2:c≠cn:=λe=>m ((d c).2 (.inr e))
    exact(aa.ak _ _ V).trans ((aa.ak _ _ c2).trans ((aa.ak _ _ V).trans hx))
  . obtain⟨d,p,y⟩:=i
    exact⟨d,by rw[J l ((d l).2 (.inl rfl))];exact p,by rw[J cn ((d cn).2 (.inr rfl))];exact y⟩
  . obtain⟨d,p,y⟩:=i
    rcases(d c).1 m with rfl|rfl
    . exact⟨_,p,rfl⟩
    . exact⟨_,y,rfl⟩
 have hu:Vm A.fb (((ij A.fb).set cn (.cells [int 0])).set r (.raw (.deferred (some [])))|>.set l (.loop G)):=by
  have q:(ij A.fb) A.fb=some .fC:=by simp[ij]
  have K:A.fb≠cn:=λe=>by rw[<-e,q]at u;cases u
  have L:A.fb≠r:=λe=>by rw[<-e,q]at v;cases v
  have M:A.fb≠l:=λe=>by rw[<-e,q]at n;cases n
  show _=_;rw[aa.ak _ _ M,aa.ak _ _ L,aa.ak _ _ K];exact q
 have nb:∀c,(ij A.fb) c=none->c≠A.fb:=λc m e=>by subst e;simp[ij]at m
 have sr:(((ij A.fb).set cn (.cells [int 0])).set r (.raw (.deferred (some [])))|>.set l (.loop G)) r=some (.raw (.deferred (some []))):=(aa.ak _ _ h).trans (aa.ao _ _ _)
 refine cP Tryz.func184 rfl rfl rfl (wH (F:=λc=>c=l\/c=cn) U Z B hY ⟨rfl,rfl⟩ hu ⟨λc=>Iff.rfl,aa.ao _ _ _,(aa.ak _ _ o).trans ((aa.ak _ _ r2).trans (aa.ao _ _ _))⟩ λF' a N O z=>?_)
 have Q:=(N r _ sr (λe=>by rcases e with e|e;exact h e;exact r1 e) (nb r v) (.inr rfl)).1
 rcases z with⟨_,K,L⟩|hE
 . subst w
   refine⟨_,K,by simp,rfl,?_⟩
   have R:(a.del l) cn=some (.cells [int (aK f begun).length]):=by simp only[aa.del,o,if_false];simpa[o,Ne.symm o]using L
   have S:(a.del l) A.fb=some .fC:=by
    have M:A.fb≠l:=λe=>by
     have q:(ij A.fb) A.fb=some .fC:=by simp[ij]
     rw[<-e,q]at n;cases n
    simp only[aa.del,M,if_false];exact O
   have T:(a.del l) r=some (.raw (.deferred (some []))):=by simp only[aa.del,h,if_false];exact Q
   refine rn ?_;simp[R];refine af.JH g rfl rfl (by simp) rfl rfl (by rw[s];simp) S rfl rfl Tryz.func158 rfl (by rw[t];exact Tryz.func91) rfl rfl ?_
   refine rn ?_;simp;refine⟨rfl,.inl rfl,⟨_,rfl⟩,r,by rw[t],T⟩
 . exact hE.elim
end
def iO(j:Nat):List Int:=if j=0 then[0,0]else[0,1]
def fX(f:Fr):Int:=if f.aF.length<2 then 1 else(aK f [0,0]).length+(aK f [0,1]).length
theorem OB{v d:AV}(l:v.cells=[v])(m:d.cells=[d])(h:v.W d):(AV.cp v 0).W (.cp d 0):=λk x n=>by
 cases n with
 | cp b base off N E v c o p f g=>
   rw[l]at p f g;refine .cp b base 0 N E d c o (by simp_all) (λj i=>f j (by simp_all)) (λj a e=>?_);rw[m]at e;have i:j=0:=by grind
   subst i;simp at e;subst e;exact h k _ (g 0 v rfl)
section
variable{b mb:Nat}{f:Fr}
theorem Lg(U:m.solo=true)(A:f.Good)(hlen:(aK f [0,0]).length<1000000000/\(aK f [0,1]).length<1000000000)(q:b≠mb)(L:QD b 6 mb .u8 (jV f) σ)(h:∀σ',QD b 6 mb .u8 (jV f) σ'->nL b mb σ σ'->KF (.val (int (fX f))) σ'):aB prog m 114 [jU b mb f 0] σ KF:=by
 have h6:=A.qt;unfold fX at h;refine fs [] 1 Tryz.func114 rfl rfl (by rfl) (by kernel_rfl) ?_
 simp[Tryz.f114]
 by_cases M:f.aF.length<2
 . have k:(f.aF.length:Int)<2:=by omega
   rw[if_pos M]at h;simp[k];exact .done (h σ L (nL.refl b mb σ))
 have k:¬(f.aF.length:Int)<2:=by omega
 rw[if_neg M]at h;obtain⟨V,lm,N,W⟩:=L;simp[k];refine BQ lay rfl Fw rfl qp rfl (by decide) λcF X=>?_
 refine rn ?_;simp;refine bq.intro λy r=>?_
 obtain⟨n1,Y,r⟩:=aa.aH r;simp;refine bq.intro λgb g=>?_
 obtain⟨Z,n4,g⟩:=aa.aH g;obtain⟨n5,O,g⟩:=aa.aH g;simp;have P:cF≠b:=λe=>by simp_all
 have Q:cF≠mb:=λe=>by simp_all
 have b3:y≠b:=λe=>by simp_all
 have m3:y≠mb:=λe=>by simp_all
 have s:gb≠b:=λe=>by simp_all
 have gm:gb≠mb:=λe=>by simp_all
 refine af.aV 3 (b:=y) (.chan cF) (by simp[n4,aa.ak]) (by simp) rfl ?_
 refine af.bL U ⟨2,false,cF,b,6,gb,mb,λx=>∃l,x=mapA .u8 l/\jV f l,λj=>int (aK f (iO j)).length,λ_=>.tuple #[],nn,ng,by omega,P,O,Q,Ne.symm s,q,gm⟩ rfl Oz OA yJ yK PD (tm:=false) (a:=mapA .u8 lm) (by simp[aa.del,aa.ak,Y,O]) (by simp[aa.del,Z]) (by simp[aa.del,aa.set,Ne.symm b3,Ne.symm s,Ne.symm P,V]) (by simp[aa.del,aa.set,Ne.symm m3,Ne.symm gm,Ne.symm Q,N]) (by simp[mapA,lX]) ⟨lm,rfl,W⟩ rfl λpb a7 Fin kd a8 k0 t=>?_
 refine af.sF ?_;refine af.runN lay [] 18 ?_;simp;refine bq.intro λB C=>?_
 have d:B≠b:=λe=>by simp_all
 simp
 change af _ _ _ _ _ _ _ _ _
 refine af.aV 6 (b:=B) (.sl 1 [int 0,int 0] .exact) (aa.ao _ _ _) (by simp) rfl ?_
 refine af.CS 6 (a':=.cp (ints [0,0]) 0) (by simp;exact OB rfl rfl (bQ 1 [int 0,int 0] .exact)) ?_
 refine af.JG rfl rfl rfl (by simp) Tryz.func89 rfl rfl rfl ?_
 refine rn ?_;simp;refine af.qJ (hold':=[]) rfl rfl rfl (by simp) rfl Tryz.func158 rfl rfl (by simp_all) (by simp[fI.at,aa.del,aa.set,Ne.symm d]) (by kernel_rfl) (λR=>wI (b:=b) (mb:=mb) (f:=f) (begun:=[0,0]) ⟨rfl,rfl,rfl,rfl,rfl,fI.vU _ _ _⟩ (λx=>Iff.rfl) A rfl (by simp) (by omega) rfl) ?_
 refine rn ?_;simp;refine af.again (by kernel_rfl) ?_
 refine af.runN lay [] 18 ?_;simp;refine bq.intro λD u=>?_
 have n:D≠b:=λe=>by subst e;simp[aa.del,aa.set,Ne.symm d]at u
 simp
 change af _ _ _ _ _ _ _ _ _
 refine af.aV 6 (b:=D) (.sl 1 [int 0,int 1] .exact) (aa.ao _ _ _) (by simp) rfl ?_
 refine af.CS 6 (a':=.cp (ints [0,1]) 0) (by simp;exact OB rfl rfl (bQ 1 [int 0,int 1] .exact)) ?_
 refine af.JG rfl rfl rfl (by simp) Tryz.func89 rfl rfl rfl ?_
 refine rn ?_;simp;refine af.qJ (hold':=[]) rfl rfl rfl (by simp) rfl Tryz.func158 rfl rfl (by simp_all) (by simp[fI.at,aa.del,aa.set,Ne.symm n,Ne.symm d]) (by kernel_rfl) (λR=>wI (b:=b) (mb:=mb) (f:=f) (begun:=[0,1]) ⟨rfl,rfl,rfl,rfl,rfl,fI.vU _ _ _⟩ (λx=>Iff.rfl) A rfl (by simp) (by omega) rfl) ?_
 refine rn ?_;simp;refine af.again (by kernel_rfl) ?_
 refine rn ?_;simp;refine af.Uh (by exact fI.vU _ _ _) (hold':=[]) rfl rfl rfl (by simp) rfl Tryz.func160 rfl rfl (by simp_all) (by simp[fI.at,aa.del,aa.set,Ne.symm n,Ne.symm d]) (by kernel_rfl) (λR=>Em rfl rfl) ?_
 refine rn ?_;simp;refine af.sF ?_;refine rn ?_;simp;refine af.Fv lay rfl rfl Fw rfl qp (by simp) rfl rfl λi E=>?_
 have a9:∀j,(aK f (iO j)).length<1000000000:=λj=>by unfold iO;grind
 have f1:-9223372036854775808<=((aK f (iO i)).length:Int)/\((aK f (iO i)).length:Int)<=9223372036854775807:=by grind
 refine rn ?_;simp[fI.at,f1.1,f1.2];refine af.again (by kernel_rfl) ?_
 refine rn ?_;simp;refine af.Fv lay rfl rfl Fw rfl qp (by simp) rfl rfl λo F=>?_
 have S:-9223372036854775808<=((aK f (iO i)).length:Int)+((aK f (iO o)).length:Int)/\((aK f (iO i)).length:Int)+((aK f (iO o)).length:Int)<=9223372036854775807:=by grind
 refine rn ?_;simp[S.1,S.2];refine af.again (by kernel_rfl) ?_
 refine rn ?_;simp;refine af.zW lay rfl rfl Fw rfl qp (by simp) rfl rfl (by simp[aa.del,aa.set,Ne.symm n,Ne.symm d]) rfl t λa ha=>?_
 refine rn ?_;simp
 have v:((aK f (iO i)).length:Int)+((aK f (iO o)).length:Int)=((aK f [0,0]).length:Int)+((aK f [0,1]).length:Int):=by
  have p:i∈List.range 2:=E;have z:o∈(List.range 2).erase i:=F;have:i=0\/i=1:=by simp_all
  rcases this with rfl|rfl
  . have:o=1:=by simp_all
    subst this;rfl
  . have:o=0:=by simp_all
    subst this;exact Int.add_comm _ _
 rw[v];obtain⟨la,rfl,G⟩:=ha;refine .done (h _ ⟨aa.ao _ _ _,la,(aa.ak _ _ (Ne.symm q)).trans (aa.ao _ _ _),G⟩ λc x p z w=>?_)
 have H:c≠mb:=λe=>by
  subst e;rw[N]at p;cases p
  rcases w with w|w
  . exact w rfl
  . cases w
 have I:c≠cF:=λe=>by simp_all
 have J:c≠y:=λe=>by simp_all
 have K:c≠gb:=λe=>by simp_all
 have T:c≠B:=λe=>by subst e;simp[aa.del,aa.set,H,I,J,K,z,p]at C
 have e6:c≠D:=λe=>by subst e;simp[aa.del,aa.set,H,I,J,K,T,z,p]at u
 simp[aa.del,aa.set,H,I,J,K,T,e6,z,p]
end
section
variable{b mb:Nat}{f:Fr}{Un:aa->Prop}{Ld:aa->List (Int × AV)->Prop}
theorem En(Q:JJ prog m nn b 6 mb .u8 (jV f) Un Ld)(hf:f.Good){G:AV}{p:List Int->Bool}(z:G.cells=[G]/\G.flat=true)(U:∀w∈aK f [],∀(σ:aa) (KF:cJ->aa->Prop),KF (.val (bool (p w))) σ->bz prog m G [ints w] σ KF)(hlen:(aK f []).length<1152921504606846976)(hu:Un σ)
 (h:∀σ',Un σ'->nL b mb σ σ'->KF (.val (.bp [int (((aK f []).filter p).length),int (aK f []).length])) σ'):aB prog m 203 [jU b mb f 0,G] σ KF:=by
 refine fs Ov 2 Tryz.func203 rfl rfl (by rfl) (by kernel_rfl) ?_
 simp[Tryz.f203,z.1,z.2];refine bq.intro λj h6=>?_
 simp;refine bq.intro λd h7=>?_
 obtain⟨R,z2,h7⟩:=aa.aH h7;simp[R,z2,aa.ak];have hW:Wl [jU b mb f 0,AV.lit (.slice none 0 0)] [jU b mb f 0,ints []]:=.cons (.refl _) (.cons (cz 1) .nil);refine aM Tryz.func159 rfl rfl hW (Ad (begun:=[]) ?_);refine rn ?_;simp;refine af.rangeFunc rfl λV r l t u H=>?_
 obtain⟨a1,_,t⟩:=aa.aH t;obtain⟨a2,_,t⟩:=aa.aH t;obtain⟨_,_,t⟩:=aa.aH t;obtain⟨_,_,t⟩:=aa.aH t;obtain⟨a3,_,u⟩:=aa.aH u;obtain⟨a4,_,u⟩:=aa.aH u;obtain⟨_,_,u⟩:=aa.aH u;obtain⟨_,_,u⟩:=aa.aH u;have I:σ r=none/\r≠j/\r≠d:=⟨t,a2,a1⟩;have a:σ l=none/\l≠j/\l≠d:=⟨u,a4,a3⟩;generalize J:me.mk _ _ _ _ _ _ _ _ _=K
 have hY:QG m (.fn (.yield l) [] []) (aK f []) (λk F σ'=>(∀c,F c↔c=l\/c=j\/c=d)/\σ' l=some (.loop K)/\σ' j=some (.cells [int ((((aK f []).take k).filter p).length)])/\σ' d=some (.cells [int k])) (λF σ'=>False):=by
  refine⟨λk F σ' ad hk D hT hF=>?_,λk F W n he D=>?_,λF W n he D=>D.elim,λk F σ' c D o=>?_⟩
  . obtain⟨i,S,X,Y⟩:=D
    have e7:∀x,(σ'.set l x) d=some (.cells [int k]):=λx=>(aa.ak _ _ (Ne.symm a.2.2)).trans Y
    have f1:-9223372036854775808<=(k:Int)+1/\(k:Int)+1<=9223372036854775807:=by omega
    have ar:(((aK f []).take k).filter p).length<=k:=Nat.le_trans (List.length_filter_le _ _) (by grind)
    have f2:-9223372036854775808<=((((aK f []).take k).filter p).length:Int)+1/\((((aK f []).take k).filter p).length:Int)+1<=9223372036854775807:=by omega
    have Z:(((aK f []).take (k+1)).filter p).length=(((aK f []).take k).filter p).length+if p (aK f [])[k]then 1 else 0:=by
     rw[List.take_succ_eq_append_getElem hk,List.filter_append,List.length_append]
     grind
    have L:(aK f [])[k]∈aK f []:=List.getElem_mem hk;subst J;refine bz.r6 (hold:=Ov) V Tryz.func203 S rfl ?_;refine rn ?_;simp[kG];refine af.beginRound S rfl ?_;refine rn ?_;simp[e7,f1.1,f1.2,z.1];refine U _ L _ _ ?_;have e6:∀x y,((σ'.set l x).set d y) j=some (.cells [int ((((aK f []).take k).filter p).length)]):=λx y=>(aa.ak _ _ (Ne.symm R)).trans ((aa.ak _ _ (Ne.symm a.2.1)).trans X)
    cases hp:p (aK f [])[k]
    . refine rn ?_
      simp;refine⟨rfl,rfl,_,((aa.ak _ _ a.2.2).trans (aa.ao _ _ _)),?_⟩;refine hT F _ (λc x o hx=>⟨?_,o⟩) ⟨i,aa.ao _ _ _,?_,(aa.ak _ _ (Ne.symm a.2.2)).trans (aa.ao _ _ _)⟩
      . have A:c≠l:=λe=>o ((i c).2 (.inl e))
        have M:c≠d:=λe=>o ((i c).2 (.inr (.inr e)))
        exact(aa.ak _ _ A).trans ((aa.ak _ _ M).trans ((aa.ak _ _ A).trans hx))
      . refine(aa.ak _ _ (Ne.symm a.2.1)).trans ((e6 _ _).trans ?_)
        simp_all
    . refine rn ?_
      simp[e6,f2.1,f2.2];refine⟨rfl,rfl,_,((aa.ak _ _ a.2.1).trans ((aa.ak _ _ a.2.2).trans (aa.ao _ _ _))),?_⟩;refine hT F _ (λc x o hx=>⟨?_,o⟩) ⟨i,aa.ao _ _ _,?_,(aa.ak _ _ (Ne.symm a.2.2)).trans ((aa.ak _ _ R).trans (aa.ao _ _ _))⟩
      . have A:c≠l:=λe=>o ((i c).2 (.inl e))
        have T:c≠j:=λe=>o ((i c).2 (.inr (.inl e)))
        have M:c≠d:=λe=>o ((i c).2 (.inr (.inr e)))
        exact(aa.ak _ _ A).trans ((aa.ak _ _ T).trans ((aa.ak _ _ M).trans ((aa.ak _ _ A).trans hx)))
      . refine(aa.ak _ _ (Ne.symm a.2.1)).trans ((aa.ao _ _ _).trans ?_)
        simp_all
  . simp_all
  . obtain⟨i,S,X,Y⟩:=D
    rcases(i c).1 o with rfl|rfl|rfl
    . exact⟨_,S,rfl⟩
    . exact⟨_,X,rfl⟩
    . exact⟨_,Y,rfl⟩
 obtain⟨xb,av,ax⟩:=Q.QC hu;have nb:∀c,σ c=none->c≠b:=λc o e=>by simp_all
 have N:σ.Le ((((((σ.set j (.cells [int 0])).set d (.cells [int 0])).set j (.cells [int 0])).set d (.cells [int 0])).set r (.raw (.deferred (some [])))).set l (.loop K)):=(by repeat (first|exact aa.le_refl _|assumption|refine aa.eo ?_ (by assumption)|refine aa.kJ ?_ (by assumption)))
 have sr:((((((σ.set j (.cells [int 0])).set d (.cells [int 0])).set j (.cells [int 0])).set d (.cells [int 0])).set r (.raw (.deferred (some [])))).set l (.loop K)) r=some (.raw (.deferred (some []))):=(aa.ak _ _ H).trans (aa.ao _ _ _);have s7:((((((σ.set j (.cells [int 0])).set d (.cells [int 0])).set j (.cells [int 0])).set d (.cells [int 0])).set r (.raw (.deferred (some [])))).set l (.loop K)) d=some (.cells [int 0]):=(aa.ak _ _ (Ne.symm a.2.2)).trans ((aa.ak _ _ (Ne.symm I.2.2)).trans (aa.ao _ _ _))
 have s6:((((((σ.set j (.cells [int 0])).set d (.cells [int 0])).set j (.cells [int 0])).set d (.cells [int 0])).set r (.raw (.deferred (some [])))).set l (.loop K)) j=some (.cells [int 0]):=(aa.ak _ _ (Ne.symm a.2.1)).trans ((aa.ak _ _ (Ne.symm I.2.1)).trans ((aa.ak _ _ (Ne.symm R)).trans (aa.ao _ _ _)));refine cP Tryz.func184 rfl rfl rfl (wH (F:=λc=>c=l\/c=j\/c=d) Q hf (by simp) hY ⟨rfl,rfl⟩ (Q.un (λc _ ⟨x,s,_⟩=>(N _ _ s).trans s.symm) hu) ⟨λc=>Iff.rfl,aa.ao _ _ _,by simp_all,by omega⟩ λF' σ' O a7 v=>?_)
 have P:=(O r _ sr (λe=>by omega) (nb r t) (.inr rfl)).1
 have B:nL b mb σ σ':=λc x s E C=>(O c x (N c x s) (λe=>by grind) E C).1
 have a8:∀n,n=(σ'.del l).set r (.raw (.deferred none))->Un n/\nL b mb σ n:=λn e=>by
  subst e;refine⟨Q.un (σ:=σ') (λc _ ⟨x,s,E⟩=>?_) a7,λc x s E C=>?_⟩
  . have c1:c≠r:=λe=>by subst e;rw[P]at s;cases s;cases E
    have c2:c≠l:=λe=>by
     subst e
     rcases v with⟨_,g,_⟩|g
     . rw[g]at s;cases s;cases E
     omega
    rw[aa.ak _ _ c1];simp[aa.del,c2]
  . have c1:c≠r:=λe=>by simp_all
    have c2:c≠l:=λe=>by simp_all
    rw[aa.ak _ _ c1];simp only[aa.del,c2,if_false];exact B c x s E C
 rcases v with⟨_,A,T,M⟩|q
 . rw[List.take_length]at T
   subst J;refine⟨_,A,by simp,rfl,?_⟩
   have a9:(σ'.del l) j=some (.cells [int ((aK f []).filter p).length]):=by simp only[aa.del,Ne.symm a.2.1,if_false];exact T
   have ab:(σ'.del l) d=some (.cells [int (aK f []).length]):=by simp only[aa.del,Ne.symm a.2.2,if_false];exact M
   refine rn ?_;simp[a9,ab];refine rn ?_;simp;refine⟨by simp only[aa.del,H,if_false];exact P,.done ?_⟩
   simp_all
 simp_all
end
theorem yL(f:Fr)(begun:List Int):∀(fuel:Nat) (way:List Int) (many:Int) (c:List Int),∀w∈fM f begun fuel way many c,w.length=way.length+fuel
 |0,way,many,c,w,b=>by simp[fM]at b;grind
 | fuel+1,way,many,c,w,b=>by
   rw[wG,List.mem_flatMap]at b;obtain⟨k,_,a⟩:=b;unfold ov at a;split at a
   . cases a
   split at a
   . have:=yL f begun fuel _ _ _ w a
     grind
   . cases a
section
variable{b mb:Nat}{f:Fr}{Un:aa->Prop}{Ld:aa->List (Int × AV)->Prop}
def yM(x y:Int)(w:List Int):Bool:=decide (w.getD x.toNat 0=w.getD y.toNat 0)
theorem Lh{w:List Int}{x y:Int}(a:0<=x/\x.toNat<w.length)(b:0<=y/\y.toNat<w.length)(h:KF (.val (bool (yM x y w))) σ):aB prog m 204 [ints w,.cp (int x) 0,.cp (int y) 0] σ KF:=by
 have c:w.getD x.toNat 0=w[x.toNat]:=by simp_all
 have d:w.getD y.toNat 0=w[y.toNat]:=by simp_all
 unfold yM at h;rw[c,d]at h;refine fs SH 3 Tryz.func204 rfl rfl (by rfl) (by kernel_rfl) ?_;simp[Tryz.f204,a.1,a.2,b.1,b.2];refine rn ?_;simp;refine .done ?_;omega
theorem NB(c:JJ prog m nn b 6 mb .u8 (jV f) Un Ld)(d:f.Good){x y:Int}(e:0<=x/\x.toNat<f.aF.length)(g:0<=y/\y.toNat<f.aF.length)(hlen:(aK f []).length<1152921504606846976)(i:Un σ)
 (h:∀σ',Un σ'->nL b mb σ σ'->KF (.val (int (kz (((aK f []).filter (yM x y)).length:Int) (aK f []).length))) σ'):aB prog m 181 [jU b mb f 0,int x,int y] σ KF:=by
 have a:∀w∈aK f [],w.length=f.aF.length:=λw a=>by have:=yL f [] _ _ _ _ w a;simp_all
 refine fs [] 3 Tryz.func181 rfl rfl (by rfl) (by kernel_rfl) ?_
 simp[Tryz.f181];refine cf Tryz.func203 rfl (En c d (p:=yM x y) ⟨rfl,rfl⟩ (λw j σ KF k=>cP Tryz.func204 rfl rfl rfl (Lh ⟨e.1,by simp_all⟩ ⟨g.1,by simp_all⟩ k)) hlen i λσ' l n=>?_)
 refine rn ?_;simp;refine cf Tryz.func202 rfl (D5 ?_);refine rn ?_;simp;exact .done (h σ' l n)
end
theorem HI(r:m.solo=true){f:Fr}{l:List Int}{sp:cQ}(o:f.Fits)(p:check f=0)(s:∀n∈l,0<=n/\n<f.aF.length)(j:l.length<1152921504606846976)(g:aK f []≠[])(h:∀b mb σ',b≠mb->QD b 6 mb .u8 (jV f) σ'->σ b=none/\σ mb=none->σ.Le σ'->KF (.val (.bp [jU b mb f 0,int 0])) σ'):aB prog m 180 [dt f,.sl 1 (l.map int) sp] σ KF:=by
 have t:=Fr.uo o p;have u:=DZ p s;refine fs [] 2 Tryz.func180 rfl rfl (by rfl) (by kernel_rfl) ?_
 simp[Tryz.f180];have v:Wl [AV.agg (B1 f),.sl 1 (l.map int) sp] [dt f,ints l]:=.cons (.refl _) (.cons (bQ 1 _ sp) .nil);refine aM Tryz.func113 rfl rfl v (z8 o j (λq=>absurd u q) λ_ b mb σ' d=>?_)
 have w:QD b 6 mb .u8 (jV f) σ':=by rw[d.eq];exact⟨aa.ao _ _ _,[],(aa.ak _ _ (Ne.symm d.ne)).trans (aa.ao _ _ _),λn a h=>by simp[cS]at h⟩
 refine rn ?_;simp;refine cf Tryz.func201 rfl (NA (BV yJ yK PD r d.ne) t w λk y z=>?_)
 refine rn ?_;simp[g];refine .done (h b mb k d.ne y ⟨d.hb,d.xI⟩ λc x i=>?_)
 have A:c≠b:=λe=>by subst e;rw[d.hb]at i;cases i
 have B:c≠mb:=λe=>by subst e;rw[d.xI]at i;cases i
 exact z c x (d.le c x i) A (.inl B)
theorem NC(j:m.solo=true){f:Fr}{x y:Int}(k:f.Fits)(o:check f=0)(d:0<=x/\x<f.aF.length)(p:0<=y/\y<f.aF.length)(a:aK f []≠[])(hlen:(aK f []).length<1152921504606846976)(h:KF (.val (.bp [int (kz (((aK f []).filter (yM x y)).length:Int) (aK f []).length),int 0])) σ):aB prog m 148 [dt f,int x,int y] σ KF:=by
 have q:=Fr.uo k o;refine fs [] 3 Tryz.func148 rfl rfl (by rfl) (by kernel_rfl) ?_;simp[Tryz.f148];refine cf Tryz.func180 rfl (HI (l:=[x,y]) (sp:=.exact) j k o (λn A=>by grind) (by simp) a λb mb r g s t i=>?_);refine rn ?_;simp;refine cf Tryz.func181 rfl (NB (BV yJ yK PD j g) q ⟨d.1,by omega⟩ ⟨p.1,by omega⟩ hlen s λu B v=>?_);refine rn ?_;simp;refine .less (λc x d=>?_) (.done h);have w:c≠b:=λe=>by simp_all
 have z:c≠mb:=λe=>by simp_all
 exact v c x (i c x d) w (.inl z)
theorem Li(l:m.solo=true){f:Fr}(j:f.Fits)(k:check f=0)(hlen:(aK f [0,0]).length<1000000000/\(aK f [0,1]).length<1000000000)(h:KF (.val (.bp [int (fX f),int 0])) σ):aB prog m 74 [dt f] σ KF:=by
 have o:=Fr.uo j k;have p:=tL k;refine fs [] 1 Tryz.func74 rfl rfl (by rfl) (by kernel_rfl) ?_
 simp[Tryz.f74];have r:Wl [AV.agg (B1 f),AV.lit (.slice none 0 0)] [dt f,ints []]:=.cons (.refl _) (.cons (cz 1) .nil);refine aM Tryz.func113 rfl rfl r (z8 j (by simp) (λq=>absurd p q) λ_ b mb i d=>?_)
 have s:QD b 6 mb .u8 (jV f) i:=by rw[d.eq];exact⟨aa.ao _ _ _,[],(aa.ak _ _ (Ne.symm d.ne)).trans (aa.ao _ _ _),λn a h=>by simp[cS]at h⟩
 refine rn ?_;simp;refine cf Tryz.func114 rfl (Lg l o hlen d.ne s λt y u=>?_)
 refine rn ?_;simp;refine .less (λc x g=>?_) (.done h)
 have v:c≠b:=λe=>by subst e;rw[d.hb]at g;cases g
 have w:c≠mb:=λe=>by subst e;rw[d.xI]at g;cases g
 exact u c x (d.le c x g) v (.inl w)
theorem PE{f:Fr}{l:List Int}(j:f.Fits)(k:check f=0)(c:Pw f l)(g:l.length<20)(h:KF (.val (.bp [bool (decide (nB f l=0)),int 0])) σ):aB prog m 108 [dt f,ints l] σ KF:=by
 refine fs [] 2 Tryz.func108 rfl rfl (by rfl) (by kernel_rfl) ?_;simp[Tryz.f108];refine cf Tryz.func143 rfl (GN j k c λb mb n o=>?_);refine rn ?_;simp;refine cf Tryz.func144 rfl (J2 (Fr.uo j k) ⟨c.mem,c.ne,c.len⟩ g ?_);refine rn ?_;simp;refine cK lay rfl Ot rfl (isNil:=decide (nB f l=0)) ?_ (.inl ⟨rfl,rfl⟩) ?_
 . by_cases i:nB f l=0
   . left
     refine⟨?_,by simp[i]⟩;simp[i];rfl
   . right
     obtain⟨d,a,e⟩:=Ce i
     simp_all
 refine rn ?_;simp;exact .less o.le (.done h)
end Go.Proofs.YtkcceaplmgdnfaaGreatDoor

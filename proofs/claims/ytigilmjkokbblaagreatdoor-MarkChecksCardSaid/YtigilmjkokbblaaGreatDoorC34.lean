/- Part 34 of the proof. -/
import Derived.Test.YtigilmjkokbblaaGreatDoorC33
set_option linter.all false
namespace Go.Proofs.YtigilmjkokbblaaGreatDoor
open Tryz (prog)
open Go Go.bd Go.Conc
open Go.Extern
set_option maxHeartbeats 1000000
set_option maxRecDepth 4000
variable{m:Mo}{σ:aa}{KF:dV->aa->Prop}
abbrev qY(t:Nat):Value:=.pointer (some ⟨1,t,none⟩)
abbrev ze(t:Nat):AV:=.lg 195 (.agg [.lit (qY t)])
abbrev oo:AV:=ze 126
abbrev QW(t c off w:Nat):AV:=.agg [.lit (qY t),.ref c off,.lit (.int .u64 w)]
structure VS(W PW:Nat):Prop where
 XI:∀r,bk prog (ReflectliteValue.mk PW ⟨r,0,none⟩ 0)=some (.agg #[qY PW,.pointer (some ⟨r,0,none⟩),.int .u64 150])
 XJ:∀r,bk prog (ReflectliteValue.mk W ⟨r,0,none⟩ 0)=some (.agg #[qY W,.pointer (some ⟨r,0,none⟩),.int .u64 153])
 XK:∀r o,bk prog (ReflectliteValue.mk W ⟨r,o,none⟩ ReflectliteValue.flagAddr)=some (.agg #[qY W,.pointer (some ⟨r,o,none⟩),.int .u64 409])
 XL:∀r,bk prog (ReflectliteValue.methodAny (ReflectliteValue.valueError  "reflectlite.Value.Type" 0) (λt _ _ _=>ReflectliteType.toType t) #[.agg #[qY PW,.pointer (some ⟨r,0,none⟩),.int .u64 150]])=some (.iface 195 (.agg #[qY PW]))
 Nh:∀r,bk prog (ReflectliteValue.parts (.agg #[qY PW,.pointer (some ⟨r,0,none⟩),.int .u64 150]))=some (some (PW,⟨r,0,none⟩,150))
 GD:∀r o,bk prog (ReflectliteValue.parts (.agg #[qY W,.pointer (some ⟨r,o,none⟩),.int .u64 409]))=some (some (W,⟨r,o,none⟩,409))
 PR:∀r,bk prog (ReflectliteValue.parts (.agg #[qY W,.pointer (some ⟨r,0,none⟩),.int .u64 153]))=some (some (W,⟨r,0,none⟩,153))
 PS:bk prog ((ReflectliteType.abiMethod λt=>do pure (.int .u8 (<-Rtype.kind t))) #[qY PW])=some (.int .u8 22)
 PT:bk prog ((ReflectliteType.abiMethod λt=>do pure (.int .u8 (<-Rtype.kind t))) #[qY W])=some (.int .u8 25)
 el:bk prog (ReflectliteType.method ReflectliteType.elem #[.agg #[qY PW]])=some (.iface 195 (.agg #[qY W]))
 elem:bk prog (Rtype.elem? PW)=some (some W)
 impl:bk prog (ReflectliteType.relation  "Implements" ReflectliteType.implements_ #[.agg #[qY W],.iface 195 (.agg #[qY 126])])=some (.bool true)
 Ug:∀v,bk prog (ReflectliteType.typeOf #[.iface W v])=some (.iface 195 (.agg #[qY W]))
 XN:bk prog (ReflectliteType.relation  "AssignableTo" ReflectliteType.assignableTo #[.agg #[qY W],.iface 195 (.agg #[qY W])])=some (.bool true)
 dir:bk prog (Rtype.directlyAssignable W W)=some true
theorem O7:VS 123 128 where
 XI r:=by kernel_rfl
 XJ r:=by kernel_rfl
 XK r o:=by kernel_rfl
 XL r:=by kernel_rfl
 Nh r:=by kernel_rfl
 GD r o:=by kernel_rfl
 PR r:=by kernel_rfl
 PS:=by kernel_rfl
 PT:=by kernel_rfl
 el:=by kernel_rfl
 elem:=by kernel_rfl
 impl:=by kernel_rfl
 Ug v:=by kernel_rfl
 XN:=by kernel_rfl
 dir:=by kernel_rfl
theorem vq{P:Program}{t f:Nat}{name:String}{a a':AV}(h:∀k v,V k v a->∃r,bk P (Go.method (P.types.size+Made.depth) t v name)=some (f,r)/\V k r a'):oB P t name f a a':=λk O v K g b c=>by obtain⟨r,d,e⟩:=h k v b;exact ed _ d (c r e)
theorem Ni(h:Value):bk prog (Go.method (prog.types.size+Made.depth) 195 (.agg #[h])  "Kind")=some (175,h):=by kernel_rfl
theorem Nj(h:Value):bk prog (Go.method (prog.types.size+Made.depth) 195 (.agg #[h])  "Elem")=some (192,.agg #[h]):=by kernel_rfl
theorem Nk(h:Value):bk prog (Go.method (prog.types.size+Made.depth) 195 (.agg #[h])  "Implements")=some (193,.agg #[h]):=by kernel_rfl
theorem O8(h:Value):bk prog (Go.method (prog.types.size+Made.depth) 195 (.agg #[h])  "AssignableTo")=some (190,.agg #[h]):=by kernel_rfl
theorem AF{t:Nat}:oB prog 195  "Kind" 175 (.agg [.lit (qY t)]) (.lit (qY t)):=vq λk v a=>by obtain⟨x,rfl,b⟩:=rS.1 a;exact⟨x,Ni x,b⟩
theorem uC{t f:Nat}{name:String}(h:∀h,bk prog (Go.method (prog.types.size+Made.depth) 195 (.agg #[h]) name)=some (f,.agg #[h])):oB prog 195 name f (.agg [.lit (qY t)]) (.agg [.lit (qY t)]):=vq λk v a=>by obtain⟨x,rfl,_⟩:=rS.1 a;exact⟨_,h x,a⟩
theorem Hr{k:ah}{v:Value}{t:Nat}(h:V k v (ze t)):v=.iface 195 (.agg #[qY t]):=by obtain⟨u,rfl,a⟩:=Hl.1 h;obtain⟨x,rfl,b⟩:=rS.1 a;rw[mn.1 b]
theorem xm(k:ah)(t:Nat):V k (.iface 195 (.agg #[qY t])) (ze t):=Hl.2 ⟨_,rfl,rS.2 ⟨_,rfl,.lit _⟩⟩
theorem QX{W j b c:Nat}(T:VS W j){n B:TI}(E:lay.tt W=some n)(F:lay.tt j=some B)(G:B.agg=false)(f:n.agg=true/\n.size=1){e y z:AV}(C:e.cells=[e]/\e.flat=true)(hb:σ b=some (.cells [y]))(H:σ c=some (.cells [.ref b 0]))(I:b≠c)
 (h:∀σ',(∀x o,x≠b->σ x=some o->σ' x=some o)->σ' b=some (.cells [e])->KF (.val (bool true)) σ'):
 aB prog m 109 [.lg W (.agg [e]),z,QW j c 0 150,ze W] σ KF:=by
 refine fs [] 4 Tryz.func109 rfl rfl (by rfl) (by kernel_rfl) ?_
 simp[Tryz.f109];refine ab.loop 1 (λk s=>k=0/\s=⟨((dD [AV.lg W (AV.agg [e]),z,QW j c 0 150,ze W]).upd 6 ((QW j c 0 150).cp 0)).upd 8 (AV.lit (Value.bool false)),σ,[],.no⟩) ⟨rfl,rfl⟩ ?_
 rintro L k _ M ⟨rfl,rfl⟩ N
 refine rn ?_;simp;refine cN.ext Tryz.func135 rfl rfl (by kernel_rfl) (e:=ReflectliteType.typeOf) (by kernel_rfl) (mj.pure (v:=.iface 195 (.agg #[qY W])) (a:=ze W) (λk D g=>?_) (λk=>xm k W) ?_)
 . obtain⟨v,p,r⟩:=g.one
   subst p;obtain⟨u,rfl,_⟩:=Hl.1 r;exact T.Ug u
 refine rn ?_;simp;refine ab.tp rfl rfl (cQ rfl) (by simp) rfl (uC O8) Tryz.func190 rfl rfl (by kernel_rfl) (e:=ReflectliteType.relation  "AssignableTo" ReflectliteType.assignableTo) (by kernel_rfl) (mj.pure (v:=.bool true) (a:=bool true) (λk D g=>?_) (λk=>.lit _) ?_)
 . match D,g with
   |[v,x],g=>obtain⟨u,rfl,J⟩:=rS.1 (g.2 0 v _ rfl rfl);rw[mn.1 J,Hr (g.2 1 x (ze W) rfl rfl)];exact T.XN
 refine rn ?_;simp;refine cN.ext Tryz.func136 rfl rfl (by kernel_rfl) (e:=ReflectliteValue.method (ReflectliteValue.valueError  "reflectlite.Value.Elem" 0) ReflectliteValue.elem) (by kernel_rfl) (LQ lay T.Nh rfl F G T.elem T.XK H ?_)
 refine rn ?_;simp;refine cN.ext Tryz.func106 rfl rfl (by kernel_rfl) (e:=λargs=>ReflectliteValue.unpack (args.getD 0 (.tuple #[]))) (by kernel_rfl) (vn (by simp[AV.cells,C.2]) T.XJ λd hd=>?_)
 have t:b≠d:=λq=>by rw[q,hd]at hb;cases hb
 refine rn ?_;simp;refine cN.ext Tryz.func137 rfl rfl (by kernel_rfl) (e:=ReflectliteValue.set) (by kernel_rfl) (OX lay (a:=.agg [e]) (l:=[e]) (i:=n) (σ':=(σ.set d (.cells [e])).set b (.cells [e])) T.GD T.PR rfl T.dir E (aa.ak _ _ _) (by unfold bW;rw[f.1,f.2];rfl) ?_ ?_)
 . simp[n8,aa.ag _ _ t,hb,AV.cells,f.2,C.2,aG]
 refine rn ?_;simp;refine .done (h _ (λx o K w=>?_) (aa.ak _ _ _))
 have A:x≠d:=λq=>by rw[q,hd]at w;cases w
 rw[aa.ag _ _ K,aa.ag _ _ A];exact w
theorem kindOf{t:Nat}{n:Int}(h:bk prog ((ReflectliteType.abiMethod λt=>do pure (.int .u8 (<-Rtype.kind t))) #[qY t])=some (.int .u8 n)){K:AV->aa->Prop}(c:K (.lit (.int .u8 n)) σ):
 mj prog (ReflectliteType.abiMethod λt=>do pure (.int .u8 (<-Rtype.kind t))) [.lit (qY t)] σ K:=mj.pure (v:=.int .u8 n) (λk e d=>by
 obtain⟨v,a,b⟩:=d.one;subst a;rw[mn.1 b];exact h) (λk=>.lit _) c
theorem QY{W n b:Nat}(T:VS W n){C N:TI}(S:lay.tt W=some C)(O:lay.tt n=some N)(P:N.agg=false)(D:C.agg=true/\C.size=1){e y:AV}(U:e.cells=[e]/\e.flat=true)(Q:σ 0=some (.stay [oo]))(hb:σ b=some (.cells [y]))
 (h:∀σ',(∀x o,x≠b->σ x=some o->σ' x=some o)->σ' b=some (.cells [e])->KF (.val (bool true)) σ'):
 aB prog m 84 [.lg W (.agg [e]),.lg n (.ref b 0)] σ KF:=by
 refine fs [] 2 Tryz.func84 rfl rfl (by rfl) (by kernel_rfl) ?_
 simp[Tryz.f84];refine kA lay rfl PM rfl (.inr ⟨⟨_,_,rfl⟩,rfl⟩) (.inl ⟨rfl,rfl⟩) ?_;refine rn ?_;simp;refine kA lay rfl VL rfl (.inr ⟨⟨_,_,rfl⟩,rfl⟩) (.inl ⟨rfl,rfl⟩) ?_;refine rn ?_;simp;refine cN.ext Tryz.func106 rfl rfl (by kernel_rfl) (e:=λargs=>ReflectliteValue.unpack (args.getD 0 (.tuple #[]))) (by kernel_rfl) (vn (by rfl) T.XI λc B=>?_)
 have z:b≠c:=λq=>by rw[q,B]at hb;cases hb
 have E:0≠c:=λq=>by rw[<-q,Q]at B;cases B
 obtain⟨i,g⟩:∃i,i=σ.set c (.cells [.ref b 0]):=⟨_,rfl⟩;have R:i 0=some (.stay [oo]):=by rw[g,aa.ag _ _ E];exact Q
 have gb:i b=some (.cells [y]):=by rw[g,aa.ag _ _ z];exact hb
 have gc:i c=some (.cells [.ref b 0]):=by rw[g,aa.ak]
 have A:∀x o,σ x=some o->i x=some o:=λx o l=>by
  have F:x≠c:=λq=>by rw[q,B]at l;cases l
  rw[g,aa.ag _ _ F];exact l
 rw[show AV.cells (.ref b 0)=[.ref b 0]from rfl,<-g]
 refine rn ?_;simp;refine bL.intro λd hd=>?_
 have G:b≠d:=λq=>by rw[q,hd]at gb;cases gb
 have H:c≠d:=λq=>by rw[q,hd]at gc;cases gc
 have I:0≠d:=λq=>by rw[<-q,R]at hd;cases hd
 simp;obtain⟨j,f⟩:∃j,j=i.set d (.cells [.lit (qY n),.ref c 0,.lit (.int .u64 150)]):=⟨_,rfl⟩;have V:j 0=some (.stay [oo]):=by rw[f,aa.ag _ _ I];exact R
 have kb:j b=some (.cells [y]):=by rw[f,aa.ag _ _ G];exact gb
 have kc:j c=some (.cells [.ref b 0]):=by rw[f,aa.ag _ _ H];exact gc
 have J:∀x o,σ x=some o->j x=some o:=λx o l=>by
  have K:x≠d:=λq=>by rw[q]at l;rw[A _ _ l]at hd;cases hd
  rw[f,aa.ag _ _ K];exact A _ _ l
 have kd:j d=some (.cells [.lit (qY n),.ref c 0,.lit (.int .u64 150)]):=by rw[f,aa.ak]
 rw[<-f];refine cN.ext Tryz.func107 rfl rfl (by kernel_rfl) (e:=ReflectliteValue.methodAny (ReflectliteValue.valueError  "reflectlite.Value.Type" 0) (λt _ _ _=>ReflectliteType.toType t)) (by kernel_rfl) (mj.pure (v:=.iface 195 (.agg #[qY n])) (a:=ze n) (λk L p=>?_) (λk=>xm k n) ?_)
 . obtain⟨v,r,s⟩:=p.one
   subst r;obtain⟨_,_,_,rfl,w,M,X⟩:=rT.1 s;rw[mn.1 w,Av.1 M,mn.1 X];exact T.XL c
 refine rn ?_;simp;refine ab.tp rfl rfl (cQ rfl) (by simp) rfl AF Tryz.func175 rfl rfl (by kernel_rfl) (e:=ReflectliteType.abiMethod λt=>do pure (.int .u8 (<-Rtype.kind t))) (by kernel_rfl) (kindOf T.PS ?_)
 refine rn ?_;simp[kd];refine cN.ext Tryz.func108 rfl rfl (by kernel_rfl) (e:=ReflectliteValue.method (ReflectliteValue.valueError  "reflectlite.Value.IsNil" 0) ReflectliteValue.isNil) (by kernel_rfl) (IE lay T.Nh rfl O P kc ?_)
 refine rn ?_;simp;refine ab.tp rfl rfl (cQ rfl) (by simp) rfl (uC Nj) Tryz.func192 rfl rfl (by kernel_rfl) (e:=ReflectliteType.method ReflectliteType.elem) (by kernel_rfl) (mj.pure (v:=.iface 195 (.agg #[qY W])) (a:=ze W) (λk L p=>?_) (λk=>xm k W) ?_)
 . obtain⟨v,r,s⟩:=p.one
   subst r;obtain⟨_,rfl,w⟩:=rS.1 s;rw[mn.1 w];exact T.el
 refine rn ?_;simp;refine ab.tp rfl rfl (cQ rfl) (by simp) rfl AF Tryz.func175 rfl rfl (by kernel_rfl) (e:=ReflectliteType.abiMethod λt=>do pure (.int .u8 (<-Rtype.kind t))) (by kernel_rfl) (kindOf T.PT ?_)
 refine rn ?_;simp[V];refine ab.tp rfl rfl ⟨_,_,rfl,rfl,by decide,rfl⟩ (by simp) rfl (uC Nk) Tryz.func193 rfl rfl (by kernel_rfl) (e:=ReflectliteType.relation  "Implements" ReflectliteType.implements_) (by kernel_rfl) (mj.pure (v:=.bool true) (a:=bool true) (λk L p=>?_) (λk=>.lit _) ?_)
 . match L,p with
   |[v,x],p=>obtain⟨u,rfl,w⟩:=rS.1 (p.2 0 v _ rfl rfl);rw[mn.1 w,Hr (p.2 1 x (ze 126) rfl rfl)];exact T.impl
 refine rn ?_;simp[kd];refine cf Tryz.func109 rfl (QX T S O P D U kb kc z λσ' w M=>?_)
 refine rn ?_;simp;exact .done (h σ' (λx o Y l=>w x o Y (J x o l)) M)
end Go.Proofs.YtigilmjkokbblaaGreatDoor
namespace Go.Proofs.YtigilmjkokbblaaGreatDoor
open Tryz (prog)
open Go.bd Go.Conc
set_option maxHeartbeats 1000000
set_option maxRecDepth 4000
variable{m:Mo}{σ:aa}{KF:dV->aa->Prop}
theorem JA{a:AV}{n:Int}(b:(a=.lit .nilIface/\n=0)\/(∃y,a=.lg 141 y/\n=1)\/(∃y,a=.lg 142 y/\n=2)\/(∃y,a=.lg 143 y/\n=3))(h:KF (.val (int n)) σ):aB prog m 50 [a] σ KF:=by
 rcases b with⟨rfl,rfl⟩|⟨y,rfl,rfl⟩|⟨y,rfl,rfl⟩|⟨y,rfl,rfl⟩
 all_goals
  refine fs [] 1 Tryz.func50 rfl rfl (by rfl) (by kernel_rfl) ?_;simp[Tryz.f50];exact .done h
theorem JB{f:Fr}{x y a b:Int}(l:f.Fits)(o:check f=0)(z:0<=x/\x<f.aA.length)(A:0<=y/\y<f.aA.length)(i:(x=a/\y=b)\/(x=b/\y=a))(r:a<=b)
 (h:KF (.val (.bG [int (kr f [a,b]),int 0])) σ):aB prog m 19 [aC f,int x,int y] σ KF:=by
 have s:=Fr.hQ l o
 have t:∀n∈[x,y],0<=n/\n<f.aA.length:=λn c=>by simp at c;rcases c with rfl|rfl<;>assumption
 have j:∀n∈[a,b],0<=n/\n<f.aA.length:=λn c=>by simp at c;rcases i with⟨rfl,rfl⟩|⟨rfl,rfl⟩<;>rcases c with rfl|rfl<;>assumption
 have u:=ry o t;have d:(if y<x then y else x)=a:=by split<;>omega
 have g:(if x<y then y else x)=b:=by split<;>omega
 refine fs [] 3 Tryz.func19 rfl rfl (by rfl) (by kernel_rfl) ?_
 simp[Tryz.f19];have v:Wl [AV.agg (bO f),.sl 1 [int x,int y] .exact] [aC f,ints [x,y]]:=.cons (.refl _) (.cons (ck 1 [int x,int y] .exact) .nil);refine aH Tryz.func49 rfl rfl v (gq l (by simp) (λq=>absurd u q) λ_ p mb w c=>?_)
 refine rn ?_;simp[d,g];have k:Wl [iu p mb f 0,.sl 1 [int a,int b] .exact] [iu p mb f 0,ints [a,b]]:=.cons (.refl _) (.cons (ck 1 [int a,int b] .exact) .nil);refine aH Tryz.func43 rfl rfl k (FV s ⟨j,by simp,by simp⟩ (by simp) ?_)
 refine rn ?_;simp;refine cf Tryz.func50 rfl (JA (n:=kr f [a,b]) ?_ ?_)
 . rcases Hp f [a,b]with e|e|e|e<;>rw[e]
   . exact .inl ⟨rfl,rfl⟩
   . exact .inr (.inl ⟨_,rfl,rfl⟩)
   . exact .inr (.inr (.inl ⟨_,rfl,rfl⟩))
   . exact .inr (.inr (.inr ⟨_,rfl,rfl⟩))
 refine rn ?_;simp;exact .less c.le (.done h)
theorem yt{f:Fr}{l:List Int}(y:σ 0=some (.stay [oo]))(k:f.Fits)(z:l.length<1152921504606846976)(j:dR f l≠0)(h:KF (.val (.bG [.lit (.pointer none),int (dR f l)])) σ):aB prog m 42 [aC f,ints l] σ KF:=by
 unfold dR at j h;have u:Wl [AV.agg (bO f),AV.lit (.slice none 0 0)] [aC f,ints []]:=.cons (.refl _) (.cons (cW 1) .nil)
 by_cases a:check f=0
 . rw[if_neg (by simp[a])]at j h
   have n:=kz a;refine fs QO 2 Tryz.func42 rfl rfl (by rfl) (by kernel_rfl) ?_
   simp[Tryz.f42];refine aH Tryz.func49 rfl rfl u (gq k (by simp) (λq=>absurd n q) λ_ b mb p v=>?_)
   refine rn ?_;simp;refine bL.intro λc d=>?_
   simp;refine cf Tryz.func85 rfl (Ho k z ?_);have e:T4 (lU f l)=.lg 123 (.agg [int (lU f l)]):=if_neg j;rw[e];refine rn ?_;simp;have w:p 0=some (.stay [oo]):=v.le _ _ y;have r:0≠c:=λq=>by rw[<-q,w]at d;cases d
   refine cf Tryz.func84 rfl (QY O7 TO TP rfl ⟨rfl,rfl⟩ ⟨rfl,rfl⟩ (by rw[aa.ag _ _ r];exact w) (aa.ak _ _ _) λA B C=>?_)
   refine rn ?_;simp[C];refine rn ?_;simp;refine .less (λx o D=>?_) (.done h)
   have g:=v.le _ _ D;have i:x≠c:=λq=>by rw[q,d]at g;cases g
   exact B x o i (by rw[aa.ag _ _ i];exact g)
 . rw[if_pos a]at j h
   have e:ba f []=check f:=by unfold ba;rw[if_pos a]
   refine fs QO 2 Tryz.func42 rfl rfl (by rfl) (by kernel_rfl) ?_
   simp[Tryz.f42];refine aH Tryz.func49 rfl rfl u (gq k (by simp) (λq=>?_) λq=>absurd (e ▸ q) a)
   rw[e];have s:(check f==0)=false:=by simpa using a
   have t:(check f !=0)=true:=by simpa using a
   refine rn ?_;simp[s,t,a];exact .done h
theorem yu{f:Fr}{l:List Int}(a:f.Fits)(h:dR f l=0):l.length<=6:=by obtain⟨b,_,_,c,d⟩:=lI h;have e:=Fr.hQ a b;rw[<-Gk c d];unfold pG;refine Nat.le_trans (List.length_filter_le _ _) ?_;rw[List.length_map,List.length_range];exact e.vw
theorem vH{f:Fr}{l:List Int}(c:σ 0=some (.stay [oo]))(b:f.Fits)(d:l.length<1152921504606846976)(h:KF (.val (.bG [bool (yN f l).1,int (yN f l).2])) σ):aB prog m 13 [aC f,ints l] σ KF:=by
 unfold yN at h;by_cases a:dR f l=0
 . rw[if_neg (by simp[a])]at h
   have k:=yu b a;obtain⟨e,g,_,_,_⟩:=lI a;exact Nd b e ⟨g,by omega⟩ (by omega) h
 . rw[if_pos a]at h
   have i:(dR f l==0)=false:=by simpa using a
   have j:(dR f l !=0)=true:=by simpa using a
   refine fs [] 2 Tryz.func13 rfl rfl (by rfl) (by kernel_rfl) ?_;simp[Tryz.f13];refine cf Tryz.func42 rfl (yt c b d a ?_);refine rn ?_;simp[i,j,a];exact .done h
theorem mM{f:Fr}{l:List Int}(d:σ 0=some (.stay [oo]))(c:f.Fits)(e:l.length<1152921504606846976)(h:KF (.val (.bG [ints (fR f l).1,int (fR f l).2])) σ):aB prog m 15 [aC f,ints l] σ KF:=by
 unfold fR at h;by_cases a:dR f l=0
 . rw[if_neg (by simp[a])]at h
   have n:=yu c a;obtain⟨g,i,_,_,_⟩:=lI a;exact yi c g ⟨i,by omega⟩ h
 . rw[if_pos a]at h
   have j:(dR f l==0)=false:=by simpa using a
   have k:(dR f l !=0)=true:=by simpa using a
   refine fs [] 2 Tryz.func15 rfl rfl (by rfl) (by kernel_rfl) ?_;simp[Tryz.f15];refine cf Tryz.func42 rfl (yt d c e a ?_);refine rn ?_;simp[j,k,a];exact .iI (tN (b:=.bC)) (.done h)
def j8(f:Fr)(x y:Int):Int × Int:=if ba f [x,y]≠0 then(0,ba f [x,y])else(kr f [min x y,max x y],0)
theorem Gr{f:Fr}{l:List Int}(h:ba f l=0):check f=0/\∀n∈l,0<=n/\n<f.aA.length:=by
 unfold ba at h;split at h
 . next q=>exact absurd h q
 next q=>
 split at h
 . next a=>
   refine⟨by simpa using q,λn b=>?_⟩;have:=jl.1 (List.all_eq_true.1 a n b);omega
 . cases h
theorem Bh(x y:Int):((x=min x y/\y=max x y)\/(x=max x y/\y=min x y))/\min x y<=max x y:=by omega
theorem oq{f:Fr}{x y:Int}(b:f.Fits)(h:KF (.val (.bG [int (j8 f x y).1,int (j8 f x y).2])) σ):aB prog m 19 [aC f,int x,int y] σ KF:=by
 unfold j8 at h;by_cases a:ba f [x,y]=0
 . rw[if_neg (by simp[a])]at h
   obtain⟨d,c⟩:=Gr a;exact JB b d (c x (by simp)) (c y (by simp)) (Bh x y).1 (Bh x y).2 h
 . rw[if_pos a]at h
   have e:(ba f [x,y]==0)=false:=by simpa using a
   have g:(ba f [x,y]!=0)=true:=by simpa using a
   have i:Wl [AV.agg (bO f),.sl 1 [int x,int y] .exact] [aC f,ints [x,y]]:=.cons (.refl _) (.cons (ck 1 [int x,int y] .exact) .nil);refine fs [] 3 Tryz.func19 rfl rfl (by rfl) (by kernel_rfl) ?_;simp[Tryz.f19];refine aH Tryz.func49 rfl rfl i (gq b (by simp) (λ_=>?_) λq=>absurd q a);refine rn ?_;simp[e,g,a];exact .done h
end Go.Proofs.YtigilmjkokbblaaGreatDoor

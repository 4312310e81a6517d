import Derived.Test.YtebcbkhnlnkolaaGreatDoorC16
set_option linter.all false
set_option maxHeartbeats 1000000
set_option maxRecDepth 4000
namespace Go.Proofs.YtebcbkhnlnkolaaGreatDoor
open Go.Proofs.Tryz (prog)
abbrev adN:=List Way
section
open Go.ck Go.Conc
variable{m:Mo}{σ:ab}{KF:adw}
theorem WN:(((prog.info? 260).bind λi=>i.methods.find? (·.name==  "palfrey/mark.breaks")).map λmt=>(mt.path,mt.func))=some (#[],some (241,false)):=by kernel_rfl
theorem WQ:(((prog.info? 261).bind λi=>i.methods.find? (·.name==  "palfrey/mark.breaks")).map λmt=>(mt.path,mt.func))=some (#[],some (242,false)):=by kernel_rfl
theorem WR:(((prog.info? 262).bind λi=>i.methods.find? (·.name==  "palfrey/mark.breaks")).map λmt=>(mt.path,mt.func))=some (#[],some (245,false)):=by kernel_rfl
theorem Tn{a}:oE prog 260  "palfrey/mark.breaks" 241 a a:=by obtain⟨mt,b,e⟩:=aaK.1 WN;obtain⟨info,c,d⟩:=acE.1 b;obtain⟨f,g⟩:=Prod.mk.inj e;exact sE lay Wn c d (by rw[f]) g rfl
theorem Tp{a}:oE prog 261  "palfrey/mark.breaks" 242 a a:=by obtain⟨mt,b,e⟩:=aaK.1 WQ;obtain⟨info,c,d⟩:=acE.1 b;obtain⟨f,g⟩:=Prod.mk.inj e;exact sE lay Wo c d (by rw[f]) g rfl
theorem Tq{a}:oE prog 262  "palfrey/mark.breaks" 245 a a:=by obtain⟨mt,b,e⟩:=aaK.1 WR;obtain⟨info,c,d⟩:=acE.1 b;obtain⟨f,g⟩:=Prod.mk.inj e;exact sE lay Wp c d (by rw[f]) g rfl
def aY(f:Fr)(l:adK):adK:=(eY (λa b=>decide (vg f a b<0)) l).reverse
def lq(f:Fr)(l:adK):Int:=if di f (aY f l)then 1 else if bV f (aY f l)then 2 else if cY f (aY f l)then 3 else 0
abbrev WT(n:Int):AV:=if n=1 then .mL 260 (.agg [])else if n=2 then .mL 261 (.agg [])else if n=3 then .mL 262 (.agg [])else .lit .nilIface
theorem PU.sort{f l}(h:PU f l):PU f (aY f l):=
 ⟨fun n a=>h.mem n ((vf _ _ _).1 (by simpa[aY]using a)),λe=>h.ne (by
   have:(aY f l).length=l.length:=by simp[aY,lT]
   grind),by simp[aY,lT,h.len]⟩
theorem Tr{b mb f l}(y:f.Good)(v:PU f l)(d:l.length<20)(h:KF (.val (WT (lq f l))) σ):aB prog m 126 [mH b mb f 0,ints l] σ KF:=by
 have t:=v.sort;refine fs [] Tryz.func126 rfl (by kernel_rfl) ?_;simp[Tryz.f126];refine bP.intro λc B=>?_
 simp;refine cf Tryz.func168 rfl (Q2 Nz v.mem d v.ne ⟨rfl,rfl⟩ ?_);obtain⟨S,z⟩:∃S,S=(eY (λa b=>decide (vg f a b<0)) l).reverse:=⟨_,rfl⟩;have r:aY f l=S:=z.symm;rw[r]at t;unfold lq at h;rw[r]at h;rw[<-z];apply rn;simp;refine aa.loop 3 (λk s=>∃env j,s=⟨env,j,[],.no⟩/\σ.Le j/\env 1=ints S/\env 2=.cp (mH b mb f 0) 0/\env 19=.sl 1 [.mL 260 (.agg []),.mL 261 (.agg []),.mL 262 (.agg [])] .exact/\env 20=ι 3/\env 21=ι k/\(1<=k->di f S=false)/\(2<=k->bV f S=false)/\(3<=k->cY f S=false)) ⟨_,_,rfl,ab.l9 (ab.le_refl _) B,by simp⟩ ?_;rintro E k _ F ⟨env,j,rfl,e,o,p,i,d,g,w,A,C⟩ x;obtain rfl|rfl|rfl|rfl:k=0\/k=1\/k=2\/k=3:=by omega
 . apply rn
   simp[o,p,i,d,g];refine aa.invoke rfl rfl rfl (by simp) rfl Tn Tryz.func241 rfl rfl ?_;refine GX t ?_;apply rn;simp;cases hb:di f S
   . simp[g]
     refine x _ (by omega) ⟨_,_,rfl,e,?_,?_,?_,?_,?_,λ_=>hb,λq=>(by omega),λq=>(by omega)⟩<;>simp[o,p,i,d]
   simp;simp[hb]at h;exact .less e (.done h)
 . have n:=w (by omega)
   apply rn;simp[o,p,i,d,g];refine aa.invoke rfl rfl rfl (by simp) rfl Tp Tryz.func242 rfl rfl ?_;refine GY y t ?_;apply rn;simp;cases hb:bV f S
   . simp[g]
     refine x _ (by omega) ⟨_,_,rfl,e,?_,?_,?_,?_,?_,λ_=>n,λ_=>hb,λq=>(by omega)⟩<;>simp[o,p,i,d]
   simp;simp[hb,n]at h;exact .less e (.done h)
 . have n:=w (by omega)
   have u:=A (by omega);apply rn;simp[o,p,i,d,g];refine aa.invoke rfl rfl rfl (by simp) rfl Tq Tryz.func245 rfl rfl ?_;refine GZ y t ?_;apply rn;simp;cases hb:cY f S
   . simp[g]
     refine x _ (by omega) ⟨_,_,rfl,e,?_,?_,?_,?_,?_,λ_=>n,λ_=>u,λ_=>hb⟩<;>simp[o,p,i,d]
   simp;simp[hb,n,u]at h;exact .less e (.done h)
 have n:=w (by omega);have u:=A (by omega);have D:=C (by omega);simp[n,u,D]at h;apply rn;simp[d,g];exact .less e (.done h)
end
section
open Go Go.ck
set_option maxRecDepth 100000
abbrev nn:DW:=⟨104,105,142,143,174,176,130,131,144,129,173,175,190,191,193,194,196,270,222,21⟩
theorem NB:∀(a:Fl) b o τ,aQ prog a [0,5] (LD prog nn b o τ) un=some (uQ prog nn b o τ):=by intro a b o τ;kernel_rfl
theorem NC:∀(a:Fl) b o τ,aQ prog a [0] (uQ prog nn b o τ) tt=some (RK prog nn b o τ):=by intro a b o τ;kernel_rfl
theorem ND:∀(a:Fl) b o τ,aQ prog a [0,2,3,4,5,12] (uQ prog nn b o τ) ff=some (Xs prog nn b o τ):=by intro a b o τ;kernel_rfl
theorem NF:∀(a:Fl) b o τ,aQ prog a [8] (RK prog nn b o τ) un=some (Us prog nn b o τ):=by intro a b o τ;kernel_rfl
theorem NG:∀(a:Fl) b o τ,aQ prog a [9] (Us prog nn b o τ) (pt b o)=some (RL prog nn b o τ):=by intro a b o τ;kernel_rfl
theorem NH:∀(a:Fl) b o τ,aQ prog a [] (RL prog nn b o τ) un=some (BK nn τ):=by intro a b o τ;kernel_rfl
theorem Ka:∀(a:Fl) b o τ L K S aw sv it,qo prog a [0,2,3,4,5,6] (SN prog nn b o τ aw sv it) (.word L K S 0)=some (HD prog nn b o τ L K S aw sv it):=by intro a b o τ L K S aw sv it;kernel_rfl
theorem Kb:∀(a:Fl) b o τ L K S aw sv it,qo prog a [0,2,3,4,5,6] (H2 prog nn b o τ aw sv it) (.word L K S 0)=some (HD prog nn b o τ L K S aw sv it):=by intro a b o τ L K S aw sv it;kernel_rfl
theorem Kc:∀(a:Fl) b o τ L K S aw sv it,qo prog a [0,2,3,4,5,6] (SO prog nn b o τ aw sv it) (.word L K S 0)=some (HD prog nn b o τ L K S aw sv it):=by intro a b o τ L K S aw sv it;kernel_rfl
theorem NI:∀(a:Fl) b o τ K aw sv it,Vp prog a [0,2,3,4,5,6,17,18] (HD prog nn b o τ true K false aw sv it)=SQ prog nn b o τ K aw sv it:=by intro a b o τ K aw sv it;cases K<;>cases aw<;>cases sv<;>kernel_rfl
theorem NJ:∀(a:Fl) b o τ L K S aw sv it,(L && !S)=false->(aw && !K)=false->Vp prog a [0,2,3,4,5,6,77,78,79] (HD prog nn b o τ L K S aw sv it)=DY prog nn b o τ L K S aw sv it:=by intro a b o τ L K S aw sv it c d;cases L<;>cases K<;>cases S<;>cases aw<;>cases sv<;>first|exact absurd c (by decide)|exact absurd d (by decide)|kernel_rfl
theorem Kd:∀(a:Fl) b o τ it,aQ prog {a with n0:=false} [0,2,3,4,5,33,36,37,39] (SQ prog nn b o τ false false false it) tt=some (SW prog nn b o τ it):=by intro a b o τ it;kernel_rfl
theorem G1:∀(a:Fl) b o τ n0 K aw sv it,(!aw && !K && !n0)=false->aQ prog {a with n0:=n0} [0,2,3,4,5] (SQ prog nn b o τ K aw sv it) tt=some (DS prog nn b o τ aw sv it):=by intro a b o τ n0 K aw sv it h;cases n0<;>cases K<;>cases aw<;>cases sv<;>first|exact absurd h (by decide)|kernel_rfl
theorem Ke:∀(a:Fl) b o τ K aw sv it,(aw && !K)=false->aQ prog a [0,2,3,4,5,6,77,78,79] (SQ prog nn b o τ K aw sv it) ff=some (DY prog nn b o τ true K false aw sv it):=by intro a b o τ K aw sv it h;cases K<;>cases aw<;>cases sv<;>first|exact absurd h (by decide)|kernel_rfl
theorem Kf:∀(a:Fl) b o τ r it,aQ prog a [0,2,3,4,5] (SW prog nn b o τ it) (bl r)=some (DS prog nn b o τ r false it):=by intro a b o τ r it;cases r<;>kernel_rfl
theorem G2:∀(a:Fl) b o τ aw sv,aQ prog a [0,2,3,4,5,47] (DS prog nn b o τ aw sv 0) un=some (H2 prog nn b o τ aw sv 1):=by intro a b o τ aw sv;kernel_rfl
theorem G3:∀(a:Fl) b o τ aw sv,aQ prog a [0,2,3,4,5,47] (DS prog nn b o τ aw sv 1) un=some (H2 prog nn b o τ aw sv 2):=by intro a b o τ aw sv;kernel_rfl
theorem G4:∀(a:Fl) b o τ aw sv,aQ prog a [0,2,3,4,5,47] (DS prog nn b o τ aw sv 2) un=some (H2 prog nn b o τ aw sv 3):=by intro a b o τ aw sv;kernel_rfl
theorem G5:∀(a:Fl) b o τ aw sv,aQ prog a [0,2,3,4,5,47] (DS prog nn b o τ aw sv 3) un=some (H2 prog nn b o τ aw sv 4):=by intro a b o τ aw sv;kernel_rfl
theorem Kg:∀(a:Fl) b o τ K aw sv it,aQ prog a [0] (DY prog nn b o τ false K false aw sv it) tt=some (PN prog nn b o τ):=by intro a b o τ K aw sv it;cases K<;>kernel_rfl
theorem G6:∀(a:Fl) b o τ L K S aw sv it,(L||S)=true->aQ prog {a with wz:=true} [0,3] (DY prog nn b o τ L K S aw sv it) tt=some (T1 prog nn b o τ sv):=by intro a b o τ L K S aw sv it h;cases L<;>cases K<;>cases S<;>first|exact absurd h (by decide)|kernel_rfl
theorem G8:∀(a:Fl) b o τ L K S aw sv it,(L||S)=true->aQ prog {a with wz:=false} [0,2,3,91] (DY prog nn b o τ L K S aw sv it) tt=some (PK prog nn b o τ sv):=by intro a b o τ L K S aw sv it h;cases L<;>cases K<;>cases S<;>first|exact absurd h (by decide)|kernel_rfl
theorem Kh:∀(a:Fl) b o τ L K S aw sv it,aQ prog a [0,2,3,4,5,133] (DY prog nn b o τ L K S aw sv it) ff=some (SO prog nn b o τ aw sv it):=by intro a b o τ L K S aw sv it;kernel_rfl
theorem Ki:∀(a:Fl) b o τ sv,aQ prog a [0,2,3,91] (T1 prog nn b o τ sv) .Jm=some (PK prog nn b o τ sv):=by intro a b o τ sv;kernel_rfl
theorem Ha:∀(a:Fl) b o τ,aQ prog a [0,2,3,103] (PK prog nn b o τ true) un=some (UP prog nn b o τ true):=by intro a b o τ;kernel_rfl
theorem Hb:∀(a:Fl) b o τ,aQ prog a [0,2,95] (PK prog nn b o τ false) un=some (TQ prog nn b o τ):=by intro a b o τ;kernel_rfl
theorem Kj:∀(a:Fl) b o τ x,aQ prog {a with tb:=x} [0,2,3,103] (TQ prog nn b o τ) .now=some (UP prog nn b o τ x):=by intro a b o τ x;cases x<;>kernel_rfl
theorem Kk:∀(a:Fl) b o τ sv n1,aQ prog {a with n0:=false,n1:=n1} [0,128,129] (UP prog nn b o τ sv) (.word false false true 0)=some (AD prog nn b o τ (if !sv||n1 then -11 else -7)):=by intro a b o τ sv n1;cases sv<;>cases n1<;>kernel_rfl
theorem Kl:∀(a:Fl) b o τ L K sv,qo prog a [0,2,3,4,5,6] (UP prog nn b o τ sv) (.word L K false 0)=some (HD prog nn b o τ L K false true sv 0):=by intro a b o τ L K sv;cases L<;>cases K<;>kernel_rfl
theorem Km:∀(a:Fl) b o τ d,aQ prog a [0] (AD prog nn b o τ d) .cJ=some (PN prog nn b o τ):=by intro a b o τ d;kernel_rfl
theorem Kn:∀(a:Fl) b o τ,aQ prog a [136] (PN prog nn b o τ) un=some (Ut prog nn b o τ):=by intro a b o τ;kernel_rfl
theorem Ko:∀(a:Fl) b o τ,aQ prog a [137] (Ut prog nn b o τ) (pt b o)=some (RO prog nn b o τ):=by intro a b o τ;kernel_rfl
theorem Kr:∀(a:Fl) b o τ,aQ prog a [] (RO prog nn b o τ) un=some (BK nn τ):=by intro a b o τ;kernel_rfl
theorem NK:∀(a:Fl) b o τ,aQ prog a [0,7] (U0 prog nn b o τ) .cJ=some (Uu prog nn b o τ):=by intro a b o τ;kernel_rfl
theorem NL:∀(a:Fl) b o τ,aQ prog a [0,8] (Uu prog nn b o τ) (pt b o)=some (UR prog nn b o τ):=by intro a b o τ;kernel_rfl
theorem NM:∀(a:Fl) b o τ,aQ prog a [0] (UR prog nn b o τ) un=some (UD prog nn b o τ):=by intro a b o τ;kernel_rfl
theorem NN:∀(a:Fl) b o τ,aQ prog a [0,13] (UD prog nn b o τ) un=some (sx prog nn b o τ):=by intro a b o τ;kernel_rfl
theorem NO:∀(a:Fl) b o τ n0 K,(n0||K)=true->aQ prog {a with n0:=n0} [] (sx prog nn b o τ) (.word false K false 0)=some (UE prog nn b o τ):=by intro a b o τ n0 K h;cases n0<;>cases K<;>first|exact absurd h (by decide)|kernel_rfl
theorem Ks:∀(a:Fl) b o τ n0 K,aQ prog {a with n0:=n0} [41] (sx prog nn b o τ) (.word false K true 0)=some (G9 prog nn b o τ):=by intro a b o τ n0 K;cases n0<;>cases K<;>kernel_rfl
theorem Kt:∀(a:Fl) b o τ,aQ prog {a with n0:=false} [0,27,28,29] (sx prog nn b o τ) (.word false false false 0)=some (UC prog nn b o τ):=by intro a b o τ;kernel_rfl
theorem Ku:∀(a:Fl) b o τ,aQ prog a [33] (UC prog nn b o τ) tt=some (G7 prog nn b o τ):=by intro a b o τ;kernel_rfl
theorem Kv:∀(a:Fl) b o τ,aQ prog a [0,37] (UC prog nn b o τ) ff=some (PO prog nn b o τ):=by intro a b o τ;kernel_rfl
theorem NP:∀(a:Fl) b o τ n0 L K S,(n0||L||K||S)=true->aQ prog {a with n0:=n0} [] (PO prog nn b o τ) (.word L K S 0)=some (UE prog nn b o τ):=by intro a b o τ n0 L K S h;cases n0<;>cases L<;>cases K<;>cases S<;>first|exact absurd h (by decide)|kernel_rfl
theorem Kw:∀(a:Fl) b o τ,aQ prog {a with n0:=false} [0,27,28,29] (PO prog nn b o τ) (.word false false false 0)=some (UC prog nn b o τ):=by intro a b o τ;kernel_rfl
theorem NQ:∀(a:Fl) b o τ,aQ prog a [] (G7 prog nn b o τ) un=some (UE prog nn b o τ):=by intro a b o τ;kernel_rfl
theorem NR:∀(a:Fl) b o τ,aQ prog a [] (G9 prog nn b o τ) un=some (UE prog nn b o τ):=by intro a b o τ;kernel_rfl
theorem Kx:∀(a:Fl) b o τ,aQ prog a [] (UE prog nn b o τ) un=some (Vy nn τ):=by intro a b o τ;kernel_rfl
theorem NS:∀b o τ,bh (LD prog nn b o τ).1=some (nn.jR,[])/\(LD prog nn b o τ).1.kind=.normal:=by intro b o τ;exact⟨by kernel_rfl,by kernel_rfl⟩
theorem NT:∀b o τ,bh (uQ prog nn b o τ).1=some (nn.kU,[pt b o,i32 0,i32 1]):=by intro b o τ;kernel_rfl
theorem NU:∀b o τ,bh (RK prog nn b o τ).1=some (nn.en,[]):=by intro b o τ;kernel_rfl
theorem NV:∀b o τ,kY (Us prog nn b o τ).1=some (nn.tM,nn.tU,pt b o):=by intro b o τ;kernel_rfl
theorem NW:∀b o τ,bh (RL prog nn b o τ).1=some (nn.acq,[pt b o]):=by intro b o τ;kernel_rfl
theorem Ky:∀b o τ aw sv it,rB (SN prog nn b o τ aw sv it).1=some (nn.tI,pt b o):=by intro b o τ aw sv it;kernel_rfl
theorem Kz:∀b o τ aw sv it,rB (H2 prog nn b o τ aw sv it).1=some (nn.tI,pt b o):=by intro b o τ aw sv it;kernel_rfl
theorem KA:∀b o τ aw sv it,rB (SO prog nn b o τ aw sv it).1=some (nn.tI,pt b o):=by intro b o τ aw sv it;kernel_rfl
theorem NX:∀b o τ K aw sv it,bh (SQ prog nn b o τ K aw sv it).1=some (nn.Jo,[i64 it]):=by intro b o τ K aw sv it;kernel_rfl
theorem NY:∀b o τ it,bh (SW prog nn b o τ it).1=some (nn.kU,[pt b o,.word true false false 0,.word true true false 0]):=by intro b o τ it;kernel_rfl
theorem NZ:∀b o τ aw sv it,bh (DS prog nn b o τ aw sv it).1=some (nn.uP,[]):=by intro b o τ aw sv it;kernel_rfl
theorem KB:∀b o τ L K S aw sv it,bh (DY prog nn b o τ L K S aw sv it).1=some (nn.kU,[pt b o,.word L K S 0,Qi L K S aw sv]):=by intro b o τ L K S aw sv it;kernel_rfl
theorem KC:∀b o τ sv,bh (T1 prog nn b o τ sv).1=some (nn.nano,[]):=by intro b o τ sv;kernel_rfl
theorem KG:∀b o τ sv,bh (PK prog nn b o τ sv).1=some (nn.Gb,[pt b (o+1),.cJ,i64 2]):=by intro b o τ sv;kernel_rfl
theorem KH:∀b o τ,bh (TQ prog nn b o τ).1=some (nn.nano,[]):=by intro b o τ;kernel_rfl
theorem KI:∀b o τ sv,rB (UP prog nn b o τ sv).1=some (nn.tI,pt b o):=by intro b o τ sv;kernel_rfl
theorem KJ:∀b o τ d,bh (AD prog nn b o τ d).1=some (nn.add,[pt b o,i32 d]):=by intro b o τ d;kernel_rfl
theorem KL:∀b o τ,bh (PN prog nn b o τ).1=some (nn.en,[]):=by intro b o τ;kernel_rfl
theorem KM:∀b o τ,kY (Ut prog nn b o τ).1=some (nn.tM,nn.tU,pt b o):=by intro b o τ;kernel_rfl
theorem KN:∀b o τ,bh (RO prog nn b o τ).1=some (nn.acq,[pt b o]):=by intro b o τ;kernel_rfl
theorem KO:∀b o τ,rB (U0 prog nn b o τ).1=some (nn.tI,pt b o)/\(U0 prog nn b o τ).1.kind=.normal/\(U0 prog nn b o τ).1.fn=nn.wX:=by intro b o τ;exact⟨by kernel_rfl,by kernel_rfl,by kernel_rfl⟩
theorem KP:∀b o τ,kY (Uu prog nn b o τ).1=some (nn.tM,nn.tU,pt b o):=by intro b o τ;kernel_rfl
theorem KQ:∀b o τ,bh (UR prog nn b o τ).1=some (nn.rel,[pt b o]):=by intro b o τ;kernel_rfl
theorem KR:∀b o τ,bh (UD prog nn b o τ).1=some (nn.jR,[]):=by intro b o τ;kernel_rfl
theorem KS:∀b o τ,bh (sx prog nn b o τ).1=some (nn.add,[pt b o,i32 (-1)]):=by intro b o τ;kernel_rfl
theorem KT:∀b o τ,bh (UC prog nn b o τ).1=some (nn.kU,[pt b o,wf,.word false true false (-1)]):=by intro b o τ;kernel_rfl
theorem KU:∀b o τ,bh (G7 prog nn b o τ).1=some (nn.oO,[pt b (o+1),ff,i64 2]):=by intro b o τ;kernel_rfl
theorem KV:∀b o τ,bh (G9 prog nn b o τ).1=some (nn.oO,[pt b (o+1),tt,i64 2]):=by intro b o τ;kernel_rfl
theorem KW:∀b o τ,rB (PO prog nn b o τ).1=some (nn.tI,pt b o):=by intro b o τ;kernel_rfl
theorem KX:∀b o τ,bh (UE prog nn b o τ).1=some (nn.en,[]):=by intro b o τ;kernel_rfl
theorem N1:∀b o τ,(Vv prog nn b o τ).all (·.env.all plain)=true/\(LD prog nn b o τ).1.env.all plain=true/\(LD prog nn b o τ).2=Vv prog nn b o τ:=by intro b o τ;exact⟨by kernel_rfl,by kernel_rfl,by kernel_rfl⟩
theorem N2:∀b o τ,(Xr prog nn b o τ).all (·.env.all plain)=true:=by intro b o τ;kernel_rfl
theorem N3:∀b o τ,(Vx prog nn b o τ).all (·.env.all plain)=true/\(U0 prog nn b o τ).1.env.all plain=true/\(U0 prog nn b o τ).2=Vx prog nn b o τ:=by intro b o τ;exact⟨by kernel_rfl,by kernel_rfl,by kernel_rfl⟩
theorem N4:∀b o τ,(XP prog nn b o τ).all (·.env.all plain)=true:=by intro b o τ;kernel_rfl
theorem Br:ib prog nn where
 e1:=NB
 e2:=NC
 e3:=ND
 e4:=NF
 e5:=NG
 e6:=NH
 YW:=Ka
 SP:=Kb
 YX:=Kc
 e8:=NI
 e9:=NJ
 cN:=Kd
 Vz:=G1
 dw:=Ke
 fI:=Kf
 Gd:=G2
 Ge:=G3
 VA:=G4
 VB:=G5
 LA:=Kg
 VC:=G6
 VD:=G8
 Cf:=Kh
 yk:=Ki
 VE:=Ha
 VF:=Hb
 sz:=Kj
 Qj:=Kk
 Ae:=Kl
 wY:=Km
 wZ:=Kn
 LB:=Ko
 xa:=Kr
 u1:=NK
 u2:=NL
 u3:=NM
 u4:=NN
 u5:=NO
 YY:=Ks
 YZ:=Kt
 Y0:=Ku
 Y1:=Kv
 u7:=NP
 Y2:=Kw
 u8:=NQ
 u9:=NR
 Y3:=Kx
 o1:=NS
 o2:=NT
 o3:=NU
 o4:=NV
 o5:=NW
 Y4:=Ky
 Y5:=Kz
 Y6:=KA
 o7:=NX
 o8:=NY
 o9:=NZ
 XQ:=KB
 Y7:=KC
 XR:=KG
 Y8:=KH
 Y9:=KI
 Y':=KJ
 Za:=KL
 Zb:=KM
 Zc:=KN
 XS:=KO
 Zd:=KP
 Ze:=KQ
 Zf:=KR
 XT:=KS
 XU:=KT
 XV:=KU
 XW:=KV
 Zg:=KW
 Zh:=KX
 p1:=N1
 p2:=N2
 p3:=N3
 p4:=N4
theorem Bs:ig prog nn where
 jR:=⟨_,rfl,rfl,rfl,rfl,rfl⟩
 en:=⟨_,rfl,rfl,rfl,rfl,rfl⟩
 acq:=⟨_,rfl,rfl,rfl,rfl,rfl⟩
 rel:=⟨_,rfl,rfl,rfl,rfl,rfl⟩
 kU:=⟨_,rfl,rfl,rfl,rfl,rfl⟩
 add:=⟨_,rfl,rfl,rfl,rfl,rfl⟩
 Jo:=⟨_,rfl,rfl,rfl,rfl,rfl⟩
 uP:=⟨_,rfl,rfl,rfl,rfl,rfl⟩
 nano:=⟨_,rfl,rfl,rfl,rfl,rfl⟩
 Mp:=⟨_,rfl,rfl⟩
 Gb:=⟨_,rfl,rfl,rfl,rfl,rfl⟩
 oO:=⟨_,rfl,rfl,rfl,rfl,rfl⟩
 VG:=by kernel_rfl
 Zi:=⟨_,rfl,rfl,rfl⟩
 nS:=⟨_,rfl,rfl⟩
 nU:=⟨_,rfl,rfl⟩
 nV:=⟨_,rfl,rfl⟩
end
section
open Go.ck Go.Conc
variable{m:Mo}{σ:ab}{KF:adw}
def je(f:Fr)(x:Int):Bool:=decide (lq f (aD x)=0)
def lC(f:Fr)(l:adr):Prop:=∀n a,HW l n=some a->a=ψ (je f n)
theorem WU:L4 prog 244 248 4 5 .u8:=.of (by kernel_rfl) (by kernel_rfl) (by kernel_rfl) (by kernel_rfl)
theorem Q4  f   l :lq f l=0\/lq f l=1\/lq f l=2\/lq f l=3:=by unfold lq;omega
theorem N5{f l}(h:lq f l≠0):∃d a,WT (lq f l)=.mL d a:=by
 rcases Q4 f l with e|e|e|e
 . omega
 all_goals rw[e];exact⟨_,_,rfl⟩
theorem KY{f l x n a}(b:lC f l)(h:HW (l++[(x,ψ (je f x))]) n=some a):a=ψ (je f n):=by
 unfold HW dC at h;rw[List.find?_append]at h;cases e:l.find? (λp=>n==p.1)with
 |some p=>rw[e]at h;simp only[Option.some_or,abx,kn]at h;subst h;exact b n p.2 (by unfold HW dC;rw[e];rfl)
 |none=>grind
theorem Ts{b mb f x Un Ld}(j:Nl prog m nn b 6 mb .u8 (lC f) Un Ld)(E:f.Good)(F:PU f (aD x))(p:(aD x).length<20)(G:Un σ)(h:∀σ',Un σ'->pJ b mb σ σ'->KF (.val (ψ (je f x))) σ'):aB prog m 159 [mH b mb f 0,yY x] σ KF:=by
 refine fs Wx Tryz.func159 rfl (by kernel_rfl) ?_;simp[Tryz.f159];refine cf Tryz.func104 rfl (j.lock (rf _ _ _ _) G λH l o q r A=>?_);apply rn;simp;refine aa.defer rfl rfl rfl rfl (by simp) rfl ?_;apply rn;simp;refine yc lay (WU.key lay Zu rfl) rfl tt4 rfl rfl (j.map o) ?_;apply pg;simp
 have i:∀(env:Env) (g:ab) s,env 4=ψ (je f x)->Ld g s->lC f s->(∀c,c≠b->c≠mb->g c=σ c)->rJ prog m (.func 105) [] [AV.kp b [jb f.aA,rows f.roads,ι f.aK,ι f.dE,ι f.cP,ι f.aT,.lit (.int .i32 0),.lit (.int .u32 0),.map mb] [6,7] 6] .ret g (λt σ'=>Ly lay m [ResultVar.tmp 4] env (nP KF) [] t σ'):=λenv g s I u v J=>by
  refine rJ.func Tryz.func105 rfl rfl (j.unlock (rf _ _ _ _) u v λw z K=>?_);refine⟨[env 4],rfl,.done ?_⟩;rw[show oneOf [env 4]=env 4 from rfl,I];refine h w z λc y O L B=>?_
  grind
 cases k:dC l x with
 |some a=>have M:=q x a k;subst M;simp;apply rn;simp;exact i _ _ _ (by simp) o q r
 | none=>
   simp;apply rn;simp;refine cf Tryz.func186 rfl (Ny ?_);apply rn;simp;refine cf Tryz.func126 rfl (Tr E F p ?_);apply rn;simp;have C:decide (lq f (aD x)=0)=je f x:=rfl;refine iy lay rfl Wm rfl (isNil:=je f x) ?_ (.inl ⟨rfl,rfl⟩) ?_
   . by_cases D:lq f (aD x)=0
     . left
       refine⟨?_,by simp_all⟩;simp[D];rfl
     . right
       obtain⟨d,a,e⟩:=N5 D
       simp_all
   apply rn;simp;refine rN (WU.key lay Zu rfl) rfl rfl rfl rfl (j.map o) k ?_;apply pg;simp;apply rn;simp;refine i _ _ _ (by simp) (j.put o) (λn a N=>?_) (λc L B=>by rw[ab.ah _ _ B];simp_all);exact KY q (by simpa using N)
def fJ(f:Fr)(begun:adK):Nat->adK->Int->adK->adq
 |0,cM,_,_=>[cM]
 | fuel+1,cM,many,a=>(List.range (min (many+1) f.aT).toNat).flatMap λk:Nat=>
    if cM.length<begun.length/\begun.getD cM.length 0≠(k:Int)then[]
    else if je f (bN (a.getD k 0) cM.length)=true then fJ f begun fuel (cM++[(k:Int)]) (max many ((k:Int)+1)) (a.set k (bN (a.getD k 0) cM.length))else[]
def aH(f:Fr)(begun:adK):adq:=fJ f begun f.aA.length [] 0 [0,0,0,0,0,0]
def Mv(b mb:Nat)(F a:adG)(σ σ':ab):Prop:=∀c x,σ c=some x -> ¬F c->c≠b->(c≠mb\/x.plain=true)->σ' c=some x/\¬a c
theorem Mv.refl  b mb   F   σ :Mv b mb F F σ σ:=λ_ _ h a _ _=>⟨h,a⟩
theorem Mv.trans{b mb F g d σ σ' a}(h:Mv b mb F g σ σ')(k:Mv b mb g d σ' a):Mv b mb F d σ a:=λc x i j e f=>k c x (h c x i j e f).1 (h c x i j e f).2 e f
structure UJ  m   y  (W:adq) (I:Nat->adG->adO) (E:adG->adO):Prop where
 step:∀  k   F   σ   KF   hk ,I k F σ->(∀F' σ',HU F F' σ σ'->I (k+1) F' σ'->KF (.val (ψ true)) σ')->(∀F' σ',HU F F' σ σ'->E F' σ'->KF (.val (ψ false)) σ')->cq prog m y [ints W[k]] σ KF
 frame:∀  k   F   σ σ' ,(∀c,F c->σ' c=σ c)->I k F σ->I k F σ'
 Tt:∀  F   σ σ' ,(∀c,F c->σ' c=σ c)->E F σ->E F σ'
 PS:∀  k   F   σ   c ,I k F σ->F c->∃x,σ c=some x/\x.plain=true
theorem E4{b mb F a σ σ'}(h:HU F a σ σ'):Mv b mb F a σ σ':=λc x d e _ _=>h c x e d
theorem qC{b mb GI Un Ld}(a:Nl prog m nn b 6 mb .u8 GI Un Ld){d y}(f:Un σ)(hd:∀x,σ d=some x->x.plain=true):Un (σ.set d y):=a.un (λc _ ⟨x,g,h⟩=>ab.ah _ _ (λe=>by simp_all)) f
theorem yZ{b mb GI Un Ld}(e:Nl prog m nn b 6 mb .u8 GI Un Ld){F f σ'}(g:Un σ)(h:HU F f σ σ')(hd:∀c,F c->∃x,σ c=some x/\x.plain=true):Un σ':=
 e.un (λc _ ⟨x,a,i⟩=>by
  have d:¬F c:=λd=>by grind
  rw[(h c x d a).1,a]) g
abbrev y7(a y:AV)(begun:adK)(cp:Nat):AV:=.fn (.func 160) [] [.cp a 0,.cp y 0,.cp (ints begun) 0,.ref cp 0]
abbrev bp(a:AV)(c4 cg:Nat):AV:=.fn (.func 156) [] [.ref c4 0,.cp a 0,.ref cg 0]
structure WS  b mb   f   y   begun   c4 cg cp  (hs:adK) (F:adG) (σ:ab):Prop where
 arr:σ c4=some (.cells (hs.map u8))
 WV:σ cg=some (.cells [y7 (mH b mb f 0) y begun cp])
 pt:σ cp=some (.cells [bp (mH b mb f 0) c4 cg])
 out:¬F c4/\¬F cg/\¬F cp
 ne:c4≠cg/\c4≠cp
theorem WS.mv{b mb f y begun c4 cg cp d F g σ σ'}(h:WS b mb f y begun c4 cg cp d F σ)(hb:∃x,σ b=some x/\x.plain=false)(a:Mv b mb F g σ σ'):WS b mb f y begun c4 cg cp d g σ':=by
 obtain⟨x,j,k⟩:=hb;have ne:∀c l,σ c=some (.cells l)->c≠b:=λc l i e=>by subst e;rw[j]at i;cases i;cases k
 obtain⟨m,n⟩:=a c4 _ h.arr h.out.1 (ne _ _ h.arr) (.inr rfl);obtain⟨o,p⟩:=a cg _ h.WV h.out.2.1 (ne _ _ h.WV) (.inr rfl);obtain⟨q,r⟩:=a cp _ h.pt h.out.2.2 (ne _ _ h.pt) (.inr rfl);exact⟨m,o,q,⟨n,p,r⟩,h.ne⟩
structure Hs(f:Fr)(n:Nat)(hs:adK):Prop where
 nK:hs.length=6
 bits:∀x∈hs,∀e∈aD x,e<n
 small:∀x∈hs,0<=x/\x<64
section
variable{b mb:Nat}{f:Fr}{begun:adK}{y:AV}{W:adq}{I:Nat->adG->adO}{E:adG->adO}{Un:adO}{Ld:ab->adr->Prop}{c4 cg cp:Nat}
def Sd(b mb:Nat)(Un:adO)(I:Nat->adG->adO)(E:adG->adO)(a n:Nat)(F:adG)(σ:ab)(KF:adw):Prop:=(∀d c,Mv b mb F d σ c->Un c->I (a+n) d c->KF (.val (ψ true)) c)/\(∀d c,Mv b mb F d σ c->Un c->E d c->KF (.val (ψ false)) c)
def N6(m:Mo)(b mb:Nat)(f:Fr)(begun:adK)(y:AV)(W:adq)(I:Nat->adG->adO)(E:adG->adO)(Un:adO)(c4 cg cp:Nat)(fuel:Nat):Prop:=
 ∀ (cM:adK) (many:Int) (a:adK) (sp:nL) (F:adG) (σ:ab) (pre post:adq) (KF:adw),cM.length+fuel=f.aA.length->0<=many/\many<=6->Hs f cM.length a->WS b mb f y begun c4 cg cp a F σ->Un σ ->
   W=pre++fJ f begun fuel cM many a++post->I pre.length F σ->Sd b mb Un I E pre.length (fJ f begun fuel cM many a).length F σ KF ->
   aB prog m 160 [.sl 1 (cM.map ι) sp,ι many,.cp (mH b mb f 0) 0,.cp y 0,.cp (ints begun) 0,.ref cp 0] σ KF
theorem Q5:∀x:Fin 64,∀n:Fin 6,(0<=bN (x.val:Int) (n.val:Int)/\bN (x.val:Int) (n.val:Int)<64)/\(∀e∈aD (bN (x.val:Int) (n.val:Int)),e=(n.val:Int)\/e∈aD (x.val:Int))/\(n.val:Int)∈aD (bN (x.val:Int) (n.val:Int)):=by decide +kernel
theorem Hc{x}{n:Nat}(b:0<=x/\x<64)(a:n<6):(0<=bN x n/\bN x n<64)/\(∀e∈aD (bN x n),e=(n:Int)\/e∈aD x)/\(n:Int)∈aD (bN x n):=by
 have:=Q5 ⟨x.toNat,by omega⟩ ⟨n,a⟩
 grind
theorem N7{x e}(h:e∈aD x):0<=e/\e<6:=by
 unfold aD at h
 grind
theorem om  x :(aD x).length<20:=by
 unfold aD
 grind
theorem Hs.set{n b}(h:Hs f n b)(d:n<6){k}  c :Hs f (n+1) (b.set k (bN b[k] n)):=by
 have g:=Hc (h.small _ (xE c)) d;refine⟨by rw[abK];exact h.nK,λx a e he=>?_,λx a=>?_⟩
 . rcases abU a with a|rfl
   . have:=h.bits x a e he;omega
   rcases g.2.1 e he with rfl|he
   . omega
   have:=h.bits _ (xE c) e he;omega
 rcases abU a with a|rfl
 . exact h.small x a
 omega
theorem Hs.uV{n a}(h:Hs f n a)(d:n<f.aA.length)(g:f.aA.length<=6){k}(b:k<a.length):PU f (aD (bN a[k] n)):=by
 have c:=Hc (h.small _ (xE b)) (n:=n) (by omega);refine⟨λe he=>⟨(N7 he).1,?_⟩,λq=>?_,by have:=om (bN a[k] n);omega⟩
 . rcases c.2.1 e he with rfl|he
   . omega
   have:=h.bits _ (xE b) e he;omega
 simp_all
theorem Q6{d k x}{l:adK}(i:k<6)(c:l.length=6)(hd:σ d=some (.cells [u8 x]))(e:σ c4=some (.cells (l.map u8)))(h:KF (.val (.cH [])) (σ.set c4 (.cells ((l.set k x).map u8)))):aB prog m 157 [.ref d 0,.ref c4 0,.cp (ι k) 0] σ KF:=by
 have a:(k:Int)<6:=by omega
 have b:k<=5:=by omega
 have g:k<l.length:=by omega
 refine fs [] Tryz.func157 rfl (by kernel_rfl) ?_;simp[Tryz.f157,hd,e,a,c,b];rw[F6 (by simp_all),<-List.map_set (f:=u8)];exact .done h
theorem Tu(N : Nl prog m nn b 6 mb .u8 (lC f) Un Ld)(hf:f.Good)(cm:begun.length<1152921504606846976)(Y:UJ m y W I E){fuel}(hG:N6 m b mb f begun y W I E Un c4 cg cp fuel){cM many k n sp F pre post}(hlen:cM.length+(fuel+1)=f.aA.length)(b2:0<=many/\many<=6)(hk:k<6)
 (hh:Hs f cM.length n) (w:WS b mb f y begun c4 cg cp n F σ) (hu:Un σ){L}(U:L=if je f (bN (n.getD k 0) cM.length)=true then fJ f begun fuel (cM++[(k:Int)]) (max many ((k:Int)+1)) (n.set k (bN (n.getD k 0) cM.length))else[]) (hW:W=pre++L++post)
 (hI:I pre.length F σ) (hR:Sd b mb Un I E pre.length L.length F σ KF):aB prog m 156 [.sl 1 (cM.map ι) sp,ι many,ι k,.ref c4 0,.cp (mH b mb f 0) 0,.ref cg 0] σ KF:=by
 have h6:=hf.nK;have V:k<n.length:=by rw[hh.nK];exact hk
 have b3:n.getD k 0=n[k]:=by simp_all
 rw[b3]at U;have X:(k:Int)<6:=by omega
 have s:=w.arr;have av:=hh.nK;have Z:k<=5:=by omega
 have e1:List.take 1 (List.drop k (List.map u8 n))=[u8 n[k]]:=by rw[<-List.map_drop,abE V];rfl
 refine fs Wv Tryz.func156 rfl (by kernel_rfl) ?_
 simp[Tryz.f156,s,X,av,Z,e1];refine bP.intro λd hd=>?_
 have d4:d≠c4:=λe=>by simp_all
 have ax:=wK d4;simp;refine aa.defer rfl rfl rfl rfl (by simp) rfl ?_
 apply rn;simp[X];obtain⟨z,hz⟩:∃z,z=bN n[k] cM.length:=⟨_,rfl⟩;obtain⟨i,O⟩:∃i,i=n.set k z:=⟨_,rfl⟩;have b4:k<i.length:=by simp_all
 have ay:i[k]=z:=by simp_all
 have e2:List.take 1 (List.drop k (List.map u8 i))=[u8 z]:=by rw[<-List.map_drop,abE b4,ay];rfl
 have e3:aG (List.map u8 n) k [u8 z]=List.map u8 i:=by simp_all
 have P:i.length=6:=by simp_all
 refine cf Tryz.func158 rfl (Q1 (by omega) ?_)
 rw[<-hz];apply pg;simp[ax,ab.ah,s,av,Z,e3];apply rn;simp[X,P,Z,e2];have b5:cM.length<6:=by omega
 have b6:cM.length<f.aA.length:=by omega
 have b7:PU f (aD z):=by rw[hz];exact hh.uV b6 h6 V
 obtain⟨xb,b8,b9⟩:=N.UF hu;have cb:∀c l,σ c=some (.cells l)->c≠b:=λc l t e=>by subst e;rw[b8]at t;cases t;cases b9
 have db:d≠b:=λe=>by simp_all
 have aC:Un ((σ.set d (.cells [u8 n[k]])).set c4 (.cells (i.map u8))):=qC N (qC N hu (λx A=>by simp_all)) (λx A=>by rw[ab.ah _ _ ax,s]at A;cases A;rfl)
 have aE:((σ.set d (.cells [u8 n[k]])).set c4 (.cells (i.map u8))) c4=some (.cells (i.map u8)):=ab.ai _ _ _;have aL:((σ.set d (.cells [u8 n[k]])).set c4 (.cells (i.map u8))) d=some (.cells [u8 n[k]]):=by rw[ab.ah _ _ d4,ab.ai]
 have H:∀c,c≠d->c≠c4->((σ.set d (.cells [u8 n[k]])).set c4 (.cells (i.map u8))) c=σ c:=λc r D=>by rw[ab.ah _ _ D,ab.ah _ _ r]
 have aO:¬F d:=λhF=>by
  obtain⟨x,A,_⟩:=Y.PS _ _ _ _ hI hF
  simp_all
 have a7:I pre.length F ((σ.set d (.cells [u8 n[k]])).set c4 (.cells (i.map u8))):=Y.frame _ _ _ _ (λc t=>H c (λe=>aO (e ▸ t)) (λe=>w.out.1 (e ▸ t))) hI
 generalize (σ.set d (.cells [u8 n[k]])).set c4 (.cells (i.map u8))=cv at aC aE aL H a7;refine cf Tryz.func159 rfl (Ts N hf b7 (om _) aC λo aW p=>?_)
 have B:o c4=some (.cells (i.map u8)):=p _ _ aE (cb _ _ s) (.inr rfl);have a8:o d=some (.cells [u8 n[k]]):=p _ _ aL db (.inr rfl);have gd:cg≠d:=λe=>by have:=w.WV;simp_all
 have J:o cg=some (.cells [y7 (mH b mb f 0) y begun cp]):=p _ _ (by rw[H cg gd (wK w.ne.1)];exact w.WV) (cb _ _ w.WV) (.inr rfl)
 have bc:i.set k n[k]=n:=by simp_all
 have Q:∀(env:Env) (j:ab) (v:Bool),env 9=ψ v->j d=some (.cells [u8 n[k]])->j c4=some (.cells (i.map u8))->KF (.val (ψ v)) (j.set c4 (.cells (n.map u8)))->rJ prog m (.func 157) [.ref d 0,.ref c4 0,.cp (ι k) 0] [] .ret j (λbm g=>Ly lay m [ResultVar.tmp 9] env (nP KF) [] bm g):=λenv j v he bw bx hK=>by
  refine rJ.func Tryz.func157 rfl rfl (Q6 hk P bw bx ?_);refine⟨[env 9],rfl,.done ?_⟩
  simp_all
 have b0:Mv b mb F F σ (o.set c4 (.cells (n.map u8))):=λc x r D K h4=>by
  refine⟨?_,D⟩
  by_cases e:c=c4
  . simp_all
  have e':c≠d:=λe'=>by simp_all
  rw[ab.ah _ _ e];exact p c x (by simp_all) K h4
 have a9:I pre.length F o:=Y.frame _ _ _ _ (λc t=>by
  obtain⟨x,r,D⟩:=Y.PS _ _ _ _ a7 t
  have bA:c≠b:=λe=>by grind
  rw[r];exact p c x r bA (.inr D)) a7
 rw[<-hz,<-O]at U;cases R:je f z with
 | false=>
   rw[R]at U;simp only[zs,zD]at U;subst U;apply pg;simp
   repeat' apply And.intro
   all_goals
    apply rn;simp;refine Q _ o true (by simp) a8 B (hR.1 F _ b0 (qC N aW (λx A=>by rw[B]at A;cases A;rfl)) ?_)
    exact Y.frame _ _ _ _ (λc t=>ab.ah _ _ (λe=>w.out.1 (e ▸ t))) a9
 | true=>
   rw[R,zR rfl]at U
   have ad:∀(j:ab) (C:nL) (M:adw),o.Le j->(∀(v:Bool) g,g d=some (.cells [u8 n[k]])->g c4=some (.cells (i.map u8))->KF (.val (ψ v)) (g.set c4 (.cells (n.map u8)))->M (.val (ψ v)) g) ->
    aB prog m 160 [.sl 1 ((cM++[(k:Int)]).map ι) C,ι (max many ((k:Int)+1)),.cp (mH b mb f 0) 0,.cp y 0,.cp (ints begun) 0,.ref cp 0] j M:=λj C M q hK=>by
    have bB:o cp=some (.cells [bp (mH b mb f 0) c4 cg]):=by
     have pd:cp≠d:=λe=>by have:=w.pt;simp_all
     exact p _ _ (by rw[H cp pd (wK w.ne.2)];exact w.pt) (cb _ _ w.pt) (.inr rfl)
    have c5:Un j:=N.un (λc _ ⟨x,r,_⟩=>by rw[r];exact q _ _ r) aW
    have c6:WS b mb f y begun c4 cg cp i F j:=⟨q _ _ B,q _ _ J,q _ _ bB,w.out,w.ne⟩
    have c7:I pre.length F j:=Y.frame _ _ _ _ (λc t=>by obtain⟨x,r,_⟩:=Y.PS _ _ _ _ a9 t;rw[r];exact q _ _ r) a9
    have S:∀(u:adG) (g:ab),Mv b mb F u j g->Mv b mb F u σ (g.set c4 (.cells (n.map u8))):=λu g hm c x r D K h4=>by
     by_cases e:c=c4
     . subst e
       obtain⟨q1,T⟩:=hm c _ (q _ _ B) D K (.inr rfl)
       simp_all
     have e':c≠d:=λe'=>by simp_all
     rw[ab.ah _ _ e];exact hm c x (q _ _ (p c x (by simp_all) K h4)) D K h4
    have FQ:∀(u:adG) (g:ab),Mv b mb F u j g->g d=some (.cells [u8 n[k]])/\(g c4=some (.cells (i.map u8))/\¬u c4):=λu g hm=>⟨(hm d _ (q _ _ a8) aO db (.inr rfl)).1,hm c4 _ (q _ _ B) w.out.1 (cb _ _ s) (.inr rfl)⟩
    subst U;refine hG _ _ _ _ F j pre post M (by simp;omega) (by omega) (by rw[aaI,O,hz];exact hh.set b5 V) c6 c5 hW c7 ⟨λu g r D K=>?_,λu g r D K=>?_⟩
    . obtain⟨q1,T,q3⟩:=FQ u g r
      exact hK true g q1 T (hR.1 u _ (S u g r) (qC N D (λx A=>by rw[T]at A;cases A;rfl)) (Y.frame _ _ _ _ (λc t=>ab.ah _ _ (λe=>q3 (e ▸ t))) K))
    obtain⟨q1,T,q3⟩:=FQ u g r;exact hK false g q1 T (hR.2 u _ (S u g r) (qC N D (λx A=>by rw[T]at A;cases A;rfl)) (Y.Tt _ _ _ (λc t=>ab.ah _ _ (λe=>q3 (e ▸ t))) K))
   have k1:-9223372036854775808<=(k:Int)+1/\(k:Int)+1<=9223372036854775807:=by omega
   have G:(if many<(k:Int)+1 then(k:Int)+1 else many)=max many ((k:Int)+1):=by omega
   apply pg;simp[J,k1.1,k1.2,G]
   repeat' (first
             |apply And.intro
             | (refine vI lay rfl dS rfl sF (es:=cM.map ι) (sp:=sp) (l:=0) (h:=cM.length) (by simp) (λcap b1=>⟨⟨⟨.i64,by simp⟩,by simpa using b1⟩,⟨⟨.i64,by simp⟩,aaG _⟩,rfl⟩) (by simp) λa ha=>?_
                have c9:Tok o o a 1 (cM.map ι):=by
                 rcases ha with rfl|⟨e,rfl⟩
                 . have:List.take (cM.length-0) (List.drop 0 (cM.map ι))=cM.map ι:=by rw[List.drop_zero,abR (by simp)]
                   rw[this];exact .exact _ _ _
                 . rw[e];exact .nil _ _
                clear ha;apply pg;simp[B,a8,J,k1.1,k1.2,G])
             | (refine aR lay rfl rfl rfl dS rfl dS rfl sF (by decide) (by simp;omega) (σ0:=o) (es:=cM.map ι) (xs:=[ι k]) (by simpa using c9) (.inr ⟨_,by simp;rfl⟩) λa' j al=>?_
                obtain⟨C,rfl⟩:∃C,a'=.sl 1 (cM.map ι++[ι k]) C:=by
                 rcases al.2 with⟨_,e⟩|e|⟨_,_,_,e,_⟩
                 . simp at e
                 . exact⟨_,e⟩
                 . exact⟨_,e⟩
                have ca:=al.1 _ _ J;apply pg;simp[ca,k1.1,k1.2,G])
             | (refine eS Tryz.func160 rfl rfl (by simp) (ad j C _ al.1 λv g q1 T q3=>?_)
                apply pg;simp;apply rn;simp;exact Q _ _ v (by simp) q1 T q3))
end
section
variable{b mb:Nat}{f:Fr}{begun:adK}{y:AV}{W:adq}{I:Nat->adG->adO}{E:adG->adO}{Un:adO}{Ld:ab->adr->Prop}{c4 cg cp:Nat}
def pK(f:Fr)(begun:adK)(fuel:Nat)(cM:adK)(many:Int)(a:adK)(k:Nat):adq:=
 if cM.length<begun.length/\begun.getD cM.length 0≠(k:Int)then[]
 else if je f (bN (a.getD k 0) cM.length)=true then fJ f begun fuel (cM++[(k:Int)]) (max many ((k:Int)+1)) (a.set k (bN (a.getD k 0) cM.length))else[]
theorem sG  f   begun   fuel   cM   many   a :fJ f begun (fuel+1) cM many a=(List.range (min (many+1) f.aT).toNat).flatMap (pK f begun fuel cM many a):=rfl
theorem E5(K:Nat->adq){k cnt}(h:k<cnt):∃μ,(List.range cnt).flatMap K=(List.range k).flatMap K++(K k++μ):=by
 obtain⟨n,rfl⟩:∃n,cnt=k+1+n:=⟨cnt-(k+1),by omega⟩;induction n with
 |zero=>exact⟨[],by rw[Nat.add_zero,abq,acw];simp⟩
 | succ n a=>
   obtain⟨μ,b⟩:=a (by omega);refine⟨μ++K (k+1+n),?_⟩;rw[show k+1+(n+1)=(k+1+n)+1 by omega,abq,acw,b];simp
theorem Q7(P:Nl prog m nn b 6 mb .u8 (lC f) Un Ld)(R:f.Good)(S:begun.length<1152921504606846976)(Y:UJ m y W I E)(T:y.cells=[y]):∀fuel ,N6 m b mb f begun y W I E Un c4 cg cp fuel:=by
 have h6:=R.nK;have ad:=R.aT;intro fuel
 induction fuel with
 | zero=>
   intro cM many h sp F σ pre post KF hlen l hh U G H J u;have V:(cM.length:Int)=f.aA.length:=by omega
   refine fs [] Tryz.func160 rfl (by kernel_rfl) ?_
   simp[Tryz.f160,V,T];have hk:pre.length<W.length:=by rw[H];simp[fJ]
   have X:W[pre.length]=cM:=by subst H;simp[fJ]
   refine cq.weaken (args':=[ints cM]) ?_ ⟨iK 1 _ sp,trivial⟩;rw[<-X];refine Y.step pre.length F σ _ hk J (λq d n x=>?_) (λq d n x=>?_)
   . apply rn
     simp;exact .done (u.1 q d (E4 n) (yZ P G n (λc Z=>Y.PS _ _ _ c J Z)) x)
   apply rn;simp;exact .done (u.2 q d (E4 n) (yZ P G n (λc Z=>Y.PS _ _ _ c J Z)) x)
 | succ fuel a7=>
   intro cM many h sp F σ pre post KF hlen l hh U G H J u;have V:((cM.length:Int)==f.aA.length)=false:=by grind
   have al:=U.pt;rw[sG]at H u;obtain⟨cnt,K⟩:∃cnt:Nat,cnt=(min (many+1) f.aT).toNat:=⟨_,rfl⟩;rw[<-K]at H u;have L:(if f.aT<many+1 then f.aT else many+1)=(cnt:Int):=by omega
   have av:cnt<=6:=by omega
   have m1:-9223372036854775808<=many+1/\many+1<=9223372036854775807:=by omega
   refine fs [] Tryz.func160 rfl (by kernel_rfl) ?_
   simp[Tryz.f160,V,m1.1,m1.2,L];refine aa.loop cnt (λk s=>∃env d q,s=⟨env,d,[],.no⟩/\env 0=.sl 1 (cM.map ι) sp/\env 1=ι many/\env 2=.cp (mH b mb f 0) 0/\env 4=.cp (ints begun) 0/\env 5=.ref cp 0/\env 29=ι cnt/\env 30=ι k/\Mv b mb F q σ d/\Un d/\I (pre.length+((List.range k).flatMap (pK f begun fuel cM many h)).length) q d) ⟨_,_,F,rfl,by simp,by simp,by simp,by simp,by simp,by simp,by simp,Mv.refl b mb F σ,G,J⟩ ?_
   rintro c0 k _ hk ⟨env,d,q,rfl,B,n,x,C,M,g,i,o,z,a8⟩ ih
   rcases abC k cnt with g1|g1
   . have N:=U.mv (P.UF G) o
     have w:=N.pt;obtain⟨μ,Q⟩:=E5 (pK f begun fuel cM many h) g1
     have a9:((List.range (k+1)).flatMap (pK f begun fuel cM many h)).length=((List.range k).flatMap (pK f begun fuel cM many h)).length+(pK f begun fuel cM many h k).length:=by rw[abq,acw,aaI];simp
     by_cases g2:cM.length<begun.length/\begun.getD cM.length 0≠(k:Int)
     . have hK:pK f begun fuel cM many h k=[]:=zR g2
       have e1:begun.getD cM.length 0=begun[cM.length]:=by grind
       have e2:(begun[cM.length] !=(k:Int))=true:=by grind
       apply rn;simp[B,C,g,i,g1,g2.1,e2];refine⟨by omega,ih _ g1 ⟨_,_,q,rfl,by simp[B],by simp[n],by simp[x],by simp[C],by simp[M],by simp[g],by simp,o,z,?_⟩⟩
       grind
     have hK:pK f begun fuel cM many h k=if je f (bN (h.getD k 0) cM.length)=true then fJ f begun fuel (cM++[(k:Int)]) (max many ((k:Int)+1)) (h.set k (bN (h.getD k 0) cM.length))else[]:=zA g2
     have p:∀A:adw,(∀(v:Bool) a j,Mv b mb F j σ a->Un a->(v=true->I (pre.length+((List.range (k+1)).flatMap (pK f begun fuel cM many h)).length) j a)->(v=false->E j a)->A (.val (ψ v)) a)->aB prog m 156 [.sl 1 (cM.map ι) sp,ι many,ι k,.ref c4 0,.cp (mH b mb f 0) 0,.ref cg 0] d A:=λA O=>by
      refine Tu P R S Y a7 (pre:=pre++(List.range k).flatMap (pK f begun fuel cM many h)) (post:=μ++post) hlen l (by omega) hh N z hK (by grind) (by grind) ⟨λj a r t D=>?_,λj a r t D=>?_⟩
      . refine O true a j (o.trans r) t (λ_=>?_) (λe=>by cases e)
        grind
      exact O false a j (o.trans r) t (λe=>by cases e) (λ_=>D)
     by_cases g3:cM.length<begun.length
     . have e1:begun.getD cM.length 0=begun[cM.length]:=by grind
       have e2:(begun[cM.length] !=(k:Int))=false:=by grind
       apply rn;simp[B,n,C,M,g,i,g1,g3,e2,w];refine eS Tryz.func156 rfl rfl (by simp) (p _ λv a j r t D q4=>?_)
       cases v
       . apply rn
         simp;exact .done (u.2 j a r t (q4 rfl))
       apply rn;simp[i];refine⟨by omega,ih _ g1 ⟨_,_,j,rfl,?_,?_,?_,?_,?_,?_,?_,r,t,D rfl⟩⟩<;>simp[B,n,x,C,M,g]
     apply rn;simp[B,n,C,M,g,i,g1,g3,w];refine eS Tryz.func156 rfl rfl (by simp) (p _ λv a j r t D q4=>?_)
     cases v
     . apply rn
       simp;exact .done (u.2 j a r t (q4 rfl))
     apply rn;simp[i];refine⟨by omega,ih _ g1 ⟨_,_,j,rfl,?_,?_,?_,?_,?_,?_,?_,r,t,D rfl⟩⟩<;>simp[B,n,x,C,M,g]
   have:k=cnt:=by omega
   subst this;apply rn;simp[g,i];exact .done (u.1 q d o z a8)
end
section
variable{b mb:Nat}{f:Fr}{begun:adK}{y:AV}{I:Nat->adG->adO}{E:adG->adO}{Un:adO}{Ld:ab->adr->Prop}
theorem CU{sp}(h:KF (.val (.fn (.func 155) [] [.cp (mH b mb f 0) 0,.cp (.sl 1 (begun.map ι) sp) 0])) σ):aB prog m 119 [mH b mb f 0,.sl 1 (begun.map ι) sp] σ KF:=by
 refine fs [] Tryz.func119 rfl (by kernel_rfl) ?_;simp[Tryz.f119];exact .done h
theorem Yy  f :Hs f 0 [0,0,0,0,0,0]:=by
 refine⟨rfl,λx a e b=>?_,λx a=>?_⟩
 . have hb:aD 0=[]:=by decide +kernel
   simp_all
 simp_all
theorem Mv.le{F d σ0 σ'}(h:Mv b mb F d σ σ')(a:σ0.Le σ):Mv b mb F d σ0 σ':=λc x e f g i=>h c x (a c x e) f g i
theorem y8(r:Nl prog m nn b 6 mb .u8 (lC f) Un Ld)(w:f.Good)(j:begun.length<1152921504606846976)(Y:UJ m y (aH f begun) I E)(d:y.cells=[y]/\y.flat=true){F}(z:Un σ)(k:I 0 F σ)
 (h:∀e σ',Mv b mb F e σ σ'->Un σ'->(I (aH f begun).length e σ'\/E e σ')->KF (.val (.cH [])) σ'):aB prog m 155 [y,.cp (mH b mb f 0) 0,.cp (ints begun) 0] σ KF:=by
 refine fs [] Tryz.func155 rfl (by kernel_rfl) ?_;simp[Tryz.f155,d.1,d.2];refine bP.intro λc4 A=>?_
 simp;refine bP.intro λcg l=>?_
 obtain⟨H,s,l⟩:=ab.aN l;simp;refine bP.intro λcp i=>?_
 obtain⟨B,n4,i⟩:=ab.aN i;obtain⟨J,t,i⟩:=ab.aN i;simp[n4,ab.ah];have a:σ.Le ((((σ.set c4 (.cells [u8 0,u8 0,u8 0,u8 0,u8 0,u8 0])).set cg (.cells [.lit .nilFunc])).set cp (.cells [bp (mH b mb f 0) c4 cg])).set cg (.cells [y7 (mH b mb f 0) y begun cp])):=(by repeat (first|exact ab.le_refl _|assumption|refine ab.dQ ?_ (by assumption)|refine ab.ma ?_ (by assumption)));have C:((((σ.set c4 (.cells [u8 0,u8 0,u8 0,u8 0,u8 0,u8 0])).set cg (.cells [.lit .nilFunc])).set cp (.cells [bp (mH b mb f 0) c4 cg])).set cg (.cells [y7 (mH b mb f 0) y begun cp])) c4=some (.cells (([0,0,0,0,0,0]:adK).map u8)):=by simp[s,t,ab.ah]
 have D:((((σ.set c4 (.cells [u8 0,u8 0,u8 0,u8 0,u8 0,u8 0])).set cg (.cells [.lit .nilFunc])).set cp (.cells [bp (mH b mb f 0) c4 cg])).set cg (.cells [y7 (mH b mb f 0) y begun cp])) cg=some (.cells [y7 (mH b mb f 0) y begun cp]):=by simp
 have sp:((((σ.set c4 (.cells [u8 0,u8 0,u8 0,u8 0,u8 0,u8 0])).set cg (.cells [.lit .nilFunc])).set cp (.cells [bp (mH b mb f 0) c4 cg])).set cg (.cells [y7 (mH b mb f 0) y begun cp])) cp=some (.cells [bp (mH b mb f 0) c4 cg]):=by simp[B,ab.ah]
 have g:∀c,σ c=none -> ¬F c:=λc u G=>by
  obtain⟨x,n,_⟩:=Y.PS _ _ _ _ k G
  simp_all
 refine cq.weaken (args':=[.sl 1 (([]:adK).map ι) .any,ι 0]) ?_ ⟨gZ 1,.refl _,trivial⟩;refine eS Tryz.func160 rfl rfl rfl (Q7 (y:=y) r w j Y d.1 f.aA.length [] 0 [0,0,0,0,0,0] .any F _ [] [] _ (by simp) (by omega) (Yy f) ⟨C,D,sp,⟨g _ A,g _ l,g _ i⟩,⟨s,t⟩⟩ (r.un (λc _ ⟨x,v,_⟩=>by rw[v];exact a _ _ v) z) (by simp[aH]) (Y.frame _ _ _ _ (λc u=>by obtain⟨x,n,_⟩:=Y.PS _ _ _ _ k u;rw[n];exact a _ _ n) k) ⟨λe σ' o p q=>?_,λe σ' o p q=>?_⟩)
 . apply rn
   simp;refine .done (h e σ' (o.le a) p (.inl ?_));simpa[aH]using q
 . apply rn
   simp;exact .done (h e σ' (o.le a) p (.inr q))
end
section
variable{b mb:Nat}{f:Fr}{Un:adO}{Ld:ab->adr->Prop}
theorem Q8(E:Nl prog m nn b 6 mb .u8 (lC f) Un Ld)(U:f.Good)(R:Un σ)(h:∀σ',Un σ'->pJ b mb σ σ'->KF (.val (ψ (decide (aH f []≠[])))) σ'):aB prog m 83 [mH b mb f 0] σ KF:=by
 refine fs [] Tryz.func83 rfl (by kernel_rfl) ?_
 simp[Tryz.f83];refine bP.intro λd h3=>?_
 simp;have V:Wl [mH b mb f 0,AV.lit (.slice none 0 0)] [mH b mb f 0,ints []]:=.cons (.refl _) (.cons (gZ 1) .nil);refine cA Tryz.func119 rfl rfl V (CU (begun:=[]) ?_);apply rn;simp;refine aa.rangeFunc rfl λI r l J S o=>?_
 obtain⟨r1,W,J⟩:=ab.aN J;obtain⟨X,z,S⟩:=ab.aN S;generalize p:xx.mk _ _ _ _ _ _ _ _ _=G
 have Y:UJ m (.fn (.yield l) [] []) (aH f []) (λk F σ'=>k=0/\(∀c,F c↔c=l\/c=d)/\σ' l=some (.loop G)/\σ' d=some (.cells [ψ false])) (λF σ'=>aH f []≠[]/\(∀c,F c↔c=l\/c=d)/\σ' l=some (.loop {G with state:=.done,pending:=some (.exit 0)})/\σ' d=some (.cells [ψ true])):=by
  refine⟨λk F σ' Z hk A hT hF=>?_,λk F K a he A=>?_,λF K a he A=>?_,λk F σ' c A v=>?_⟩
  . obtain⟨rfl,i,H,L⟩:=A
    have e3:∀x,(σ'.set l x) d=some (.cells [ψ false]):=λx=>by rw[ab.ah _ _ z];exact L
    subst p;refine cq.xZ (ω:=[]) I Tryz.func83 H rfl ?_;apply rn;simp[nB];refine aa.beginRound H rfl ?_;apply rn;simp[e3];have M:aH f []≠[]:=λe=>by simp_all
    refine⟨rfl,rfl,_,((ab.ah _ _ X).trans (ab.ai _ _ _)),?_⟩;refine hF F _ (λc x v hx=>⟨?_,v⟩) ⟨M,i,ab.ai _ _ _,(ab.ah _ _ z).trans (ab.ai _ _ _)⟩
    have w:c≠l:=λe=>v ((i c).2 (.inl e))
    have B:c≠d:=λe=>v ((i c).2 (.inr e))
    exact(ab.ah _ _ w).trans ((ab.ah _ _ B).trans ((ab.ah _ _ w).trans hx))
  . simp_all
  . simp_all
  obtain⟨rfl,i,H,L⟩:=A
  rcases(i c).1 v with rfl|rfl
  . exact⟨_,H,rfl⟩
  exact⟨_,L,rfl⟩
 obtain⟨xb,a7,a8⟩:=E.UF R;have nb:∀c,σ c=none->c≠b:=λc v e=>by simp_all
 have C:σ.Le (((σ.set d (.cells [ψ false])).set r (.raw (.deferred (some [])))).set l (.loop G)):=(by repeat (first|exact ab.le_refl _|assumption|refine ab.dQ ?_ (by assumption)|refine ab.ma ?_ (by assumption)))
 have sr:(((σ.set d (.cells [ψ false])).set r (.raw (.deferred (some [])))).set l (.loop G)) r=some (.raw (.deferred (some []))):=by rw[ab.ah _ _ o,ab.ai]
 refine eS Tryz.func155 rfl rfl rfl (y8 (F:=λc=>c=l\/c=d) E U (by simp) Y ⟨rfl,rfl⟩ (E.un (λc _ ⟨x,j,_⟩=>(C _ _ j).trans j.symm) R) ⟨rfl,λc=>abr,ab.ai _ _ _,(ab.ah _ _ z).trans ((ab.ah _ _ W).trans (ab.ai _ _ _))⟩ λF' σ' D N n=>?_)
 have q:=(D r _ sr (λe=>by omega) (nb r J) (.inr rfl)).1
 have s:pJ b mb σ σ':=λc x j y t=>(D c x (C c x j) (λe=>by grind) y t).1
 have O:∀a,a=(σ'.del l).set r (.raw (.deferred none))->Un a/\pJ b mb σ a:=λa e=>by
  subst e;refine⟨E.un (σ:=σ') (λc _ ⟨x,j,y⟩=>?_) N,λc x j y t=>?_⟩
  . have w:c≠r:=λe=>by subst e;rw[q]at j;cases j;cases y
    have B:c≠l:=λe=>by
     subst e
     rcases n with⟨_,_,g,_⟩|⟨_,_,g,_⟩<;>rw[g]at j<;>cases j<;>cases y
    rw[ab.ah _ _ w];simp[ab.del,B]
  have w:c≠r:=λe=>by simp_all
  have B:c≠l:=λe=>by simp_all
  rw[ab.ah _ _ w];simp only[ab.del,B,zD];exact s c x j y t
 rcases n with⟨T,_,P,q2⟩|⟨T,_,P,q2⟩
 . have Q:decide (aH f []≠[])=false:=by simp_all
   rw[Q]at h;subst p;refine⟨_,P,by simp,rfl,?_⟩
   have u:(σ'.del l) d=some (.cells [ψ false]):=by simp only[ab.del,z,zD];omega
   apply rn;simp[u];refine⟨by simp only[ab.del,o,zD];exact q,.done ?_⟩
   simp_all
 have Q:decide (aH f []≠[])=true:=by simp[T]
 rw[Q]at h;subst p;refine⟨_,P,by simp,rfl,?_⟩
 have u:(σ'.del l) d=some (.cells [ψ true]):=by simp only[ab.del,z,zD];omega
 apply rn;simp[u];refine⟨by simp only[ab.del,o,zD];exact q,.done ?_⟩
 simp_all
end
end
section
open Go Go.ck
set_option maxRecDepth 100000
abbrev ng:Qr:=⟨100,102,106,130,131,144,129,137,147,132,170,171,172,177,148,141,220,222,227⟩
theorem N8:∀(b:Nat) (τ:adP),bh (A0 prog ng b τ).1=some (ng.jR,[])/\(A0 prog ng b τ).1.env.all plain=true/\(A0 prog ng b τ).2=[]/\(A0 prog ng b τ).1.kind=τ:=by intro b τ;exact⟨by kernel_rfl,by kernel_rfl,by kernel_rfl,by kernel_rfl⟩
theorem N9:∀(b:Nat) (τ:adP),bh (A1 prog ng b τ).1=some (ng.Qs,[])/\(A1 prog ng b τ).1.env.all plain=true/\(A1 prog ng b τ).2=[]/\(A1 prog ng b τ).1.kind=τ:=by intro b τ;exact⟨by kernel_rfl,by kernel_rfl,by kernel_rfl,by kernel_rfl⟩
theorem Oa:∀(b:Nat) (τ:adP),bh (A2 prog ng b τ).1=some (ng.tz,[pt b 0,u64 4294967296])/\xd (A2 prog ng b τ)=true/\(A2 prog ng b τ).1.env.all plain=true/\(A2 prog ng b τ).2.all (·.env.all plain)=true:=by intro b τ;exact⟨by kernel_rfl,by kernel_rfl,by kernel_rfl,by kernel_rfl⟩
theorem Ob:∀(b:Nat) (τ:adP) (a:Fl),kY (A3 prog ng b τ (f1 a true)).1=some (ng.tS,ng.tU,pt b 1):=by intro b τ a;kernel_rfl
theorem Oc:∀(b:Nat) (τ:adP) (a:Fl),bh (A4 prog ng b τ (f1 a true)).1=some (ng.rd,[pt b 1])/\(A4 prog ng b τ (f1 a true)).1.kind=τ:=by intro b τ a;exact⟨by kernel_rfl,by kernel_rfl⟩
theorem Od:∀(b:Nat) (τ:adP) (a:Fl),sA (A5 prog ng b τ (f0 (f1 a true) false)).1=some ng.en/\(A5 prog ng b τ (f0 (f1 a true) false)).2=[]/\(A5 prog ng b τ (f0 (f1 a true) false)).1.kind=τ/\(A5 prog ng b τ (f0 (f1 a true) false)).1.fn=ng.add:=by intro b τ a;exact⟨by kernel_rfl,by kernel_rfl,by kernel_rfl,by kernel_rfl⟩
theorem Oe:∀(b:Nat) (τ:adP) (a:Fl),sA (A3 prog ng b τ (f0 (f1 a false) false)).1=some ng.en/\(A3 prog ng b τ (f0 (f1 a false) false)).2=[]/\(A3 prog ng b τ (f0 (f1 a false) false)).1.kind=τ/\(A3 prog ng b τ (f0 (f1 a false) false)).1.fn=ng.add:=by intro b τ a;exact⟨by kernel_rfl,by kernel_rfl,by kernel_rfl,by kernel_rfl⟩
theorem Of:∀(b:Nat),kY (D0 prog ng b).1=some (ng.tG,ng.tU,pt b 0)/\(D0 prog ng b).1.env.all plain=true/\(D0 prog ng b).2.all (·.env.all plain)=true:=by intro b;exact⟨by kernel_rfl,by kernel_rfl,by kernel_rfl⟩
theorem Og:∀(b:Nat),bh (D1 prog ng b).1=some (ng.rel,[pt b 0])/\xd (D1 prog ng b)=true/\(D1 prog ng b).1.env.all plain=true/\(D1 prog ng b).2.all (·.env.all plain)=true:=by intro b;exact⟨by kernel_rfl,by kernel_rfl,by kernel_rfl,by kernel_rfl⟩
theorem Oh:∀(b:Nat),bh (D2 prog ng b).1=some (ng.jR,[])/\xd (D2 prog ng b)=true/\(D2 prog ng b).1.env.all plain=true/\(D2 prog ng b).2.all (·.env.all plain)=true:=by intro b;exact⟨by kernel_rfl,by kernel_rfl,by kernel_rfl,by kernel_rfl⟩
theorem Oi:∀(b:Nat),bh (D3 prog ng b).1=some (ng.Qs,[])/\xd (D3 prog ng b)=true/\(D3 prog ng b).1.env.all plain=true/\(D3 prog ng b).2.all (·.env.all plain)=true:=by intro b;exact⟨by kernel_rfl,by kernel_rfl,by kernel_rfl,by kernel_rfl⟩
theorem Oj:∀(b:Nat),bh (D4 prog ng b).1=some (ng.tz,[pt b 0,u64 18446744069414584320])/\xd (D4 prog ng b)=true/\(D4 prog ng b).1.env.all plain=true/\(D4 prog ng b).2.all (·.env.all plain)=true:=by intro b;exact⟨by kernel_rfl,by kernel_rfl,by kernel_rfl,by kernel_rfl⟩
theorem Ok:∀(b:Nat) (a:Fl) (x:Bool),sA (DE prog ng b (f0 a x) 0).1=some ng.en:=by intro b a x;cases x<;>kernel_rfl
theorem KZ:∀(b:Nat) (a:Fl) (x:Bool),kL (mN prog (f0 a x) (DE prog ng b (f0 a x) 0)).1 ng.done=true/\(mN prog (f0 a x) (DE prog ng b (f0 a x) 0)).2=[]/\(mN prog (f0 a x) (DE prog ng b (f0 a x) 0)).1.kind=.deferred:=by intro b a x;cases x<;>exact⟨by kernel_rfl,by kernel_rfl,by kernel_rfl⟩
theorem Ol:∀(b:Nat) (a:Fl),sA (DE prog ng b (f0 a false) 1).1=some ng.en:=by intro b a;kernel_rfl
theorem K0:∀(b:Nat) (a:Fl),kL (mN prog (f0 a false) (DE prog ng b (f0 a false) 1)).1 ng.done=true/\(mN prog (f0 a false) (DE prog ng b (f0 a false) 1)).2=[]/\(mN prog (f0 a false) (DE prog ng b (f0 a false) 1)).1.kind=.deferred:=by intro b a;exact⟨by kernel_rfl,by kernel_rfl,by kernel_rfl⟩
theorem Om:∀(b:Nat) (a:Fl),bh (DE prog ng b (f0 a true) 1).1=some (ng.wJ,[pt b 0])/\xd (DE prog ng b (f0 a true) 1)=true:=by intro b a;exact⟨by kernel_rfl,by kernel_rfl⟩
theorem On:∀(b:Nat) (a:Fl),bh (D6 prog ng b (f0 a true)).1=some (ng.Jv,[pt b 0,u64 0])/\xd (D6 prog ng b (f0 a true))=true:=by intro b a;exact⟨by kernel_rfl,by kernel_rfl⟩
theorem Oo:∀(b:Nat) (a:Fl),bh (D7 prog ng b (f0 a true)).1=some (ng.oO,[pt b 1,ff,i64 0])/\xd (D7 prog ng b (f0 a true))=true:=by intro b a;exact⟨by kernel_rfl,by kernel_rfl⟩
theorem Oq:∀(b:Nat) (a:Fl),sA (D8 prog ng b (f0 a true)).1=some ng.en:=by intro b a;kernel_rfl
theorem Ot:∀(b:Nat) (a:Fl),kL (mN prog (f0 a true) (D8 prog ng b (f0 a true))).1 ng.done=true/\(mN prog (f0 a true) (D8 prog ng b (f0 a true))).2=[]/\(mN prog (f0 a true) (D8 prog ng b (f0 a true))).1.kind=.deferred:=by intro b a;exact⟨by kernel_rfl,by kernel_rfl,by kernel_rfl⟩
theorem Ou:∀(b:Nat) (τ:adP),bh (W0 prog ng b τ).1=some (ng.jR,[])/\(W0 prog ng b τ).1.env.all plain=true/\(W0 prog ng b τ).2=[]/\(W0 prog ng b τ).1.kind=τ:=by intro b τ;exact⟨by kernel_rfl,by kernel_rfl,by kernel_rfl,by kernel_rfl⟩
theorem Ov:∀(b:Nat) (τ:adP),bh (W1 prog ng b τ).1=some (ng.wJ,[pt b 0])/\xd (W1 prog ng b τ)=true/\(W1 prog ng b τ).1.env.all plain=true/\(W1 prog ng b τ).2.all (·.env.all plain)=true:=by intro b τ;exact⟨by kernel_rfl,by kernel_rfl,by kernel_rfl,by kernel_rfl⟩
theorem Ow:∀(b:Nat) (τ:adP) (a:Fl),bh (WE prog ng b τ (f0 a true)).1=some (ng.en,[])/\(WE prog ng b τ (f0 a true)).1.kind=τ:=by intro b τ a;exact⟨by kernel_rfl,by kernel_rfl⟩
theorem Ox:∀(b:Nat) (τ:adP) (a:Fl),kY (WC prog ng b τ (f0 a true)).1=some (ng.tG,ng.tU,pt b 0):=by intro b τ a;kernel_rfl
theorem Oy:∀(b:Nat) (τ:adP) (a:Fl),bh (WA prog ng b τ (f0 a true)).1=some (ng.acq,[pt b 0])/\(WA prog ng b τ (f0 a true)).1.kind=τ:=by intro b τ a;exact⟨by kernel_rfl,by kernel_rfl⟩
theorem Oz:∀(b:Nat) (τ:adP) (a:Fl),kL (WB prog ng b τ (f0 a true)).1 ng.wait=true/\(WB prog ng b τ (f0 a true)).2=[]/\(WB prog ng b τ (f0 a true)).1.kind=τ:=by intro b τ a;exact⟨by kernel_rfl,by kernel_rfl,by kernel_rfl⟩
theorem OA:∀(b:Nat) (τ:adP) (a:Fl),bh (WE prog ng b τ (f0 a false)).1=some (ng.ym,[pt b 0,.eZ 0,.eZ 1])/\xd (WE prog ng b τ (f0 a false))=true:=by intro b τ a;exact⟨by kernel_rfl,by kernel_rfl⟩
theorem OB:∀(b:Nat) (τ:adP) (a:Fl),Ii [5] [[0]] (next prog (f0 a false) (WE prog ng b τ (f0 a false)) ff)=W1 prog ng b τ:=by intro b τ a;kernel_rfl
theorem OC:∀(b:Nat) (τ:adP) (a:Fl),kY (W3 prog ng b τ (f0 a false)).1=some (ng.tS,ng.tU,pt b 1):=by intro b τ a;kernel_rfl
theorem OD:∀(b:Nat) (τ:adP) (a:Fl),bh (Uw prog ng b τ (f0 a false)).1=some (ng.wr,[pt b 1])/\(Uw prog ng b τ (f0 a false)).1.kind=τ:=by intro b τ a;exact⟨by kernel_rfl,by kernel_rfl⟩
theorem OE:∀(b:Nat) (τ:adP) (a:Fl),bh (W4 prog ng b τ (f0 a false)).1=some (ng.Gb,[pt b 1,ff])/\(W4 prog ng b τ (f0 a false)).1.kind=τ:=by intro b τ a;exact⟨by kernel_rfl,by kernel_rfl⟩
theorem OF:∀(b:Nat) (τ:adP) (a:Fl),bh (W5 prog ng b τ (f0 a false)).1=some (ng.wJ,[pt b 0])/\xd (W5 prog ng b τ (f0 a false))=true:=by intro b τ a;exact⟨by kernel_rfl,by kernel_rfl⟩
theorem OG:∀(b:Nat) (τ:adP) (a:Fl),bh (Ux prog ng b τ (f0 a false)).1=some (ng.en,[])/\(Ux prog ng b τ (f0 a false)).1.kind=τ:=by intro b τ a;exact⟨by kernel_rfl,by kernel_rfl⟩
theorem OH:∀(b:Nat) (τ:adP) (a:Fl),kY (VK prog ng b τ (f0 a false)).1=some (ng.tG,ng.tU,pt b 0):=by intro b τ a;kernel_rfl
theorem OI:∀(b:Nat) (τ:adP) (a:Fl),bh (Uy prog ng b τ (f0 a false)).1=some (ng.acq,[pt b 0])/\(Uy prog ng b τ (f0 a false)).1.kind=τ:=by intro b τ a;exact⟨by kernel_rfl,by kernel_rfl⟩
theorem OJ:∀(b:Nat) (τ:adP) (a:Fl),kL (RU prog ng b τ (f0 a false)).1 ng.wait=true/\(RU prog ng b τ (f0 a false)).2=[]/\(RU prog ng b τ (f0 a false)).1.kind=τ:=by intro b τ a;exact⟨by kernel_rfl,by kernel_rfl,by kernel_rfl⟩
theorem Se:iu prog ng where
 a0:=N8
 a1:=N9
 a2:=Oa
 a3:=Ob
 a4:=Oc
 a5:=Od
 a6:=Oe
 d0:=Of
 d1:=Og
 d2:=Oh
 d3:=Oi
 d4:=Oj
 d5:=Ok
 Zj:=KZ
 d6:=Ol
 Zk:=K0
 d7:=Om
 d8:=On
 d9:=Oo
 da:=Oq
 db:=Ot
 w0:=Ou
 w1:=Ov
 w2:=Ow
 w3:=Ox
 w4:=Oy
 w5:=Oz
 w6:=OA
 w7:=OB
 w8:=OC
 w9:=OD
 wa:=OE
 wb:=OF
 wc:=OG
 wd:=OH
 we:=OI
 wf:=OJ
theorem Sf:iW prog ng where
 jR:=⟨_,rfl,rfl,rfl,rfl,rfl⟩
 en:=⟨_,rfl,rfl,rfl,rfl,rfl⟩
 acq:=⟨_,rfl,rfl,rfl,rfl,rfl⟩
 rel:=⟨_,rfl,rfl,rfl,rfl,rfl⟩
 rd:=⟨_,rfl,rfl,rfl,rfl,rfl⟩
 wr:=⟨_,rfl,rfl,rfl,rfl,rfl⟩
 Qs:=⟨_,rfl,rfl,rfl,rfl,rfl⟩
 tz:=⟨_,rfl,rfl,rfl,rfl,rfl⟩
 wJ:=⟨_,rfl,rfl,rfl,rfl,rfl⟩
 Jv:=⟨_,rfl,rfl,rfl,rfl,rfl⟩
 ym:=⟨_,rfl,rfl,rfl,rfl,rfl⟩
 Gb:=⟨_,rfl,rfl,rfl,rfl,rfl⟩
 oO:=⟨_,rfl,rfl,rfl,rfl,rfl⟩
 Zl:=⟨_,rfl,rfl,rfl⟩
 Zm:=⟨_,rfl,rfl,rfl⟩
 SU:=⟨_,_,rfl,rfl,rfl,rfl⟩
 MA:=⟨_,_,rfl,rfl,rfl,rfl⟩
 MB:=⟨_,_,rfl,rfl,rfl,rfl⟩
end
open Go.ck Go.Conc
variable{m:Mo}{σ:ab}{KF:adw}
theorem Tv:mP prog nn:=⟨⟨_,_,Tryz.func104,rfl,rfl,rfl⟩,⟨_,_,Tryz.func105,rfl,rfl,rfl⟩⟩
section
variable{b mb:Nat}{f:Fr}{A:bQ}{j:Nat}{begun:adK}
theorem Hd{b}(a:A.ng=ng){body}(hb:Tryz.f183.body=some body):aa prog (yq prog A) 183 4 none [] [.code body] ⟨dG [.ref A.gb 0,.cp (.chan A.cF) 0],ki A.fb,[],.told .deferred [cO prog] b⟩ (λ_ _=>False):=by
 simp only[Tryz.f183,kn]at hb;subst hb;refine aa.runN lay [] 2 ?_;simp;refine aa.Nk rfl (by rw[a];rfl) rfl (by simp) (by rw[a];exact Tryz.func106) rfl rfl rfl ?_;apply rn;simp;exact aa.GC rfl rfl (by simp) rfl rfl rfl rfl rfl Tryz.func183 rfl rfl
theorem zc{T}(U:A.fb=b/\A.mb=mb/\A.fo=6/\A.nm=nn/\A.ng=ng/\A.dir=false)(V:∀x,A.GI x↔∃l,x=mapA .u8 l/\lC f l)(W:f.Good)(N:A.res j=ι (aH f begun).length)(t:begun.length<1152921504606846976)(hlen:(aH f begun).length<1152921504606846976){body}(hb:Tryz.f182.body=some body):
 aa prog (iO prog A j) 182 13 none [] [.code body] ⟨dG [.ref A.gb 0,.cp (mH b mb f 0) 0,.cp (ints begun) 0,.cp (.chan A.cF) 0],ki A.fb,[],.told .deferred [cO prog] T⟩ (λ_ _=>False):=by
 obtain⟨rfl,rfl,u,v,m,g⟩:=U;simp only[Tryz.f182,kn]at hb;subst hb;have O:=Nm (P:=prog) (A:=A) g (j:=j) (kd:=.u8) V;rw[u,v]at O;apply rn;simp;refine aa.defer rfl rfl rfl rfl (by simp) rfl ?_
 apply rn;simp;refine bP.intro λcn X=>?_
 simp;refine cf Tryz.func119 rfl (CU (begun:=begun) (sp:=.any) ?_);apply rn;simp;refine aa.rangeFunc rfl λw r l y Q n=>?_
 obtain⟨r1,Y,y⟩:=ab.aN y;obtain⟨Z,q,Q⟩:=ab.aN Q;generalize o:xx.mk _ _ _ _ _ _ _ _ _=z
 have hY:UJ (iO prog A j) (.fn (.yield l) [] []) (aH f begun) (λk F a=>(∀c,F c↔c=l\/c=cn)/\a l=some (.loop z)/\a cn=some (.cells [ι k])) (λF a=>False):=by
  refine⟨λk F a a7 hk i hT hF=>?_,λk F B C he i=>?_,λF B C he i=>i.elim,λk F a c i h=>?_⟩
  . obtain⟨d,s,D⟩:=i
    have e3:∀x,(a.set l x) cn=some (.cells [ι k]):=λx=>(ab.ah _ _ q).trans D
    have f1:-9223372036854775808<=(k:Int)+1/\(k:Int)+1<=9223372036854775807:=by omega
    subst o;refine cq.xZ (ω:=[]) w Tryz.func182 s rfl ?_;apply rn;simp[nB];refine aa.beginRound s rfl ?_;apply rn;simp[e3,f1.1,f1.2];refine⟨rfl,rfl,_,((ab.ah _ _ Z).trans (ab.ai _ _ _)),?_⟩;refine hT F _ (λc x h hx=>⟨?_,h⟩) ⟨d,ab.ai _ _ _,(ab.ah _ _ q).trans (ab.ai _ _ _)⟩
    have R:c≠l:=λe=>h ((d c).2 (.inl e))
    have c2:c≠cn:=λe=>h ((d c).2 (.inr e))
    exact(ab.ah _ _ R).trans ((ab.ah _ _ c2).trans ((ab.ah _ _ R).trans hx))
  . simp_all
  . obtain⟨d,s,D⟩:=i
    rcases(d c).1 h with rfl|rfl
    . exact⟨_,s,rfl⟩
    . exact⟨_,D,rfl⟩
 have hu:Zt A.fb (((ki A.fb).set cn (.cells [ι 0])).set r (.raw (.deferred (some [])))|>.set l (.loop z)):=by
  have h0:(ki A.fb) A.fb=some .iB:=by simp[ki]
  have E:A.fb≠cn:=λe=>by simp_all
  have S:A.fb≠r:=λe=>by simp_all
  have G:A.fb≠l:=λe=>by simp_all
  show _=_;rw[ab.ah _ _ G,ab.ah _ _ S,ab.ah _ _ E];exact h0
 have nb:∀c,(ki A.fb) c=none->c≠A.fb:=λc h e=>by subst e;simp[ki]at h
 have sr:(((ki A.fb).set cn (.cells [ι 0])).set r (.raw (.deferred (some [])))|>.set l (.loop z)) r=some (.raw (.deferred (some []))):=(ab.ah _ _ n).trans (ab.ai _ _ _)
 refine eS Tryz.func155 rfl rfl rfl (y8 (F:=λc=>c=l\/c=cn) O W t hY ⟨rfl,rfl⟩ hu ⟨λc=>abr,ab.ai _ _ _,(ab.ah _ _ q).trans ((ab.ah _ _ Y).trans (ab.ai _ _ _))⟩ λF' a H I p=>?_)
 have J:=(H r _ sr (λe=>by omega) (nb r y) (.inr rfl)).1
 rcases p with⟨_,E,S⟩|hE
 . subst o
   refine⟨_,E,by simp,rfl,?_⟩
   have K:(a.del l) cn=some (.cells [ι (aH f begun).length]):=by simp only[ab.del,q,zD];omega
   have L:(a.del l) A.fb=some .iB:=by
    have G:A.fb≠l:=λe=>by grind
    simp only[ab.del,G,zD];exact I
   have M:(a.del l) r=some (.raw (.deferred (some []))):=by simp only[ab.del,n,zD];exact J
   apply rn;simp[K];refine aa.Nj g rfl rfl (by simp) rfl rfl (by simp_all) L rfl rfl Tryz.func182 rfl (by rw[m];exact Tryz.func102) rfl rfl ?_
   apply rn;simp;refine⟨rfl,.inl rfl,⟨_,rfl⟩,r,by rw[m],M⟩
 simp_all
end
def jZ(j:Nat):adK:=if j=0 then[0,0]else[0,1]
def er(f:Fr):Int:=if f.aA.length<2 then 1 else(aH f [0,0]).length+(aH f [0,1]).length
theorem Sg{v d}(l:v.cells=[v])(m:d.cells=[d])(h:v.W d):(AV.cp v 0).W (.cp d 0):=λk x n=>by
 cases n with
 | cp b base off N E v c o p f g=>
   rw[l]at p f g;refine .cp b base 0 N E d c o (by simp_all) (λj i=>f j (by simp_all)) (λj a e=>?_);rw[m]at e;have i:j=0:=by grind
   subst i;simp at e;subst e;exact h k _ (g 0 v rfl)
section
variable{b mb:Nat}{f:Fr}
theorem OK(U:m.solo=true)(A:f.Good)(hlen:(aH f [0,0]).length<1000000000/\(aH f [0,1]).length<1000000000)(q:b≠mb)(L:UG b 6 mb .u8 (lC f) σ)(h:∀σ',UG b 6 mb .u8 (lC f) σ'->pJ b mb σ σ'->KF (.val (ι (er f))) σ'):aB prog m 150 [mH b mb f 0] σ KF:=by
 have h6:=A.nK;unfold er at h;refine fs [] Tryz.func150 rfl (by kernel_rfl) ?_
 simp[Tryz.f150]
 by_cases M:f.aA.length<2
 . have k:(f.aA.length:Int)<2:=by omega
   rw[zR M]at h;simp[k];exact .done (h σ L (pJ.refl b mb σ))
 have k:¬(f.aA.length:Int)<2:=by omega
 rw[zA M]at h;obtain⟨V,lm,N,W⟩:=L;simp[k];refine EF lay rfl IE rfl sF rfl (by decide) λcF X=>?_
 apply rn;simp;refine bP.intro λy r=>?_
 obtain⟨n1,Y,r⟩:=ab.aN r;simp;refine bP.intro λgb g=>?_
 obtain⟨Z,n4,g⟩:=ab.aN g;obtain⟨n5,O,g⟩:=ab.aN g;simp;have P:cF≠b:=λe=>by simp_all
 have Q:cF≠mb:=λe=>by simp_all
 have b3:y≠b:=λe=>by simp_all
 have m3:y≠mb:=λe=>by simp_all
 have s:gb≠b:=λe=>by simp_all
 have gm:gb≠mb:=λe=>by simp_all
 refine aa.bE 3 (b:=y) (.chan cF) (by simp[n4,ab.ah]) (by simp) rfl ?_
 refine aa.cj U ⟨2,false,cF,b,6,gb,mb,λx=>∃l,x=mapA .u8 l/\lC f l,λj=>ι (aH f (jZ j)).length,λ_=>.tuple #[],nn,ng,by omega,P,O,Q,wK s,q,gm⟩ rfl Se Sf Br Bs Tv (tm:=false) (a:=mapA .u8 lm) (by simp[ab.del,ab.ah,Y,O]) (by simp[ab.del,Z]) (by simp[ab.del,ab.set,wK b3,wK s,wK P,V]) (by simp[ab.del,ab.set,wK m3,wK gm,wK Q,N]) (by simp[mapA,nC]) ⟨lm,rfl,W⟩ rfl λpb a7 Fin kd a8 k0 t=>?_
 refine aa.vd ?_;refine aa.runN lay [] 18 ?_;simp;refine bP.intro λB C=>?_
 have d:B≠b:=λe=>by simp_all
 simp
 change aa _ _ _ _ _ _ _ _ _
 refine aa.bE 6 (b:=B) (.sl 1 [ι 0,ι 0] .exact) (ab.ai _ _ _) (by simp) rfl ?_
 refine aa.IC 6 (a':=.cp (ints [0,0]) 0) (by simp;exact Sg rfl rfl (iK 1 [ι 0,ι 0] .exact)) ?_
 refine aa.Ni rfl rfl rfl (by simp) Tryz.func100 rfl rfl rfl ?_
 apply rn;simp;refine aa.vM (hold':=[]) rfl rfl rfl (by simp) rfl Tryz.func182 rfl rfl (by simp_all) (by simp[iw.at,ab.del,ab.set,wK d]) (by kernel_rfl) (λR=>zc (b:=b) (mb:=mb) (f:=f) (begun:=[0,0]) ⟨rfl,rfl,rfl,rfl,rfl,iw.yE _ _ _⟩ (λx=>abr) A rfl (by simp) (by omega) rfl) ?_
 apply rn;simp;refine aa.again (by kernel_rfl) ?_
 refine aa.runN lay [] 18 ?_;simp;refine bP.intro λD u=>?_
 have n:D≠b:=λe=>by subst e;simp[ab.del,ab.set,wK d]at u
 simp
 change aa _ _ _ _ _ _ _ _ _
 refine aa.bE 6 (b:=D) (.sl 1 [ι 0,ι 1] .exact) (ab.ai _ _ _) (by simp) rfl ?_
 refine aa.IC 6 (a':=.cp (ints [0,1]) 0) (by simp;exact Sg rfl rfl (iK 1 [ι 0,ι 1] .exact)) ?_
 refine aa.Ni rfl rfl rfl (by simp) Tryz.func100 rfl rfl rfl ?_
 apply rn;simp;refine aa.vM (hold':=[]) rfl rfl rfl (by simp) rfl Tryz.func182 rfl rfl (by simp_all) (by simp[iw.at,ab.del,ab.set,wK n,wK d]) (by kernel_rfl) (λR=>zc (b:=b) (mb:=mb) (f:=f) (begun:=[0,1]) ⟨rfl,rfl,rfl,rfl,rfl,iw.yE _ _ _⟩ (λx=>abr) A rfl (by simp) (by omega) rfl) ?_
 apply rn;simp;refine aa.again (by kernel_rfl) ?_
 apply rn;simp;refine aa.Yk (by exact iw.yE _ _ _) (hold':=[]) rfl rfl rfl (by simp) rfl Tryz.func183 rfl rfl (by simp_all) (by simp[iw.at,ab.del,ab.set,wK n,wK d]) (by kernel_rfl) (λR=>Hd rfl rfl) ?_
 apply rn;simp;refine aa.vd ?_;apply rn;simp;refine aa.IB lay rfl rfl IE rfl sF (by simp) rfl rfl λi E=>?_
 have a9:∀j,(aH f (jZ j)).length<1000000000:=λj=>by unfold jZ;grind
 have f1:-9223372036854775808<=((aH f (jZ i)).length:Int)/\((aH f (jZ i)).length:Int)<=9223372036854775807:=by grind
 apply rn;simp[iw.at,f1.1,f1.2];refine aa.again (by kernel_rfl) ?_
 apply rn;simp;refine aa.IB lay rfl rfl IE rfl sF (by simp) rfl rfl λo F=>?_
 have S:-9223372036854775808<=((aH f (jZ i)).length:Int)+((aH f (jZ o)).length:Int)/\((aH f (jZ i)).length:Int)+((aH f (jZ o)).length:Int)<=9223372036854775807:=by grind
 apply rn;simp[S.1,S.2];refine aa.again (by kernel_rfl) ?_
 apply rn;simp;refine aa.CE lay rfl rfl IE rfl sF (by simp) rfl rfl (by simp[ab.del,ab.set,wK n,wK d]) rfl t λa ha=>?_
 apply rn;simp
 have v:((aH f (jZ i)).length:Int)+((aH f (jZ o)).length:Int)=((aH f [0,0]).length:Int)+((aH f [0,1]).length:Int):=by
  have p:i∈List.range 2:=E;have z:o∈(List.range 2).erase i:=F;have:i=0\/i=1:=by simp_all
  rcases this with rfl|rfl
  . have:o=1:=by simp_all
    subst this;rfl
  . have:o=0:=by simp_all
    subst this;exact Int.add_comm _ _
 rw[v];obtain⟨la,rfl,G⟩:=ha;refine .done (h _ ⟨ab.ai _ _ _,la,(ab.ah _ _ (wK q)).trans (ab.ai _ _ _),G⟩ λc x p z w=>?_)
 have H:c≠mb:=λe=>by
  subst e;rw[N]at p;cases p
  rcases w with w|w
  . exact w rfl
  . cases w
 have I:c≠cF:=λe=>by simp_all
 have J:c≠y:=λe=>by simp_all
 have K:c≠gb:=λe=>by simp_all
 have T:c≠B:=λe=>by subst e;simp[ab.del,ab.set,H,I,J,K,z,p]at C
 have e6:c≠D:=λe=>by subst e;simp[ab.del,ab.set,H,I,J,K,T,z,p]at u
 simp[ab.del,ab.set,H,I,J,K,T,e6,z,p]
end
section
variable{b mb:Nat}{f:Fr}{Un:adO}{Ld:ab->adr->Prop}
theorem He(Q:Nl prog m nn b 6 mb .u8 (lC f) Un Ld)(hf:f.Good){G p}(z:G.cells=[G]/\G.flat=true)(U:∀w∈aH f [],∀  σ   KF ,KF (.val (ψ (p w))) σ->cq prog m G [ints w] σ KF)(hlen:(aH f []).length<1152921504606846976)(hu:Un σ)
 (h:∀σ',Un σ'->pJ b mb σ σ'->KF (.val (.cH [ι (((aH f []).filter p).length),ι (aH f []).length])) σ'):aB prog m 85 [mH b mb f 0,G] σ KF:=by
 refine fs Wq Tryz.func85 rfl (by kernel_rfl) ?_
 simp[Tryz.f85,z.1,z.2];refine bP.intro λj h6=>?_
 simp;refine bP.intro λd h7=>?_
 obtain⟨R,z2,h7⟩:=ab.aN h7;simp[R,z2,ab.ah];have hW:Wl [mH b mb f 0,AV.lit (.slice none 0 0)] [mH b mb f 0,ints []]:=.cons (.refl _) (.cons (gZ 1) .nil);refine cA Tryz.func119 rfl rfl hW (CU (begun:=[]) ?_);apply rn;simp;refine aa.rangeFunc rfl λV r l t u H=>?_
 obtain⟨a1,_,t⟩:=ab.aN t;obtain⟨a2,_,t⟩:=ab.aN t;obtain⟨_,_,t⟩:=ab.aN t;obtain⟨_,_,t⟩:=ab.aN t;obtain⟨a3,_,u⟩:=ab.aN u;obtain⟨a4,_,u⟩:=ab.aN u;obtain⟨_,_,u⟩:=ab.aN u;obtain⟨_,_,u⟩:=ab.aN u;have I:σ r=none/\r≠j/\r≠d:=⟨t,a2,a1⟩;have a:σ l=none/\l≠j/\l≠d:=⟨u,a4,a3⟩;generalize J:xx.mk _ _ _ _ _ _ _ _ _=K
 have hY:UJ m (.fn (.yield l) [] []) (aH f []) (λk F σ'=>(∀c,F c↔c=l\/c=j\/c=d)/\σ' l=some (.loop K)/\σ' j=some (.cells [ι ((((aH f []).take k).filter p).length)])/\σ' d=some (.cells [ι k])) (λF σ'=>False):=by
  refine⟨λk F σ' av hk D hT hF=>?_,λk F W n he D=>?_,λF W n he D=>D.elim,λk F σ' c D o=>?_⟩
  . obtain⟨i,S,X,Y⟩:=D
    have e7:∀x,(σ'.set l x) d=some (.cells [ι k]):=λx=>(ab.ah _ _ (wK a.2.2)).trans Y
    have f1:-9223372036854775808<=(k:Int)+1/\(k:Int)+1<=9223372036854775807:=by omega
    have ax:(((aH f []).take k).filter p).length<=k:=aaH (abP _ _) (by grind)
    have f2:-9223372036854775808<=((((aH f []).take k).filter p).length:Int)+1/\((((aH f []).take k).filter p).length:Int)+1<=9223372036854775807:=by omega
    have Z:(((aH f []).take (k+1)).filter p).length=(((aH f []).take k).filter p).length+if p (aH f [])[k]then 1 else 0:=by
     rw[xC hk,ack,aaI]
     grind
    have L:(aH f [])[k]∈aH f []:=xE hk;subst J;refine cq.xZ (ω:=Wq) V Tryz.func85 S rfl ?_;apply rn;simp[nB];refine aa.beginRound S rfl ?_;apply rn;simp[e7,f1.1,f1.2,z.1];refine U _ L _ _ ?_;have e6:∀x y,((σ'.set l x).set d y) j=some (.cells [ι ((((aH f []).take k).filter p).length)]):=λx y=>(ab.ah _ _ (wK R)).trans ((ab.ah _ _ (wK a.2.1)).trans X)
    cases hp:p (aH f [])[k]
    . apply rn
      simp;refine⟨rfl,rfl,_,((ab.ah _ _ a.2.2).trans (ab.ai _ _ _)),?_⟩;refine hT F _ (λc x o hx=>⟨?_,o⟩) ⟨i,ab.ai _ _ _,?_,(ab.ah _ _ (wK a.2.2)).trans (ab.ai _ _ _)⟩
      . have A:c≠l:=λe=>o ((i c).2 (.inl e))
        have M:c≠d:=λe=>o ((i c).2 (.inr (.inr e)))
        exact(ab.ah _ _ A).trans ((ab.ah _ _ M).trans ((ab.ah _ _ A).trans hx))
      refine(ab.ah _ _ (wK a.2.1)).trans ((e6 _ _).trans ?_)
      simp_all
    apply rn;simp[e6,f2.1,f2.2];refine⟨rfl,rfl,_,((ab.ah _ _ a.2.1).trans ((ab.ah _ _ a.2.2).trans (ab.ai _ _ _))),?_⟩;refine hT F _ (λc x o hx=>⟨?_,o⟩) ⟨i,ab.ai _ _ _,?_,(ab.ah _ _ (wK a.2.2)).trans ((ab.ah _ _ R).trans (ab.ai _ _ _))⟩
    . have A:c≠l:=λe=>o ((i c).2 (.inl e))
      have T:c≠j:=λe=>o ((i c).2 (.inr (.inl e)))
      have M:c≠d:=λe=>o ((i c).2 (.inr (.inr e)))
      exact(ab.ah _ _ A).trans ((ab.ah _ _ T).trans ((ab.ah _ _ M).trans ((ab.ah _ _ A).trans hx)))
    refine(ab.ah _ _ (wK a.2.1)).trans ((ab.ai _ _ _).trans ?_)
    simp_all
  . simp_all
  obtain⟨i,S,X,Y⟩:=D
  rcases(i c).1 o with rfl|rfl|rfl
  . exact⟨_,S,rfl⟩
  . exact⟨_,X,rfl⟩
  exact⟨_,Y,rfl⟩
 obtain⟨xb,ay,aC⟩:=Q.UF hu;have nb:∀c,σ c=none->c≠b:=λc o e=>by simp_all
 have N:σ.Le ((((((σ.set j (.cells [ι 0])).set d (.cells [ι 0])).set j (.cells [ι 0])).set d (.cells [ι 0])).set r (.raw (.deferred (some [])))).set l (.loop K)):=(by repeat (first|exact ab.le_refl _|assumption|refine ab.dQ ?_ (by assumption)|refine ab.ma ?_ (by assumption)))
 have sr:((((((σ.set j (.cells [ι 0])).set d (.cells [ι 0])).set j (.cells [ι 0])).set d (.cells [ι 0])).set r (.raw (.deferred (some [])))).set l (.loop K)) r=some (.raw (.deferred (some []))):=(ab.ah _ _ H).trans (ab.ai _ _ _);have s7:((((((σ.set j (.cells [ι 0])).set d (.cells [ι 0])).set j (.cells [ι 0])).set d (.cells [ι 0])).set r (.raw (.deferred (some [])))).set l (.loop K)) d=some (.cells [ι 0]):=(ab.ah _ _ (wK a.2.2)).trans ((ab.ah _ _ (wK I.2.2)).trans (ab.ai _ _ _))
 have s6:((((((σ.set j (.cells [ι 0])).set d (.cells [ι 0])).set j (.cells [ι 0])).set d (.cells [ι 0])).set r (.raw (.deferred (some [])))).set l (.loop K)) j=some (.cells [ι 0]):=(ab.ah _ _ (wK a.2.1)).trans ((ab.ah _ _ (wK I.2.1)).trans ((ab.ah _ _ (wK R)).trans (ab.ai _ _ _)));refine eS Tryz.func155 rfl rfl rfl (y8 (F:=λc=>c=l\/c=j\/c=d) Q hf (by simp) hY ⟨rfl,rfl⟩ (Q.un (λc _ ⟨x,s,_⟩=>(N _ _ s).trans s.symm) hu) ⟨λc=>abr,ab.ai _ _ _,by simp_all,by omega⟩ λF' σ' O a7 v=>?_)
 have P:=(O r _ sr (λe=>by omega) (nb r t) (.inr rfl)).1
 have B:pJ b mb σ σ':=λc x s E C=>(O c x (N c x s) (λe=>by grind) E C).1
 have a8:∀n,n=(σ'.del l).set r (.raw (.deferred none))->Un n/\pJ b mb σ n:=λn e=>by
  subst e;refine⟨Q.un (σ:=σ') (λc _ ⟨x,s,E⟩=>?_) a7,λc x s E C=>?_⟩
  . have c1:c≠r:=λe=>by subst e;rw[P]at s;cases s;cases E
    have c2:c≠l:=λe=>by
     subst e
     rcases v with⟨_,g,_⟩|g
     . rw[g]at s;cases s;cases E
     omega
    rw[ab.ah _ _ c1];simp[ab.del,c2]
  have c1:c≠r:=λe=>by simp_all
  have c2:c≠l:=λe=>by simp_all
  rw[ab.ah _ _ c1];simp only[ab.del,c2,zD];exact B c x s E C
 rcases v with⟨_,A,T,M⟩|q
 . rw[aaF]at T
   subst J;refine⟨_,A,by simp,rfl,?_⟩
   have a9:(σ'.del l) j=some (.cells [ι ((aH f []).filter p).length]):=by simp only[ab.del,wK a.2.1,zD];exact T
   have ad:(σ'.del l) d=some (.cells [ι (aH f []).length]):=by simp only[ab.del,wK a.2.2,zD];exact M
   apply rn;simp[a9,ad];apply rn;simp;refine⟨by simp only[ab.del,H,zD];exact P,.done ?_⟩
   simp_all
 simp_all
end
theorem Bt  f   begun :∀  fuel   cM   many   c ,∀w∈fJ f begun fuel cM many c,w.length=cM.length+fuel
 |0,cM,many,c,w,b=>by simp[fJ]at b;grind
 | fuel+1,cM,many,c,w,b=>by
   rw[sG,acs]at b;obtain⟨k,_,a⟩:=b;unfold pK at a;split at a
   . cases a
   split at a
   . have:=Bt f begun fuel _ _ _ w a
     grind
   . cases a
section
variable{b mb:Nat}{f:Fr}{Un:adO}{Ld:ab->adr->Prop}
def jD(x y:Int)(w:adK):Bool:=decide (w.getD x.toNat 0=w.getD y.toNat 0)
theorem OL{w x y}(a:0<=x/\x.toNat<w.length)(b:0<=y/\y.toNat<w.length)(h:KF (.val (ψ (jD x y w))) σ):aB prog m 86 [ints w,.cp (ι x) 0,.cp (ι y) 0] σ KF:=by
 have c:w.getD x.toNat 0=w[x.toNat]:=by simp_all
 have d:w.getD y.toNat 0=w[y.toNat]:=by simp_all
 unfold jD at h;rw[c,d]at h;refine fs Yw Tryz.func86 rfl (by kernel_rfl) ?_;simp[Tryz.f86,a.1,a.2,b.1,b.2];apply rn;simp;refine .done ?_;omega
theorem Q9(c:Nl prog m nn b 6 mb .u8 (lC f) Un Ld)(d:f.Good){x y}(e:0<=x/\x.toNat<f.aA.length)(g:0<=y/\y.toNat<f.aA.length)(hlen:(aH f []).length<1152921504606846976)(i:Un σ)
 (h:∀σ',Un σ'->pJ b mb σ σ'->KF (.val (ι (iI (((aH f []).filter (jD x y)).length:Int) (aH f []).length))) σ'):aB prog m 48 [mH b mb f 0,ι x,ι y] σ KF:=by
 have a:∀w∈aH f [],w.length=f.aA.length:=λw a=>by have:=Bt f [] _ _ _ _ w a;simp_all
 refine fs [] Tryz.func48 rfl (by kernel_rfl) ?_
 simp[Tryz.f48];refine cf Tryz.func85 rfl (He c d (p:=jD x y) ⟨rfl,rfl⟩ (λw j σ KF k=>eS Tryz.func86 rfl rfl rfl (OL ⟨e.1,by simp_all⟩ ⟨g.1,by simp_all⟩ k)) hlen i λσ' l n=>?_)
 apply rn;simp;refine cf Tryz.func84 rfl (GV ?_);apply rn;simp;exact .done (h σ' l n)
end
theorem K1(r:m.solo=true){f}{l:adK}{sp}(o:f.Fits)(p:check f=0)(s:∀n∈l,0<=n/\n<f.aA.length)(j:l.length<1152921504606846976)(g:aH f []≠[])(h:∀b mb σ',b≠mb->UG b 6 mb .u8 (lC f) σ'->σ b=none/\σ mb=none->σ.Le σ'->KF (.val (.cH [mH b mb f 0,ι 0])) σ'):aB prog m 47 [dv f,.sl 1 (l.map ι) sp] σ KF:=by
 have t:=Fr.oh o p;have u:=GU p s;refine fs [] Tryz.func47 rfl (by kernel_rfl) ?_
 simp[Tryz.f47];have v:Wl [AV.agg (IF f),.sl 1 (l.map ι) sp] [dv f,ints l]:=.cons (.refl _) (.cons (iK 1 _ sp) .nil);refine cA Tryz.func82 rfl rfl v (IH o j (λq=>absurd u q) λ_ b mb σ' d=>?_)
 have w:UG b 6 mb .u8 (lC f) σ':=by rw[d.eq];exact⟨ab.ai _ _ _,[],(ab.ah _ _ (wK d.ne)).trans (ab.ai _ _ _),λn a h=>by simp[dC]at h⟩
 apply rn;simp;refine cf Tryz.func83 rfl (Q8 (EK Br Bs Tv r d.ne) t w λk y z=>?_)
 apply rn;simp[g];refine .done (h b mb k d.ne y ⟨d.hb,d.Dl⟩ λc x i=>?_)
 have A:c≠b:=λe=>by subst e;rw[d.hb]at i;cases i
 have B:c≠mb:=λe=>by subst e;rw[d.Dl]at i;cases i
 exact z c x (d.le c x i) A (.inl B)
theorem Q'(j:m.solo=true){f}{x y:Int}(k:f.Fits)(o:check f=0)(d:0<=x/\x<f.aA.length)(p:0<=y/\y<f.aA.length)(a:aH f []≠[])(hlen:(aH f []).length<1152921504606846976)(h:KF (.val (.cH [ι (iI (((aH f []).filter (jD x y)).length:Int) (aH f []).length),ι 0])) σ):aB prog m 22 [dv f,ι x,ι y] σ KF:=by
 have q:=Fr.oh k o;refine fs [] Tryz.func22 rfl (by kernel_rfl) ?_;simp[Tryz.f22];refine cf Tryz.func47 rfl (K1 (l:=[x,y]) (sp:=.exact) j k o (λn A=>by grind) (by simp) a λb mb r g s t i=>?_);apply rn;simp;refine cf Tryz.func48 rfl (Q9 (EK Br Bs Tv j g) q ⟨d.1,by omega⟩ ⟨p.1,by omega⟩ hlen s λu B v=>?_);apply rn;simp;refine .less (λc x d=>?_) (.done h);have w:c≠b:=λe=>by simp_all
 have z:c≠mb:=λe=>by simp_all
 exact v c x (i c x d) w (.inl z)
theorem OM(l:m.solo=true){f}(j:f.Fits)(k:check f=0)(hlen:(aH f [0,0]).length<1000000000/\(aH f [0,1]).length<1000000000)(h:KF (.val (.cH [ι (er f),ι 0])) σ):aB prog m 111 [dv f] σ KF:=by
 have o:=Fr.oh j k;have p:=E0 k;refine fs [] Tryz.func111 rfl (by kernel_rfl) ?_
 simp[Tryz.f111];have r:Wl [AV.agg (IF f),AV.lit (.slice none 0 0)] [dv f,ints []]:=.cons (.refl _) (.cons (gZ 1) .nil);refine cA Tryz.func82 rfl rfl r (IH j (by simp) (λq=>absurd p q) λ_ b mb i d=>?_)
 have s:UG b 6 mb .u8 (lC f) i:=by rw[d.eq];exact⟨ab.ai _ _ _,[],(ab.ah _ _ (wK d.ne)).trans (ab.ai _ _ _),λn a h=>by simp[dC]at h⟩
 apply rn;simp;refine cf Tryz.func150 rfl (OK l o hlen d.ne s λt y u=>?_)
 apply rn;simp;refine .less (λc x g=>?_) (.done h)
 have v:c≠b:=λe=>by subst e;rw[d.hb]at g;cases g
 have w:c≠mb:=λe=>by subst e;rw[d.Dl]at g;cases g
 exact u c x (d.le c x g) v (.inl w)
theorem eM{a lo hi}(h:KF (.val (ψ (bn a lo hi))) σ):aB prog m 76 [ι a,ι lo,ι hi] σ KF:=by
 refine fs [] Tryz.func76 rfl (by kernel_rfl) ?_;simp[Tryz.f76];unfold bn at h;by_cases g:lo<=a
 . simp[g]
   refine .done ?_
   simp_all
 simp[g];refine .done ?_
 simp_all
theorem qD{x}(h:KF (.val (ints (aD x))) σ):aB prog m 50 [u8 x] σ KF:=by
 refine fs [] Tryz.func50 rfl (by kernel_rfl) ?_;simp[Tryz.f50];refine aa.loop 6 (λk s=>∃env b,s=⟨env,b,[],.no⟩/\env 0=u8 x/\env 5=ι k/\Tok σ b (env 3) 1 ((((List.range k).map λn:Nat=>(n:Int)).filter λn=>gz x n).map ι)) ⟨_,_,rfl,by simp,by simp,.nil σ 1⟩ ?_;rintro l k _ o ⟨env,b,rfl,d,c,a⟩ f;rcases abC k 6 with g1|g1
 . have e:(k:Int)<6:=by omega
   have p:(((List.range k).map λn:Nat=>(n:Int)).filter λn=>gz x n).length<=k:=by grind
   have q:(((List.range (k+1)).map λn:Nat=>(n:Int)).filter λn=>gz x n)=(((List.range k).map λn:Nat=>(n:Int)).filter λn=>gz x n)++if gz x k then[(k:Int)]else[]:=by
    rw[abq,aaJ,ack]
    grind
   apply rn;simp[d,c,e,ve];have g:gz x k=(ER (x.fdiv (2 ^ min k IntKind.u8.bits)) 1==1):=by simp[gz]
   rw[<-g];cases hb:gz x k
   . simp[c]
     refine⟨by omega,f _ g1 ⟨_,_,rfl,by simp[d],by simp,?_⟩⟩
     simp_all
   simp;refine aR lay rfl rfl rfl dS rfl dS rfl sF (by decide) (by grind) (σ0:=σ) (es:=(((List.range k).map λn:Nat=>(n:Int)).filter λn=>gz x n).map ι) (xs:=[ι k]) (by simp_all) (.inr ⟨_,rfl⟩) λr i j=>?_
   apply rn;simp[c];refine⟨by omega,f _ g1 ⟨_,_,rfl,by simp[d],by simp,?_⟩⟩
   simp_all
 have:k=6:=by omega
 subst this;apply rn;simp[c];exact .pN a.W (.less a.1 (.done h))
abbrev pW(n:Nat):adK:=(List.range n).map λn:Nat=>(n:Int)
theorem vh{n}(j:n<=1000)(h:KF (.val (ints (pW n))) σ):aB prog m 74 [ι n] σ KF:=by
 refine fs [] Tryz.func74 rfl (by kernel_rfl) ?_;simp[Tryz.f74];refine aa.loop n (λk s=>∃env b,s=⟨env,b,[],.no⟩/\env 5=ι n/\env 6=ι k/\Tok σ b (env 3) 1 ((pW k).map ι)) ⟨_,_,rfl,by simp,by simp,.nil σ 1⟩ ?_;rintro l k _ o ⟨env,b,rfl,c,d,a⟩ g;rcases abC k n with g1|g1
 . have e:(k:Int)<n:=by omega
   have f1:-9223372036854775808<=(k:Int)+1/\(k:Int)+1<=9223372036854775807:=by omega
   apply rn;simp[c,d,e];refine aR lay rfl rfl rfl dS rfl dS rfl sF (by decide) (by grind) (σ0:=σ) (es:=(pW k).map ι) (xs:=[ι k]) (by simp_all) (.inr ⟨_,rfl⟩) λp i f=>?_
   apply rn;simp[d];refine⟨by omega,g _ g1 ⟨_,_,rfl,by simp[c],by simp,?_⟩⟩;rw[show pW (k+1)=pW k++[(k:Int)]by unfold pW;rw[abq,aaJ];rfl,aaJ];exact f
 have:k=n:=by omega
 subst this;apply rn;simp[c,d];exact .pN a.W (.less a.1 (.done h))
theorem ON(h:KF (.val (.agg [u8 1,u8 2,u8 4])) σ):aB prog m 87 [] σ KF:=by
 refine aB.GJ lay [] [] 3 0 Tryz.func87 rfl rfl (by rfl) (by kernel_rfl) ?_;simp[Tryz.f87];refine bP.intro λc a=>?_
 simp;change aa _ _ _ _ _ _ _ _ _;refine aa.runN lay [] 3 ?_;simp;change aa _ _ _ _ _ _ _ _ _;refine aa.op rfl (cd rfl) (by simp) (λc=>by simp) (qz lay rfl Wk rfl Nt (l:=[u8 1,u8 2,u8 4]) (by simp) rfl ?_);apply rn;simp;refine .less ?_ (.done h);exact ab.dQ (ab.le_refl _) a
theorem Hf{n}{t:Nat}(a:t=if n=1 then 98 else if n=3 then 241 else 167)(h:KF (.val (.mL t (.agg []))) σ):aB prog m 115 [ι n] σ KF:=by
 subst a;refine fs [] Tryz.func115 rfl (by kernel_rfl) ?_;simp[Tryz.f115];by_cases g:n=1
 . subst g
   simp;exact .done h
 by_cases b:n=3
 . subst b
   simp;exact .done h
 have c:(n==1)=false:=by grind
 have d:(n==3)=false:=by simp_all
 simp[c,d];refine .done ?_
 simp_all
abbrev zd(l:List pS):List sP:=l.map (·.lost)
theorem OP{l}(p:l.length<=1000)(h:KF (.val (jb (zd l))) σ):aB prog m 112 [fV l] σ KF:=by
 refine fs [] Tryz.func112 rfl (by kernel_rfl) ?_;simp[Tryz.f112];refine aa.loop l.length (λk s=>∃env c,s=⟨env,c,[],.no⟩/\env 6=fV l/\env 7=ι l.length/\env 8=ι k/\Tok σ c (env 3) 6 ((zd (l.take k)).map bb)) ⟨_,_,rfl,by simp,by simp,by simp,.nil σ 6⟩ ?_;rintro q k _ r ⟨env,c,rfl,j,e,f,a⟩ n;rcases abC k l.length with g1|g1
 . have g:(k:Int)<l.length:=by omega
   refine aa.runN lay [] 17 ?_;simp[j,e,f,g1,g];refine bP.intro λd hd=>?_
   simp;change aa _ _ _ _ _ _ _ _ _;refine aa.runN lay [] 1 ?_;simp;change aa _ _ _ _ _ _ _ _ _;refine aa.bE 5 (b:=d) (cT l[k]) (ab.ai _ _ _) (by simp) rfl ?_;rw[gE hd];apply rn;simp;refine aR lay rfl rfl rfl mG rfl mG rfl yS (by decide) (by grind) (σ0:=σ) (es:=(zd (l.take k)).map bb) (xs:=[bb l[k].lost]) (by simp_all) (.inr ⟨_,rfl⟩) λt o i=>?_
   apply rn;simp[f];refine⟨by omega,n _ g1 ⟨_,_,rfl,by simp[j],by simp[e],by simp,?_⟩⟩;rw[show(zd (l.take (k+1))).map bb=(zd (l.take k)).map bb++[bb l[k].lost]by unfold zd;rw[xC g1,aaJ,aaJ];rfl];exact i
 have:k=l.length:=by omega
 subst this;apply rn;simp[e,f];rw[aaF]at a;exact .pN a.W (.less a.1 (.done h))
theorem Ap{l}(f:l.length<=1000)(h:∀a σ',Tok σ σ' a 6 (l.map bb)->KF (.val a) σ'):aB prog m 128 [jb l] σ KF:=by
 refine fs [] Tryz.func128 rfl (by kernel_rfl) ?_;simp[Tryz.f128];refine B6 (es:=l.map bb) (sp:=.any) (kk:=6) lay rfl mG rfl rfl (by simp) (.inl rfl) (λb=>?_) ?_
 . have:l=[]:=by simp_all
   subst this;have c:(BinOp.eql==BinOp.eql)=true:=rfl;apply rn;simp;exact .done (h _ _ (.nil σ 6))
 have c:(BinOp.eql==BinOp.neq)=false:=rfl;apply rn;simp[c];refine aR lay rfl rfl rfl mG rfl mG rfl yS (by decide) (by grind) (σ0:=σ) (es:=[]) (xs:=l.map bb) ⟨ab.le_refl _,.inr (.inl (by simp))⟩ (.inr ⟨_,rfl⟩) λg d e=>?_
 apply rn;simp;exact .done (h _ _ (by simp_all))
theorem E6{f l}(u:f.aA.length+l.length<=1000)(h:KF (.val (dv {f with aA:=f.aA++l})) σ):aB prog m 97 [dv f,jb l] σ KF:=by
 refine aB.start lay [2] [] 2 Tryz.func97 rfl rfl (by rfl) (by kernel_rfl) ?_;simp[Tryz.f97];refine bP.intro λb hb=>?_
 simp;refine bP.intro λd hd=>?_
 obtain⟨o,j,hd⟩:=ab.aN hd;simp[j,ab.ah];refine cf Tryz.func128 rfl (Ap (by omega) λa p q=>?_);refine aa.run lay [2] ?_;simp;refine aR lay rfl rfl rfl mG rfl mG rfl yS (by decide) (by grind) (es:=f.aA.map bb) (xs:=l.map bb) q (.inr ⟨_,rfl⟩) λa' i g=>?_
 rw[<-List.map_append]at g;generalize f.aA++l=L at h g;refine aa.IC 9 (a':=jb L) (by simpa using g.W) ?_;have r:i b=some (.cells (IF f)):=g.1 _ _ (by simp[j,ab.ah]);have s:i d=some (.cells [.lit (.slice none 0 0),.lit (.slice none 0 0),ι 0,ι 0,ι 0,ι 0]):=g.1 _ _ (by simp);refine aa.run lay [2] ?_;simp[r,s,o,ab.ah];refine .less (λc x t=>?_) (.done h);have k:c≠b:=λe=>by simp_all
 have n:c≠d:=λe=>by simp_all
 rw[ab.ah _ _ n,ab.ah _ _ k];exact g.1 _ _ (by rw[ab.ah _ _ n,ab.ah _ _ k];exact t)
theorem ze(h:KF (.val (ι 0)) σ):aB prog m 107 [.lit .nilIface] σ KF:=by
 refine fs [] Tryz.func107 rfl (by kernel_rfl) ?_;simp[Tryz.f107];refine bP.intro λb hb=>?_
 simp;refine cf Tryz.func149 rfl (WM ?_);apply rn;simp;exact .less (by repeat (first|exact ab.le_refl _|assumption|refine ab.dQ ?_ (by assumption)|refine ab.ma ?_ (by assumption))) (.done h)
theorem rZ{f}(a:f.Fits)(b:check f=0)(h:KF (.val (.lit .nilIface)) σ):aB prog m 108 [dv f] σ KF:=by
 refine fs [] Tryz.func108 rfl (by kernel_rfl) ?_;simp[Tryz.f108];refine cf Tryz.func116 rfl (EZ a ?_);apply rn;simp[b];exact .done h
def jf(t:Int)(x:Way):Int:=if bn x.a 0 (t-1)=false then 3 else if bn x.b 0 (t-1)=false then 3 else if x.a=x.b then 8 else if bn x.bo 1 12=false then 1 else if bn x.aK 0 72=false then 1 else if bn x.dE 0 72=false then 1 else if x.aK>x.dE then 5 else 0
theorem CV{x t}(i:0<=t/\t<=100)(h:KF (.val (ι (jf t x))) σ):aB prog m 109 [cG x,ι t] σ KF:=by
 unfold jf at h;refine fs [] Tryz.func109 rfl (by kernel_rfl) ?_;simp[Tryz.f109];refine⟨by omega,?_⟩;refine cf Tryz.func76 rfl (eM ?_);apply rn;simp;refine vM.intro (λa=>?_) (λa=>?_)<;>(try simp at a)<;>(try simp[a]at h)<;>(try simp[a])<;>(try exact .done h);refine⟨by omega,?_⟩;refine cf Tryz.func76 rfl (eM ?_);apply rn;simp;refine aI.intro (λb=>?_) (λb=>?_)<;>(try simp at b)<;>(try simp[b]at h)<;>(try simp[b])<;>(try exact .done h);refine aI.intro (λc=>?_) (λc=>?_)<;>(try simp at c)<;>(try simp[c]at h)<;>(try simp[c])<;>(try exact .done h);refine cf Tryz.func76 rfl (eM ?_);apply rn;simp;refine vM.intro (λd=>?_) (λd=>?_)<;>(try simp at d)<;>(try simp[d]at h)<;>(try simp[d])<;>(try exact .done h)
 refine cf Tryz.func76 rfl (eM ?_);apply rn;simp;refine vM.intro (λe=>?_) (λe=>?_)<;>(try simp at e)<;>(try simp[e]at h)<;>(try simp[e])<;>(try exact .done h);refine cf Tryz.func76 rfl (eM ?_);apply rn;simp;refine aI.intro (λf=>?_) (λf=>?_)<;>(try simp at f)<;>(try simp[f]at h)<;>(try simp[f])<;>(try exact .done h);refine aI.intro (λg=>?_) (λg=>?_)<;>(try simp[-Int.not_lt,-Int.not_le]at g)<;>(try simp[g]at h)<;>(try simp[g])<;>(try exact .done h)
theorem IJ:∀{es},(∀a∈es,a.cells=[a])->flatten es=es
 |[],_=>rfl
 |a::es,h=>by rw[flatten_cons,h a (acX ..),IJ λx b=>h x (acb _ b)];rfl
theorem WW{es d sp}(n:es.length=d.length)(o:∀a∈es,a.cells=[a])(f:∀a∈d,a.cells=[a])(p:∀(i:Nat) a a',es[i]?=some a->d[i]?=some a'->a.W a'):(AV.sl 1 es sp).W (.sl 1 d .any):=λk x q=>by
 cases q with
 | sl b off cap v N E _ _ c h r s w t l y=>
   rw[IJ o]at t l;rw[n]at h ⊢;refine .sl b off cap 1 N E d .any c h r s (λe z=>by simp_all) (λj g=>?_) (λj a m=>?_) trivial
   . rw[IJ f]at g
     simp_all
   . rw[IJ f]at m
     have g:j<es.length:=by grind
     exact p j es[j] a (by simp[g]) m k _ (l j _ (by simp[g]))
 | slnil u=>
   have:d=[]:=by grind
   subst this;exact .slnil u 1 .any (.inl rfl)
theorem qE{l l'}(j:l.length=l'.length)(e:∀(i:Nat) a a',l[i]?=some a->l'[i]?=some a'->a.W a'):(AV.agg l).W (.agg l'):=λk x f=>by
 cases f with
 | agg c _ m g=>
   refine .agg c l' (by omega) λi v a' h b=>?_
   have d:i<l.length:=by grind
   exact e i l[i] a' (by simp[d]) b k v (g i v _ h (by simp[d]))
def bI(w:adK):Int:=w.foldl (λn k=>max n (k+1)) 0
def aU(c:Nat)(nums:adK)(k:Nat)(σ:ab):Prop:=∃(n:Nat) (s:Int),n<=k/\σ c=some (.cells [ints nums,ι n,.lit (.int .u64 s)])
theorem K2{nums}(h:∀c σ',σ c=none->aU c nums 0 σ'->(∀x,x≠c->σ' x=σ x)->KF (.val (.ref c 0)) σ'):aB prog m 10 [ints nums] σ KF:=by
 refine aB.start lay [5] [] 1 Tryz.func10 rfl rfl (by rfl) (by kernel_rfl) ?_;simp[Tryz.f10];refine bP.intro λc a=>?_
 simp;exact .done (h c _ a ⟨0,_,aaG _,ab.ai _ _ _⟩ λx b=>ab.ah _ _ b)
theorem Ra  a b :0<=IntKind.u64.wrap (((BitVec.ofInt 64 a ^^^ BitVec.ofInt 64 b).toNat:Nat):Int)/\IntKind.u64.wrap (((BitVec.ofInt 64 a ^^^ BitVec.ofInt 64 b).toNat:Nat):Int)<18446744073709551616:=by generalize (((BitVec.ofInt 64 a ^^^ BitVec.ofInt 64 b).toNat:Nat):Int)=x;simp only[IntKind.wrap,IntKind.signed,IntKind.bits];simp;omega
theorem OQ{x:Int}(h:0<=x/\x<18446744073709551616):0<=x.fdiv (2 ^ min 11 IntKind.u64.bits)/\x.fdiv (2 ^ min 11 IntKind.u64.bits)<9007199254740992:=by
 have e:(2:Int) ^ min 11 IntKind.u64.bits=2048:=by decide
 grind
theorem Rb{c k nums}(B:k<1000000)(C:nums.length<1152921504606846976)(hb:aU c nums k σ)(h:∀  x  σ',0<=x/\x<9007199254740992->aU c nums (k+1) σ'->(∀y,y≠c->σ' y=σ y)->KF (.val (.lit (.int .u64 x))) σ'):aB prog m 44 [.ref c 0] σ KF:=by
 obtain⟨n,s,w,l⟩:=hb;have t:-9223372036854775808<=(n:Int)+1/\(n:Int)+1<=9223372036854775807:=by omega
 obtain⟨fm,d⟩:∃f:Int->Int->Int,∀a b,pM .mul .u64 a b=some (.int .u64 (f a b)):=⟨_,λ_ _=>rfl⟩;obtain⟨D,g,r⟩:∃f:Int->Int->Int,(∀a b,pM .xor .u64 a b=some (.int .u64 (f a b)))/\∀a b,0<=f a b/\f a b<18446744073709551616:=⟨_,λ_ _=>rfl,Ra⟩;refine aB.GJ lay [] Yr 27 1 Tryz.func44 rfl rfl (by rfl) (by kernel_rfl) ?_;simp[Tryz.f44,l,t.1,t.2,aG,d];refine aa.dX (λe i=>e 0=.ref c 0/\(∃z,e 3=.lit (.int .u64 z))/\i c=some (.cells [ints nums,ι ((n:Int)+1),.lit (.int .u64 s)])/\∀y,y≠c->i y=σ y) (by simp;intro y p;exact ab.ah _ _ p) ?_;clear l;rintro env i ⟨o,⟨z,q⟩,l,j⟩;refine aa.runN lay [] 2 ?_;simp[o,l];refine aa.runN lay [] 2 ?_;simp;refine aI.intro (λu=>?_) (λu=>?_)<;>simp[-Int.not_lt,-Int.not_le,-Nat.not_lt,-Nat.not_le]at u
 . have E:(n:Int)<nums.length:=by omega
   have A:n<nums.length:=by omega
   have v:-9223372036854775808<=(n:Int)/\(n:Int)<=9223372036854775807:=by omega
   simp[o,q,l,A,v.1,v.2,d,g];refine aa.dX (λe i=>e 0=.ref c 0/\(∃z,e 3=.lit (.int .u64 z))/\i c=some (.cells [ints nums,ι ((n:Int)+1),.lit (.int .u64 s)])/\∀y,y≠c->i y=σ y) (by simp_all) ?_;clear o q l j;rintro env i ⟨o,⟨z,q⟩,l,j⟩;apply rn;simp[o,q,l,d,g,aG];refine aa.dX (λe i=>e 0=.ref c 0/\(∃s,i c=some (.cells [ints nums,ι ((n:Int)+1),.lit (.int .u64 s)]))/\∀y,y≠c->i y=σ y) (by refine⟨by simp[o],⟨_,by simp;rfl⟩,λy p=>?_⟩;simp[ab.ah,p,j y p]) ?_;clear o q l j;rintro env i ⟨o,⟨z,l⟩,j⟩;apply rn;simp[o,l,d,g];refine .done (h _ i (OQ (r _ _)) ⟨n+1,z,by omega,by simp_all⟩ j)
 . simp
   apply rn;simp[o,q,l,d,g,aG];refine aa.dX (λe i=>e 0=.ref c 0/\(∃s,i c=some (.cells [ints nums,ι ((n:Int)+1),.lit (.int .u64 s)]))/\∀y,y≠c->i y=σ y) (by refine⟨by simp[o],⟨_,by simp;rfl⟩,λy p=>?_⟩;simp[ab.ah,p,j y p]) ?_;clear o q l j;rintro env i ⟨o,⟨z,l⟩,j⟩;apply rn;simp[o,l,d,g];refine .done (h _ i (OQ (r _ _)) ⟨n+1,z,by omega,by simp_all⟩ j)
def pT(c:Nat)(nums:adK)(k:Nat)(σ σ':ab):Prop:=aU c nums k σ'/\∀y,y≠c->σ' y=σ y
theorem pT.trans{c nums k k' σ σ' a}(h:pT c nums k σ σ')(b:pT c nums k' σ' a):pT c nums k' σ a:=⟨b.1,λy d=>(b.2 y d).trans (h.2 y d)⟩
theorem aU.mono{c nums k k'}(h:aU c nums k σ)(b:k<=k'):aU c nums k' σ:=by obtain⟨n,s,d,a⟩:=h;exact⟨n,s,by omega,a⟩
theorem OR{n}(h:0<=n/\n<18446744073709551616):IntKind.u64.wrap n=n:=by simp only[IntKind.wrap,IntKind.signed,IntKind.bits];simp;omega
theorem Tw{n}(h:-9223372036854775808<=n/\n<=9223372036854775807):IntKind.i64.wrap n=n:=by simp[IntKind.wrap,IntKind.signed,IntKind.bits];omega
section
variable{c k:Nat}{nums:adK}
theorem fD{n}(f:k<1000000)(g:nums.length<1152921504606846976)(i:-4611686018427387904<=n/\n<4611686018427387904)(hb:aU c nums k σ)(h:∀  x  σ',0<=x/\(x<=n\/x=0)->pT c nums (k+1) σ σ'->KF (.val (ι x)) σ'):aB prog m 16 [.ref c 0,ι n] σ KF:=by
 refine fs [] Tryz.func16 rfl (by kernel_rfl) ?_;simp[Tryz.f16];refine cf Tryz.func44 rfl (Rb f g hb λx σ' j a b=>?_);apply rn;simp;refine aI.intro (λd=>?_) (λd=>?_)<;>simp[-Int.not_lt,-Int.not_le]at d
 . simp
   exact .done (h 0 σ' ⟨by omega,.inr rfl⟩ ⟨a,b⟩)
 have l:IntKind.u64.wrap n=n:=OR (by omega);have o:pM .add .u64 n 1=some (.int .u64 (n+1)):=by show some (Value.int .u64 (IntKind.u64.wrap (n+1)))=_;rw[OR (by omega)]
 obtain⟨r,e,p⟩:∃r:Int,(0<=r/\r<=n)/\pM .rem .u64 x (n+1)=some (.int .u64 r):=by
  refine⟨x.tmod (n+1),⟨Int.tmod_nonneg _ j.1,?_⟩,by simp[pM];omega⟩;have:=Int.tmod_lt_of_pos x (show 0<n+1 by omega);omega
 have q:IntKind.i64.wrap r=r:=Tw (by omega);simp[l,o,p,q];exact .done (h r σ' ⟨e.1,.inl e.2⟩ ⟨a,b⟩)
theorem eP{lo hi}(d:k<1000000)(e:nums.length<1152921504606846976)(f:-1000000000<=lo/\lo<=1000000000)(g:-1000000000<=hi/\hi<=1000000000)(hb:aU c nums k σ)(h:∀  x  σ',lo<=x/\(x<=hi\/x=lo)->pT c nums (k+1) σ σ'->KF (.val (ι x)) σ'):aB prog m 13 [.ref c 0,ι lo,ι hi] σ KF:=by
 have a:-9223372036854775808<=hi-lo/\hi-lo<=9223372036854775807:=by omega
 refine fs [] Tryz.func13 rfl (by kernel_rfl) ?_;simp[Tryz.f13,a.1,a.2];refine cf Tryz.func16 rfl (fD d e ⟨by omega,by omega⟩ hb λx σ' i hd=>?_);have b:-9223372036854775808<=lo+x/\lo+x<=9223372036854775807:=by omega
 apply rn;simp[b.1,b.2];exact .done (h _ σ' ⟨by omega,by omega⟩ hd)
theorem np{l:adK}{sp}(d:k<1000000)(f:nums.length<1152921504606846976)(i:0<l.length/\l.length<1000000)(hb:aU c nums k σ)(h:∀  x  σ',x∈l->pT c nums (k+1) σ σ'->KF (.val (ι x)) σ'):aB prog m 63 [.ref c 0,.sl 1 (l.map ι) sp] σ KF:=by
 have a:-9223372036854775808<=(l.length:Int)-1/\(l.length:Int)-1<=9223372036854775807:=by omega
 refine fs [] Tryz.func63 rfl (by kernel_rfl) ?_;simp[Tryz.f63,a.1,a.2];refine cf Tryz.func16 rfl (fD d f ⟨by omega,by omega⟩ hb λx σ' g hd=>?_);have b:x.toNat<l.length:=by omega
 have j:x<l.length:=by omega
 have e:(x.toNat:Int)=x:=by omega
 apply rn;simp[g.1,b];exact .done (h _ σ' (xE b) hd)
theorem xl{n}(b:k<1000000)(d:nums.length<1152921504606846976)(e:0<=n/\n<1000000000)(hb:aU c nums k σ)(h:∀  x  σ',pT c nums (k+1) σ σ'->KF (.val (ψ x)) σ'):aB prog m 33 [.ref c 0,ι n] σ KF:=by
 have a:-9223372036854775808<=n-1/\n-1<=9223372036854775807:=by omega
 refine fs [] Tryz.func33 rfl (by kernel_rfl) ?_;simp[Tryz.f33,a.1,a.2];refine cf Tryz.func16 rfl (fD b d ⟨by omega,by omega⟩ hb λx σ' f hd=>?_);apply rn;simp;exact .done (h _ σ' hd)
end

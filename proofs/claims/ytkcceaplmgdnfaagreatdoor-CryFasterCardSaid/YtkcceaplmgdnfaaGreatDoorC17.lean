import Derived.Test.YtkcceaplmgdnfaaGreatDoorC16
set_option linter.all false
set_option maxHeartbeats 1000000
set_option maxRecDepth 100000
namespace Go.Proofs.YtkcceaplmgdnfaaGreatDoor
open Go.Proofs.Tryz (prog)
section
open Go Go.cC
abbrev nn:CB:=⟨93,94,131,132,166,168,119,120,133,118,165,167,190,191,193,194,196,265,210,21⟩
theorem LN:∀(a:Fl) b o kind,aQ prog a [0,5] (LD prog nn b o kind) un=some (tF prog nn b o kind):=by intro a b o kind;kernel_rfl
theorem LO:∀(a:Fl) b o kind,aQ prog a [0] (tF prog nn b o kind) tt=some (PZ prog nn b o kind):=by intro a b o kind;kernel_rfl
theorem LP:∀(a:Fl) b o kind,aQ prog a [0,2,3,4,5,12] (tF prog nn b o kind) ff=some (Vn prog nn b o kind):=by intro a b o kind;kernel_rfl
theorem LQ:∀(a:Fl) b o kind,aQ prog a [8] (PZ prog nn b o kind) un=some (Sn prog nn b o kind):=by intro a b o kind;kernel_rfl
theorem LR:∀(a:Fl) b o kind,aQ prog a [9] (Sn prog nn b o kind) (pt b o)=some (P1 prog nn b o kind):=by intro a b o kind;kernel_rfl
theorem LS:∀(a:Fl) b o kind,aQ prog a [] (P1 prog nn b o kind) un=some (BK nn kind):=by intro a b o kind;kernel_rfl
theorem IC:∀(a:Fl) b o kind L K S aw sv it,px prog a [0,2,3,4,5,6] (QV prog nn b o kind aw sv it) (.word L K S 0)=some (HD prog nn b o kind L K S aw sv it):=by intro a b o kind L K S aw sv it;kernel_rfl
theorem ID:∀(a:Fl) b o kind L K S aw sv it,px prog a [0,2,3,4,5,6] (Gs prog nn b o kind aw sv it) (.word L K S 0)=some (HD prog nn b o kind L K S aw sv it):=by intro a b o kind L K S aw sv it;kernel_rfl
theorem IE:∀(a:Fl) b o kind L K S aw sv it,px prog a [0,2,3,4,5,6] (QW prog nn b o kind aw sv it) (.word L K S 0)=some (HD prog nn b o kind L K S aw sv it):=by intro a b o kind L K S aw sv it;kernel_rfl
theorem LU:∀(a:Fl) b o kind K aw sv it,Tr prog a [0,2,3,4,5,6,17,18] (HD prog nn b o kind true K false aw sv it)=SQ prog nn b o kind K aw sv it:=by intro a b o kind K aw sv it;cases K<;>cases aw<;>cases sv<;>kernel_rfl
theorem LV:∀(a:Fl) b o kind L K S aw sv it,(L && !S)=false->(aw && !K)=false->Tr prog a [0,2,3,4,5,6,77,78,79] (HD prog nn b o kind L K S aw sv it)=CD prog nn b o kind L K S aw sv it:=by intro a b o kind L K S aw sv it c d;cases L<;>cases K<;>cases S<;>cases aw<;>cases sv<;>first|exact absurd c (by decide)|exact absurd d (by decide)|kernel_rfl
theorem IF:∀(a:Fl) b o kind it,aQ prog {a with n0:=false} [0,2,3,4,5,33,36,37,39] (SQ prog nn b o kind false false false it) tt=some (SW prog nn b o kind it):=by intro a b o kind it;kernel_rfl
theorem FG:∀(a:Fl) b o kind n0 K aw sv it,(!aw && !K && !n0)=false->aQ prog {a with n0:=n0} [0,2,3,4,5] (SQ prog nn b o kind K aw sv it) tt=some (DS prog nn b o kind aw sv it):=by intro a b o kind n0 K aw sv it h;cases n0<;>cases K<;>cases aw<;>cases sv<;>first|exact absurd h (by decide)|kernel_rfl
theorem IG:∀(a:Fl) b o kind K aw sv it,(aw && !K)=false->aQ prog a [0,2,3,4,5,6,77,78,79] (SQ prog nn b o kind K aw sv it) ff=some (CD prog nn b o kind true K false aw sv it):=by intro a b o kind K aw sv it h;cases K<;>cases aw<;>cases sv<;>first|exact absurd h (by decide)|kernel_rfl
theorem IH:∀(a:Fl) b o kind r it,aQ prog a [0,2,3,4,5] (SW prog nn b o kind it) (bl r)=some (DS prog nn b o kind r false it):=by intro a b o kind r it;cases r<;>kernel_rfl
theorem FH:∀(a:Fl) b o kind aw sv,aQ prog a [0,2,3,4,5,47] (DS prog nn b o kind aw sv 0) un=some (Gs prog nn b o kind aw sv 1):=by intro a b o kind aw sv;kernel_rfl
theorem FI:∀(a:Fl) b o kind aw sv,aQ prog a [0,2,3,4,5,47] (DS prog nn b o kind aw sv 1) un=some (Gs prog nn b o kind aw sv 2):=by intro a b o kind aw sv;kernel_rfl
theorem FJ:∀(a:Fl) b o kind aw sv,aQ prog a [0,2,3,4,5,47] (DS prog nn b o kind aw sv 2) un=some (Gs prog nn b o kind aw sv 3):=by intro a b o kind aw sv;kernel_rfl
theorem FK:∀(a:Fl) b o kind aw sv,aQ prog a [0,2,3,4,5,47] (DS prog nn b o kind aw sv 3) un=some (Gs prog nn b o kind aw sv 4):=by intro a b o kind aw sv;kernel_rfl
theorem II:∀(a:Fl) b o kind K aw sv it,aQ prog a [0] (CD prog nn b o kind false K false aw sv it) tt=some (NY prog nn b o kind):=by intro a b o kind K aw sv it;cases K<;>kernel_rfl
theorem FL:∀(a:Fl) b o kind L K S aw sv it,(L||S)=true->aQ prog {a with wz:=true} [0,3] (CD prog nn b o kind L K S aw sv it) tt=some (T1 prog nn b o kind sv):=by intro a b o kind L K S aw sv it h;cases L<;>cases K<;>cases S<;>first|exact absurd h (by decide)|kernel_rfl
theorem FM:∀(a:Fl) b o kind L K S aw sv it,(L||S)=true->aQ prog {a with wz:=false} [0,2,3,91] (CD prog nn b o kind L K S aw sv it) tt=some (PK prog nn b o kind sv):=by intro a b o kind L K S aw sv it h;cases L<;>cases K<;>cases S<;>first|exact absurd h (by decide)|kernel_rfl
theorem IJ:∀(a:Fl) b o kind L K S aw sv it,aQ prog a [0,2,3,4,5,133] (CD prog nn b o kind L K S aw sv it) ff=some (QW prog nn b o kind aw sv it):=by intro a b o kind L K S aw sv it;kernel_rfl
theorem IK:∀(a:Fl) b o kind sv,aQ prog a [0,2,3,91] (T1 prog nn b o kind sv) .HM=some (PK prog nn b o kind sv):=by intro a b o kind sv;kernel_rfl
theorem FN:∀(a:Fl) b o kind,aQ prog a [0,2,3,103] (PK prog nn b o kind true) un=some (UP prog nn b o kind true):=by intro a b o kind;kernel_rfl
theorem FO:∀(a:Fl) b o kind,aQ prog a [0,2,95] (PK prog nn b o kind false) un=some (TQ prog nn b o kind):=by intro a b o kind;kernel_rfl
theorem IL:∀(a:Fl) b o kind x,aQ prog {a with tb:=x} [0,2,3,103] (TQ prog nn b o kind) .now=some (UP prog nn b o kind x):=by intro a b o kind x;cases x<;>kernel_rfl
theorem IM:∀(a:Fl) b o kind sv n1,aQ prog {a with n0:=false,n1:=n1} [0,128,129] (UP prog nn b o kind sv) (.word false false true 0)=some (AD prog nn b o kind (if !sv||n1 then -11 else -7)):=by intro a b o kind sv n1;cases sv<;>cases n1<;>kernel_rfl
theorem IN:∀(a:Fl) b o kind L K sv,px prog a [0,2,3,4,5,6] (UP prog nn b o kind sv) (.word L K false 0)=some (HD prog nn b o kind L K false true sv 0):=by intro a b o kind L K sv;cases L<;>cases K<;>kernel_rfl
theorem IP:∀(a:Fl) b o kind d,aQ prog a [0] (AD prog nn b o kind d) .cy=some (NY prog nn b o kind):=by intro a b o kind d;kernel_rfl
theorem IQ:∀(a:Fl) b o kind,aQ prog a [136] (NY prog nn b o kind) un=some (So prog nn b o kind):=by intro a b o kind;kernel_rfl
theorem IS:∀(a:Fl) b o kind,aQ prog a [137] (So prog nn b o kind) (pt b o)=some (P6 prog nn b o kind):=by intro a b o kind;kernel_rfl
theorem IT:∀(a:Fl) b o kind,aQ prog a [] (P6 prog nn b o kind) un=some (BK nn kind):=by intro a b o kind;kernel_rfl
theorem LW:∀(a:Fl) b o kind,aQ prog a [0,7] (U0 prog nn b o kind) .cy=some (Sp prog nn b o kind):=by intro a b o kind;kernel_rfl
theorem LX:∀(a:Fl) b o kind,aQ prog a [0,8] (Sp prog nn b o kind) (pt b o)=some (UR prog nn b o kind):=by intro a b o kind;kernel_rfl
theorem LY:∀(a:Fl) b o kind,aQ prog a [0] (UR prog nn b o kind) un=some (UD prog nn b o kind):=by intro a b o kind;kernel_rfl
theorem LZ:∀(a:Fl) b o kind,aQ prog a [0,13] (UD prog nn b o kind) un=some (rp prog nn b o kind):=by intro a b o kind;kernel_rfl
theorem L0:∀(a:Fl) b o kind n0 K,(n0||K)=true->aQ prog {a with n0:=n0} [] (rp prog nn b o kind) (.word false K false 0)=some (UE prog nn b o kind):=by intro a b o kind n0 K h;cases n0<;>cases K<;>first|exact absurd h (by decide)|kernel_rfl
theorem IU:∀(a:Fl) b o kind n0 K,aQ prog {a with n0:=n0} [41] (rp prog nn b o kind) (.word false K true 0)=some (G9 prog nn b o kind):=by intro a b o kind n0 K;cases n0<;>cases K<;>kernel_rfl
theorem IV:∀(a:Fl) b o kind,aQ prog {a with n0:=false} [0,27,28,29] (rp prog nn b o kind) (.word false false false 0)=some (UC prog nn b o kind):=by intro a b o kind;kernel_rfl
theorem IW:∀(a:Fl) b o kind,aQ prog a [33] (UC prog nn b o kind) tt=some (G7 prog nn b o kind):=by intro a b o kind;kernel_rfl
theorem IX:∀(a:Fl) b o kind,aQ prog a [0,37] (UC prog nn b o kind) ff=some (NZ prog nn b o kind):=by intro a b o kind;kernel_rfl
theorem L1:∀(a:Fl) b o kind n0 L K S,(n0||L||K||S)=true->aQ prog {a with n0:=n0} [] (NZ prog nn b o kind) (.word L K S 0)=some (UE prog nn b o kind):=by intro a b o kind n0 L K S h;cases n0<;>cases L<;>cases K<;>cases S<;>first|exact absurd h (by decide)|kernel_rfl
theorem IY:∀(a:Fl) b o kind,aQ prog {a with n0:=false} [0,27,28,29] (NZ prog nn b o kind) (.word false false false 0)=some (UC prog nn b o kind):=by intro a b o kind;kernel_rfl
theorem L2:∀(a:Fl) b o kind,aQ prog a [] (G7 prog nn b o kind) un=some (UE prog nn b o kind):=by intro a b o kind;kernel_rfl
theorem L3:∀(a:Fl) b o kind,aQ prog a [] (G9 prog nn b o kind) un=some (UE prog nn b o kind):=by intro a b o kind;kernel_rfl
theorem IZ:∀(a:Fl) b o kind,aQ prog a [] (UE prog nn b o kind) un=some (Tz nn kind):=by intro a b o kind;kernel_rfl
theorem L4:∀b o kind,aZ (LD prog nn b o kind).1=some (nn.jq,[])/\(LD prog nn b o kind).1.kind=.normal:=by intro b o kind;exact⟨by kernel_rfl,by kernel_rfl⟩
theorem L5:∀b o kind,aZ (tF prog nn b o kind).1=some (nn.km,[pt b o,i32 0,i32 1]):=by intro b o kind;kernel_rfl
theorem L6:∀b o kind,aZ (PZ prog nn b o kind).1=some (nn.en,[]):=by intro b o kind;kernel_rfl
theorem L7:∀b o kind,kr (Sn prog nn b o kind).1=some (nn.tM,nn.tU,pt b o):=by intro b o kind;kernel_rfl
theorem L8:∀b o kind,aZ (P1 prog nn b o kind).1=some (nn.acq,[pt b o]):=by intro b o kind;kernel_rfl
theorem I0:∀b o kind aw sv it,qB (QV prog nn b o kind aw sv it).1=some (nn.tI,pt b o):=by intro b o kind aw sv it;kernel_rfl
theorem I1:∀b o kind aw sv it,qB (Gs prog nn b o kind aw sv it).1=some (nn.tI,pt b o):=by intro b o kind aw sv it;kernel_rfl
theorem I2:∀b o kind aw sv it,qB (QW prog nn b o kind aw sv it).1=some (nn.tI,pt b o):=by intro b o kind aw sv it;kernel_rfl
theorem L9:∀b o kind K aw sv it,aZ (SQ prog nn b o kind K aw sv it).1=some (nn.HO,[i64 it]):=by intro b o kind K aw sv it;kernel_rfl
theorem Ma:∀b o kind it,aZ (SW prog nn b o kind it).1=some (nn.km,[pt b o,.word true false false 0,.word true true false 0]):=by intro b o kind it;kernel_rfl
theorem Mb:∀b o kind aw sv it,aZ (DS prog nn b o kind aw sv it).1=some (nn.tE,[]):=by intro b o kind aw sv it;kernel_rfl
theorem I3:∀b o kind L K S aw sv it,aZ (CD prog nn b o kind L K S aw sv it).1=some (nn.km,[pt b o,.word L K S 0,Oo L K S aw sv]):=by intro b o kind L K S aw sv it;kernel_rfl
theorem I4:∀b o kind sv,aZ (T1 prog nn b o kind sv).1=some (nn.nano,[]):=by intro b o kind sv;kernel_rfl
theorem I5:∀b o kind sv,aZ (PK prog nn b o kind sv).1=some (nn.EP,[pt b (o+1),.cy,i64 2]):=by intro b o kind sv;kernel_rfl
theorem I6:∀b o kind,aZ (TQ prog nn b o kind).1=some (nn.nano,[]):=by intro b o kind;kernel_rfl
theorem I7:∀b o kind sv,qB (UP prog nn b o kind sv).1=some (nn.tI,pt b o):=by intro b o kind sv;kernel_rfl
theorem I8:∀b o kind d,aZ (AD prog nn b o kind d).1=some (nn.add,[pt b o,i32 d]):=by intro b o kind d;kernel_rfl
theorem I9:∀b o kind,aZ (NY prog nn b o kind).1=some (nn.en,[]):=by intro b o kind;kernel_rfl
theorem I':∀b o kind,kr (So prog nn b o kind).1=some (nn.tM,nn.tU,pt b o):=by intro b o kind;kernel_rfl
theorem Ja:∀b o kind,aZ (P6 prog nn b o kind).1=some (nn.acq,[pt b o]):=by intro b o kind;kernel_rfl
theorem Jb:∀b o kind,qB (U0 prog nn b o kind).1=some (nn.tI,pt b o)/\(U0 prog nn b o kind).1.kind=.normal/\(U0 prog nn b o kind).1.fn=nn.vD:=by intro b o kind;exact⟨by kernel_rfl,by kernel_rfl,by kernel_rfl⟩
theorem Jc:∀b o kind,kr (Sp prog nn b o kind).1=some (nn.tM,nn.tU,pt b o):=by intro b o kind;kernel_rfl
theorem Jd:∀b o kind,aZ (UR prog nn b o kind).1=some (nn.rel,[pt b o]):=by intro b o kind;kernel_rfl
theorem Je:∀b o kind,aZ (UD prog nn b o kind).1=some (nn.jq,[]):=by intro b o kind;kernel_rfl
theorem Jf:∀b o kind,aZ (rp prog nn b o kind).1=some (nn.add,[pt b o,i32 (-1)]):=by intro b o kind;kernel_rfl
theorem Jg:∀b o kind,aZ (UC prog nn b o kind).1=some (nn.km,[pt b o,wf,.word false true false (-1)]):=by intro b o kind;kernel_rfl
theorem Jh:∀b o kind,aZ (G7 prog nn b o kind).1=some (nn.nX,[pt b (o+1),ff,i64 2]):=by intro b o kind;kernel_rfl
theorem Ji:∀b o kind,aZ (G9 prog nn b o kind).1=some (nn.nX,[pt b (o+1),tt,i64 2]):=by intro b o kind;kernel_rfl
theorem Jj:∀b o kind,qB (NZ prog nn b o kind).1=some (nn.tI,pt b o):=by intro b o kind;kernel_rfl
theorem Jk:∀b o kind,aZ (UE prog nn b o kind).1=some (nn.en,[]):=by intro b o kind;kernel_rfl
theorem Mc:∀b o kind,(Tw prog nn b o kind).all (·.env.all plain)=true/\(LD prog nn b o kind).1.env.all plain=true/\(LD prog nn b o kind).2=Tw prog nn b o kind:=by intro b o kind;exact⟨by kernel_rfl,by kernel_rfl,by kernel_rfl⟩
theorem Me:∀b o kind,(Vm prog nn b o kind).all (·.env.all plain)=true:=by intro b o kind;kernel_rfl
theorem Mf:∀b o kind,(Ty prog nn b o kind).all (·.env.all plain)=true/\(U0 prog nn b o kind).1.env.all plain=true/\(U0 prog nn b o kind).2=Ty prog nn b o kind:=by intro b o kind;exact⟨by kernel_rfl,by kernel_rfl,by kernel_rfl⟩
theorem Mg:∀b o kind,(VL prog nn b o kind).all (·.env.all plain)=true:=by intro b o kind;kernel_rfl
theorem Ad:gy prog nn where
 e1:=LN
 e2:=LO
 e3:=LP
 e4:=LQ
 e5:=LR
 e6:=LS
 WX:=IC
 QX:=ID
 WZ:=IE
 e8:=LU
 e9:=LV
 cd:=IF
 TA:=FG
 cY:=IG
 eZ:=IH
 ES:=FH
 ET:=FI
 TB:=FJ
 TC:=FK
 JK:=II
 TD:=FL
 TE:=FM
 Ba:=IJ
 wY:=IK
 TF:=FN
 TG:=FO
 th:=IL
 Oq:=IM
 yO:=IN
 vE:=IP
 vF:=IQ
 JL:=IS
 HP:=IT
 u1:=LW
 u2:=LX
 u3:=LY
 u4:=LZ
 u5:=L0
 W2:=IU
 W6:=IV
 W7:=IW
 W8:=IX
 u7:=L1
 W9:=IY
 u8:=L2
 u9:=L3
 Xa:=IZ
 o1:=L4
 o2:=L5
 o3:=L6
 o4:=L7
 o5:=L8
 Xb:=I0
 Xc:=I1
 Xd:=I2
 o7:=L9
 o8:=Ma
 o9:=Mb
 VM:=I3
 Xe:=I4
 VN:=I5
 Xf:=I6
 Xg:=I7
 Xh:=I8
 Xi:=I9
 Xj:=I'
 Xk:=Ja
 VO:=Jb
 Xl:=Jc
 Xm:=Jd
 Xn:=Je
 VP:=Jf
 VQ:=Jg
 VR:=Jh
 VS:=Ji
 Xo:=Jj
 Xp:=Jk
 p1:=Mc
 p2:=Me
 p3:=Mf
 p4:=Mg
theorem Ae:gz prog nn where
 jq:=⟨_,rfl,rfl,rfl,rfl,rfl⟩
 en:=⟨_,rfl,rfl,rfl,rfl,rfl⟩
 acq:=⟨_,rfl,rfl,rfl,rfl,rfl⟩
 rel:=⟨_,rfl,rfl,rfl,rfl,rfl⟩
 km:=⟨_,rfl,rfl,rfl,rfl,rfl⟩
 add:=⟨_,rfl,rfl,rfl,rfl,rfl⟩
 HO:=⟨_,rfl,rfl,rfl,rfl,rfl⟩
 tE:=⟨_,rfl,rfl,rfl,rfl,rfl⟩
 nano:=⟨_,rfl,rfl,rfl,rfl,rfl⟩
 Ky:=⟨_,rfl,rfl⟩
 EP:=⟨_,rfl,rfl,rfl,rfl,rfl⟩
 nX:=⟨_,rfl,rfl,rfl,rfl,rfl⟩
 TH:=by kernel_rfl
 Xq:=⟨_,rfl,rfl,rfl⟩
 nS:=⟨_,rfl,rfl⟩
 nU:=⟨_,rfl,rfl⟩
 nV:=⟨_,rfl,rfl⟩
end
section
open Go.cC Go.Conc
set_option maxRecDepth 4000
variable{m:Mo}{σ:ab}{KF:ach}
def jG(f:Fr)(x:Int):Bool:=decide (lZ f (aA x)=0)
def kJ(f:Fr)(l:acb):Prop:=∀n a,Gn l n=some a->a=bool (jG f n)
theorem UU:Kd prog 255 291 4 5 .u8:=.of (by kernel_rfl) (by kernel_rfl) (by kernel_rfl) (by kernel_rfl)
theorem Ph  f   l :lZ f l=0\/lZ f l=1\/lZ f l=2\/lZ f l=3:=by unfold lZ;omega
theorem Mh{f l}(h:lZ f l≠0):∃d a,UT (lZ f l)=.lT d a:=by
 rcases Ph f l with e|e|e|e
 . omega
 all_goals rw[e];exact⟨_,_,rfl⟩
theorem Jl{f l x n a}(b:kJ f l)(h:Gn (l++[(x,bool (jG f x))]) n=some a):a=bool (jG f n):=by
 unfold Gn di at h;rw[List.find?_append]at h;cases e:l.find? (λp=>n==p.1)with
 |some p=>rw[e]at h;simp only[Option.some_or,aal,kn]at h;subst h;exact b n p.2 (by unfold Gn di;rw[e];rfl)
 |none=>grind
theorem Ro{b mb f x Un Ld}(j:Lv prog m nn b 6 mb .u8 (kJ f) Un Ld)(E:f.Good)(F:N4 f (aA x))(p:(aA x).length<20)(G:Un σ)(h:∀σ',Un σ'->oQ b mb σ σ'->KF (.val (bool (jG f x))) σ'):az prog m 188 [lN b mb f 0,xT x] σ KF:=by
 refine fs UF Tryz.func188 rfl (by kernel_rfl) ?_;simp[Tryz.f188];refine cf Tryz.func93 rfl (j.lock (qt _ _ _ _) G λH l o q r A=>?_);apply rn;simp;refine aa.defer rfl rfl rfl rfl (by simp) rfl ?_;apply rn;simp;refine wP lay (UU.key lay XC rfl) rfl YY rfl rfl (j.map o) ?_;apply pg;simp
 have i:∀(env:Env) (g:ab) s,env 4=bool (jG f x)->Ld g s->kJ f s->(∀c,c≠b->c≠mb->g c=σ c)->qF prog m (.func 94) [] [AV.kp b [iZ f.aD,rows f.roads,int f.aP,int f.dH,int f.cL,int f.aW,.lit (.int .i32 0),.lit (.int .u32 0),.map mb] [6,7] 6] .ret g (λt σ'=>JI lay m [ResultVar.tmp 4] env (m9 KF) [] t σ'):=λenv g s I u v J=>by
  refine qF.func Tryz.func94 rfl rfl (j.unlock (qt _ _ _ _) u v λw z K=>?_);refine⟨[env 4],rfl,.done ?_⟩;rw[show oneOf [env 4]=env 4 from rfl,I];refine h w z λc y O L B=>?_
  grind
 cases k:di l x with
 |some a=>have M:=q x a k;subst M;simp;apply rn;simp;exact i _ _ _ (by simp) o q r
 | none=>
   simp;apply rn;simp;refine cf Tryz.func205 rfl (LJ ?_);apply rn;simp;refine cf Tryz.func144 rfl (Rn E F p ?_);apply rn;simp;have C:decide (lZ f (aA x)=0)=jG f x:=rfl;refine gN lay rfl Ur rfl (isNil:=jG f x) ?_ (.inl ⟨rfl,rfl⟩) ?_
   . by_cases D:lZ f (aA x)=0
     . left
       refine⟨?_,by simp_all⟩;simp[D];rfl
     . right
       obtain⟨d,a,e⟩:=Mh D
       simp_all
   apply rn;simp;refine qI (UU.key lay XC rfl) rfl rfl rfl rfl (j.map o) k ?_;apply pg;simp;apply rn;simp;refine i _ _ _ (by simp) (j.put o) (λn a N=>?_) (λc L B=>by rw[ab.ah _ _ B];simp_all);exact Jl q (by simpa using N)
def fT(f:Fr)(begun:acy):Nat->acy->Int->acy->aca
 |0,cT,_,_=>[cT]
 | fuel+1,cT,many,a=>(List.range (min (many+1) f.aW).toNat).flatMap λk:Nat=>
    if cT.length<begun.length/\begun.getD cT.length 0≠(k:Int)then[]
    else if jG f (bR (a.getD k 0) cT.length)=true then fT f begun fuel (cT++[(k:Int)]) (max many ((k:Int)+1)) (a.set k (bR (a.getD k 0) cT.length))else[]
def aI(f:Fr)(begun:acy):aca:=fT f begun f.aD.length [] 0 [0,0,0,0,0,0]
def Mv(b mb:Nat)(F a:acu)(σ σ':ab):Prop:=∀c x,σ c=some x -> ¬F c->c≠b->(c≠mb\/x.plain=true)->σ' c=some x/\¬a c
theorem Mv.refl  b mb   F   σ :Mv b mb F F σ σ:=λ_ _ h a _ _=>⟨h,a⟩
theorem Mv.trans{b mb F g d σ σ' a}(h:Mv b mb F g σ σ')(k:Mv b mb g d σ' a):Mv b mb F d σ a:=λc x i j e f=>k c x (h c x i j e f).1 (h c x i j e f).2 e f
structure SD  m   y  (W:aca) (I:Nat->acu->acC) (E:acu->acC):Prop where
 step:∀  k   F   σ   KF   hk ,I k F σ->(∀F' σ',Gl F F' σ σ'->I (k+1) F' σ'->KF (.val (bool true)) σ')->(∀F' σ',Gl F F' σ σ'->E F' σ'->KF (.val (bool false)) σ')->bY prog m y [ints W[k]] σ KF
 frame:∀  k   F   σ σ' ,(∀c,F c->σ' c=σ c)->I k F σ->I k F σ'
 Rq:∀  F   σ σ' ,(∀c,F c->σ' c=σ c)->E F σ->E F σ'
 N3:∀  k   F   σ   c ,I k F σ->F c->∃x,σ c=some x/\x.plain=true
theorem DC{b mb F a σ σ'}(h:Gl F a σ σ'):Mv b mb F a σ σ':=λc x d e _ _=>h c x e d
theorem pK{b mb GI Un Ld}(a:Lv prog m nn b 6 mb .u8 GI Un Ld){d y}(f:Un σ)(hd:∀x,σ d=some x->x.plain=true):Un (σ.set d y):=a.un (λc _ ⟨x,g,h⟩=>ab.ah _ _ (λe=>by simp_all)) f
theorem xU{b mb GI Un Ld}(e:Lv prog m nn b 6 mb .u8 GI Un Ld){F f σ'}(g:Un σ)(h:Gl F f σ σ')(hd:∀c,F c->∃x,σ c=some x/\x.plain=true):Un σ':=
 e.un (λc _ ⟨x,a,i⟩=>by
  have d:¬F c:=λd=>by grind
  rw[(h c x d a).1,a]) g
abbrev xV(a y:AV)(begun:acy)(cp:Nat):AV:=.fn (.func 189) [] [.cp a 0,.cp y 0,.cp (ints begun) 0,.ref cp 0]
abbrev bb(a:AV)(c4 cg:Nat):AV:=.fn (.func 185) [] [.ref c4 0,.cp a 0,.ref cg 0]
structure WS  b mb   f   y   begun   c4 cg cp  (hs:acy) (F:acu) (σ:ab):Prop where
 arr:σ c4=some (.cells (hs.map u8))
 UW:σ cg=some (.cells [xV (lN b mb f 0) y begun cp])
 pt:σ cp=some (.cells [bb (lN b mb f 0) c4 cg])
 out:¬F c4/\¬F cg/\¬F cp
 ne:c4≠cg/\c4≠cp
theorem WS.mv{b mb f y begun c4 cg cp d F g σ σ'}(h:WS b mb f y begun c4 cg cp d F σ)(hb:∃x,σ b=some x/\x.plain=false)(a:Mv b mb F g σ σ'):WS b mb f y begun c4 cg cp d g σ':=by
 obtain⟨x,j,k⟩:=hb;have ne:∀c l,σ c=some (.cells l)->c≠b:=λc l i e=>by subst e;rw[j]at i;cases i;cases k
 obtain⟨m,n⟩:=a c4 _ h.arr h.out.1 (ne _ _ h.arr) (.inr rfl);obtain⟨o,p⟩:=a cg _ h.UW h.out.2.1 (ne _ _ h.UW) (.inr rfl);obtain⟨q,r⟩:=a cp _ h.pt h.out.2.2 (ne _ _ h.pt) (.inr rfl);exact⟨m,o,q,⟨n,p,r⟩,h.ne⟩
structure Hs(f:Fr)(n:Nat)(hs:acy):Prop where
 tZ:hs.length=6
 bits:∀x∈hs,∀e∈aA x,e<n
 small:∀x∈hs,0<=x/\x<64
section
variable{b mb:Nat}{f:Fr}{begun:acy}{y:AV}{W:aca}{I:Nat->acu->acC}{E:acu->acC}{Un:acC}{Ld:ab->acb->Prop}{c4 cg cp:Nat}
def Qr(b mb:Nat)(Un:acC)(I:Nat->acu->acC)(E:acu->acC)(a n:Nat)(F:acu)(σ:ab)(KF:ach):Prop:=(∀d c,Mv b mb F d σ c->Un c->I (a+n) d c->KF (.val (bool true)) c)/\(∀d c,Mv b mb F d σ c->Un c->E d c->KF (.val (bool false)) c)
def Mi(m:Mo)(b mb:Nat)(f:Fr)(begun:acy)(y:AV)(W:aca)(I:Nat->acu->acC)(E:acu->acC)(Un:acC)(c4 cg cp:Nat)(fuel:Nat):Prop:=
 ∀ (cT:acy) (many:Int) (a:acy) (sp:mZ) (F:acu) (σ:ab) (pre post:aca) (KF:ach),cT.length+fuel=f.aD.length->0<=many/\many<=6->Hs f cT.length a->WS b mb f y begun c4 cg cp a F σ->Un σ ->
   W=pre++fT f begun fuel cT many a++post->I pre.length F σ->Qr b mb Un I E pre.length (fT f begun fuel cT many a).length F σ KF ->
   az prog m 189 [.sl 1 (cT.map int) sp,int many,.cp (lN b mb f 0) 0,.cp y 0,.cp (ints begun) 0,.ref cp 0] σ KF
theorem Pj:∀x:Fin 64,∀n:Fin 6,(0<=bR (x.val:Int) (n.val:Int)/\bR (x.val:Int) (n.val:Int)<64)/\(∀e∈aA (bR (x.val:Int) (n.val:Int)),e=(n.val:Int)\/e∈aA (x.val:Int))/\(n.val:Int)∈aA (bR (x.val:Int) (n.val:Int)):=by decide +kernel
theorem Mj{x}{n:Nat}(b:0<=x/\x<64)(a:n<6):(0<=bR x n/\bR x n<64)/\(∀e∈aA (bR x n),e=(n:Int)\/e∈aA x)/\(n:Int)∈aA (bR x n):=by
 have:=Pj ⟨x.toNat,by omega⟩ ⟨n,a⟩
 grind
theorem Mk{x e}(h:e∈aA x):0<=e/\e<6:=by
 unfold aA at h
 grind
theorem nC  x :(aA x).length<20:=by
 unfold aA
 grind
theorem Hs.set{n b}(h:Hs f n b)(d:n<6){k}  c :Hs f (n+1) (b.set k (bR b[k] n)):=by
 have g:=Mj (h.small _ (zA c)) d;refine⟨by rw[aaq];exact h.tZ,λx a e he=>?_,λx a=>?_⟩
 . rcases aaJ a with a|rfl
   . have:=h.bits x a e he;omega
   . rcases g.2.1 e he with rfl|he
     . omega
     . have:=h.bits _ (zA c) e he;omega
 . rcases aaJ a with a|rfl
   . exact h.small x a
   omega
theorem Hs.uR{n a}(h:Hs f n a)(d:n<f.aD.length)(g:f.aD.length<=6){k}(b:k<a.length):N4 f (aA (bR a[k] n)):=by
 have c:=Mj (h.small _ (zA b)) (n:=n) (by omega);refine⟨λe he=>⟨(Mk he).1,?_⟩,λq=>?_,by have:=nC (bR a[k] n);omega⟩
 . rcases c.2.1 e he with rfl|he
   . omega
   . have:=h.bits _ (zA b) e he;omega
 simp_all
theorem Pk{d k x}{l:acy}(i:k<6)(c:l.length=6)(hd:σ d=some (.cells [u8 x]))(e:σ c4=some (.cells (l.map u8)))(h:KF (.val (.cu [])) (σ.set c4 (.cells ((l.set k x).map u8)))):az prog m 186 [.ref d 0,.ref c4 0,.cp (int k) 0] σ KF:=by
 have a:(k:Int)<6:=by omega
 have b:k<=5:=by omega
 have g:k<l.length:=by omega
 refine fs [] Tryz.func186 rfl (by kernel_rfl) ?_;simp[Tryz.f186,hd,e,a,c,b];rw[EJ (by simp_all),<-List.map_set (f:=u8)];exact .done h
theorem Rr(N : Lv prog m nn b 6 mb .u8 (kJ f) Un Ld)(hf:f.Good)(dm:begun.length<1152921504606846976)(Y:SD m y W I E){fuel}(hG:Mi m b mb f begun y W I E Un c4 cg cp fuel){cT many k n sp F pre post}(hlen:cT.length+(fuel+1)=f.aD.length)(b3:0<=many/\many<=6)(hk:k<6)
 (hh:Hs f cT.length n) (w:WS b mb f y begun c4 cg cp n F σ) (hu:Un σ){L}(U:L=if jG f (bR (n.getD k 0) cT.length)=true then fT f begun fuel (cT++[(k:Int)]) (max many ((k:Int)+1)) (n.set k (bR (n.getD k 0) cT.length))else[]) (hW:W=pre++L++post)
 (hI:I pre.length F σ) (hR:Qr b mb Un I E pre.length L.length F σ KF):az prog m 185 [.sl 1 (cT.map int) sp,int many,int k,.ref c4 0,.cp (lN b mb f 0) 0,.ref cg 0] σ KF:=by
 have h6:=hf.tZ;have V:k<n.length:=by rw[hh.tZ];exact hk
 have b4:n.getD k 0=n[k]:=by simp_all
 rw[b4]at U;have X:(k:Int)<6:=by omega
 have s:=w.arr;have av:=hh.tZ;have Z:k<=5:=by omega
 have e1:List.take 1 (List.drop k (List.map u8 n))=[u8 n[k]]:=by rw[<-List.map_drop,aau V];rfl
 refine fs UA Tryz.func185 rfl (by kernel_rfl) ?_
 simp[Tryz.f185,s,X,av,Z,e1];refine bI.intro λd hd=>?_
 have d4:d≠c4:=λe=>by simp_all
 have ax:=za d4;simp;refine aa.defer rfl rfl rfl rfl (by simp) rfl ?_
 apply rn;simp[X];obtain⟨z,hz⟩:∃z,z=bR n[k] cT.length:=⟨_,rfl⟩;obtain⟨i,O⟩:∃i,i=n.set k z:=⟨_,rfl⟩;have b5:k<i.length:=by simp_all
 have ay:i[k]=z:=by simp_all
 have e2:List.take 1 (List.drop k (List.map u8 i))=[u8 z]:=by rw[<-List.map_drop,aau b5,ay];rfl
 have e3:aG (List.map u8 n) k [u8 z]=List.map u8 i:=by simp_all
 have P:i.length=6:=by simp_all
 refine cf Tryz.func187 rfl (Pe (by omega) ?_)
 rw[<-hz];apply pg;simp[ax,ab.ah,s,av,Z,e3];apply rn;simp[X,P,Z,e2];have b6:cT.length<6:=by omega
 have b7:cT.length<f.aD.length:=by omega
 have b8:N4 f (aA z):=by rw[hz];exact hh.uR b7 h6 V
 obtain⟨xb,b9,bm⟩:=N.Sz hu;have cb:∀c l,σ c=some (.cells l)->c≠b:=λc l t e=>by subst e;rw[b9]at t;cases t;cases bm
 have db:d≠b:=λe=>by simp_all
 have aC:Un ((σ.set d (.cells [u8 n[k]])).set c4 (.cells (i.map u8))):=pK N (pK N hu (λx A=>by simp_all)) (λx A=>by rw[ab.ah _ _ ax,s]at A;cases A;rfl)
 have aE:((σ.set d (.cells [u8 n[k]])).set c4 (.cells (i.map u8))) c4=some (.cells (i.map u8)):=ab.ai _ _ _;have aL:((σ.set d (.cells [u8 n[k]])).set c4 (.cells (i.map u8))) d=some (.cells [u8 n[k]]):=by rw[ab.ah _ _ d4,ab.ai]
 have H:∀c,c≠d->c≠c4->((σ.set d (.cells [u8 n[k]])).set c4 (.cells (i.map u8))) c=σ c:=λc r D=>by rw[ab.ah _ _ D,ab.ah _ _ r]
 have aO:¬F d:=λhF=>by
  obtain⟨x,A,_⟩:=Y.N3 _ _ _ _ hI hF
  simp_all
 have a7:I pre.length F ((σ.set d (.cells [u8 n[k]])).set c4 (.cells (i.map u8))):=Y.frame _ _ _ _ (λc t=>H c (λe=>aO (e ▸ t)) (λe=>w.out.1 (e ▸ t))) hI
 generalize (σ.set d (.cells [u8 n[k]])).set c4 (.cells (i.map u8))=dr at aC aE aL H a7;refine cf Tryz.func188 rfl (Ro N hf b8 (nC _) aC λo b0 p=>?_)
 have B:o c4=some (.cells (i.map u8)):=p _ _ aE (cb _ _ s) (.inr rfl);have a8:o d=some (.cells [u8 n[k]]):=p _ _ aL db (.inr rfl);have gd:cg≠d:=λe=>by have:=w.UW;simp_all
 have J:o cg=some (.cells [xV (lN b mb f 0) y begun cp]):=p _ _ (by rw[H cg gd (za w.ne.1)];exact w.UW) (cb _ _ w.UW) (.inr rfl)
 have bw:i.set k n[k]=n:=by simp_all
 have Q:∀(env:Env) (j:ab) (v:Bool),env 9=bool v->j d=some (.cells [u8 n[k]])->j c4=some (.cells (i.map u8))->KF (.val (bool v)) (j.set c4 (.cells (n.map u8)))->qF prog m (.func 186) [.ref d 0,.ref c4 0,.cp (int k) 0] [] .ret j (λbA g=>JI lay m [ResultVar.tmp 9] env (m9 KF) [] bA g):=λenv j v he bB c5 hK=>by
  refine qF.func Tryz.func186 rfl rfl (Pk hk P bB c5 ?_);refine⟨[env 9],rfl,.done ?_⟩
  simp_all
 have b1:Mv b mb F F σ (o.set c4 (.cells (n.map u8))):=λc x r D K h4=>by
  refine⟨?_,D⟩
  by_cases e:c=c4
  . simp_all
  . have e':c≠d:=λe'=>by simp_all
    rw[ab.ah _ _ e];exact p c x (by simp_all) K h4
 have a9:I pre.length F o:=Y.frame _ _ _ _ (λc t=>by
  obtain⟨x,r,D⟩:=Y.N3 _ _ _ _ a7 t
  have c6:c≠b:=λe=>by grind
  rw[r];exact p c x r c6 (.inr D)) a7
 rw[<-hz,<-O]at U;cases R:jG f z with
 | false=>
   rw[R]at U;simp only[LK,Rp]at U;subst U;apply pg;simp
   repeat' apply And.intro
   all_goals
    apply rn;simp;refine Q _ o true (by simp) a8 B (hR.1 F _ b1 (pK N b0 (λx A=>by rw[B]at A;cases A;rfl)) ?_)
    exact Y.frame _ _ _ _ (λc t=>ab.ah _ _ (λe=>w.out.1 (e ▸ t))) a9
 | true=>
   rw[R,ZS rfl]at U
   have ad:∀(j:ab) (C:mZ) (M:ach),o.Le j->(∀(v:Bool) g,g d=some (.cells [u8 n[k]])->g c4=some (.cells (i.map u8))->KF (.val (bool v)) (g.set c4 (.cells (n.map u8)))->M (.val (bool v)) g) ->
    az prog m 189 [.sl 1 ((cT++[(k:Int)]).map int) C,int (max many ((k:Int)+1)),.cp (lN b mb f 0) 0,.cp y 0,.cp (ints begun) 0,.ref cp 0] j M:=λj C M q hK=>by
    have c7:o cp=some (.cells [bb (lN b mb f 0) c4 cg]):=by
     have pd:cp≠d:=λe=>by have:=w.pt;simp_all
     exact p _ _ (by rw[H cp pd (za w.ne.2)];exact w.pt) (cb _ _ w.pt) (.inr rfl)
    have c9:Un j:=N.un (λc _ ⟨x,r,_⟩=>by rw[r];exact q _ _ r) b0
    have ca:WS b mb f y begun c4 cg cp i F j:=⟨q _ _ B,q _ _ J,q _ _ c7,w.out,w.ne⟩
    have cm:I pre.length F j:=Y.frame _ _ _ _ (λc t=>by obtain⟨x,r,_⟩:=Y.N3 _ _ _ _ a9 t;rw[r];exact q _ _ r) a9
    have S:∀(u:acu) (g:ab),Mv b mb F u j g->Mv b mb F u σ (g.set c4 (.cells (n.map u8))):=λu g hm c x r D K h4=>by
     by_cases e:c=c4
     . subst e
       obtain⟨q1,T⟩:=hm c _ (q _ _ B) D K (.inr rfl)
       simp_all
     . have e':c≠d:=λe'=>by simp_all
       rw[ab.ah _ _ e];exact hm c x (q _ _ (p c x (by simp_all) K h4)) D K h4
    have Ev:∀(u:acu) (g:ab),Mv b mb F u j g->g d=some (.cells [u8 n[k]])/\(g c4=some (.cells (i.map u8))/\¬u c4):=λu g hm=>⟨(hm d _ (q _ _ a8) aO db (.inr rfl)).1,hm c4 _ (q _ _ B) w.out.1 (cb _ _ s) (.inr rfl)⟩
    subst U;refine hG _ _ _ _ F j pre post M (by simp;omega) (by omega) (by rw[ZU,O,hz];exact hh.set b6 V) ca c9 hW cm ⟨λu g r D K=>?_,λu g r D K=>?_⟩
    . obtain⟨q1,T,q3⟩:=Ev u g r
      exact hK true g q1 T (hR.1 u _ (S u g r) (pK N D (λx A=>by rw[T]at A;cases A;rfl)) (Y.frame _ _ _ _ (λc t=>ab.ah _ _ (λe=>q3 (e ▸ t))) K))
    . obtain⟨q1,T,q3⟩:=Ev u g r
      exact hK false g q1 T (hR.2 u _ (S u g r) (pK N D (λx A=>by rw[T]at A;cases A;rfl)) (Y.Rq _ _ _ (λc t=>ab.ah _ _ (λe=>q3 (e ▸ t))) K))
   have k1:-9223372036854775808<=(k:Int)+1/\(k:Int)+1<=9223372036854775807:=by omega
   have G:(if many<(k:Int)+1 then(k:Int)+1 else many)=max many ((k:Int)+1):=by omega
   apply pg;simp[J,k1.1,k1.2,G]
   repeat' (first
             |apply And.intro
             | (refine uG lay rfl dG rfl rA (es:=cT.map int) (sp:=sp) (l:=0) (h:=cT.length) (by simp) (λcap b2=>⟨⟨⟨.i64,by simp⟩,by simpa using b2⟩,⟨⟨.i64,by simp⟩,ZX _⟩,rfl⟩) (by simp) λa ha=>?_
                have cv:Tok o o a 1 (cT.map int):=by
                 rcases ha with rfl|⟨e,rfl⟩
                 . have:List.take (cT.length-0) (List.drop 0 (cT.map int))=cT.map int:=by rw[List.drop_zero,aaH (by simp)]
                   rw[this];exact .exact _ _ _
                 . rw[e];exact .nil _ _
                clear ha;apply pg;simp[B,a8,J,k1.1,k1.2,G])
             | (refine aN lay rfl rfl rfl dG rfl dG rfl rA (by decide) (by simp;omega) (σ0:=o) (es:=cT.map int) (xs:=[int k]) (by simpa using cv) (.inr ⟨_,by simp;rfl⟩) λa' j al=>?_
                obtain⟨C,rfl⟩:∃C,a'=.sl 1 (cT.map int++[int k]) C:=by
                 rcases al.2 with⟨_,e⟩|e|⟨_,_,_,e,_⟩
                 . simp at e
                 . exact⟨_,e⟩
                 . exact⟨_,e⟩
                have dj:=al.1 _ _ J;apply pg;simp[dj,k1.1,k1.2,G])
             | (refine dY Tryz.func189 rfl rfl (by simp) (ad j C _ al.1 λv g q1 T q3=>?_)
                apply pg;simp;apply rn;simp;exact Q _ _ v (by simp) q1 T q3))
end
section
variable{b mb:Nat}{f:Fr}{begun:acy}{y:AV}{W:aca}{I:Nat->acu->acC}{E:acu->acC}{Un:acC}{Ld:ab->acb->Prop}{c4 cg cp:Nat}
def oT(f:Fr)(begun:acy)(fuel:Nat)(cT:acy)(many:Int)(a:acy)(k:Nat):aca:=
 if cT.length<begun.length/\begun.getD cT.length 0≠(k:Int)then[]
 else if jG f (bR (a.getD k 0) cT.length)=true then fT f begun fuel (cT++[(k:Int)]) (max many ((k:Int)+1)) (a.set k (bR (a.getD k 0) cT.length))else[]
theorem rB  f   begun   fuel   cT   many   a :fT f begun (fuel+1) cT many a=(List.range (min (many+1) f.aW).toNat).flatMap (oT f begun fuel cT many a):=rfl
theorem DD(K:Nat->aca){k cnt}(h:k<cnt):∃rest,(List.range cnt).flatMap K=(List.range k).flatMap K++(K k++rest):=by
 obtain⟨n,rfl⟩:∃n,cnt=k+1+n:=⟨cnt-(k+1),by omega⟩;induction n with
 |zero=>exact⟨[],by rw[Nat.add_zero,aai,abe];simp⟩
 | succ n a=>
   obtain⟨rest,b⟩:=a (by omega);refine⟨rest++K (k+1+n),?_⟩;rw[show k+1+(n+1)=(k+1+n)+1 by omega,aai,abe,b];simp
theorem Pl(P:Lv prog m nn b 6 mb .u8 (kJ f) Un Ld)(R:f.Good)(S:begun.length<1152921504606846976)(Y:SD m y W I E)(T:y.cells=[y]):∀fuel ,Mi m b mb f begun y W I E Un c4 cg cp fuel:=by
 have h6:=R.tZ;have ad:=R.aW;intro fuel
 induction fuel with
 | zero=>
   intro cT many h sp F σ pre post KF hlen l hh U G H J u;have V:(cT.length:Int)=f.aD.length:=by omega
   refine fs [] Tryz.func189 rfl (by kernel_rfl) ?_
   simp[Tryz.f189,V,T];have hk:pre.length<W.length:=by rw[H];simp[fT]
   have X:W[pre.length]=cT:=by subst H;simp[fT]
   refine bY.weaken (args':=[ints cT]) ?_ ⟨ik 1 _ sp,trivial⟩;rw[<-X];refine Y.step pre.length F σ _ hk J (λq d n x=>?_) (λq d n x=>?_)
   . apply rn
     simp;exact .done (u.1 q d (DC n) (xU P G n (λc Z=>Y.N3 _ _ _ c J Z)) x)
   . apply rn
     simp;exact .done (u.2 q d (DC n) (xU P G n (λc Z=>Y.N3 _ _ _ c J Z)) x)
 | succ fuel a7=>
   intro cT many h sp F σ pre post KF hlen l hh U G H J u;have V:((cT.length:Int)==f.aD.length)=false:=by grind
   have al:=U.pt;rw[rB]at H u;obtain⟨cnt,K⟩:∃cnt:Nat,cnt=(min (many+1) f.aW).toNat:=⟨_,rfl⟩;rw[<-K]at H u;have L:(if f.aW<many+1 then f.aW else many+1)=(cnt:Int):=by omega
   have av:cnt<=6:=by omega
   have m1:-9223372036854775808<=many+1/\many+1<=9223372036854775807:=by omega
   refine fs [] Tryz.func189 rfl (by kernel_rfl) ?_
   simp[Tryz.f189,V,m1.1,m1.2,L];refine aa.loop cnt (λk s=>∃env d q,s=⟨env,d,[],.no⟩/\env 0=.sl 1 (cT.map int) sp/\env 1=int many/\env 2=.cp (lN b mb f 0) 0/\env 4=.cp (ints begun) 0/\env 5=.ref cp 0/\env 29=int cnt/\env 30=int k/\Mv b mb F q σ d/\Un d/\I (pre.length+((List.range k).flatMap (oT f begun fuel cT many h)).length) q d) ⟨_,_,F,rfl,by simp,by simp,by simp,by simp,by simp,by simp,by simp,Mv.refl b mb F σ,G,J⟩ ?_
   rintro c0 k _ hk ⟨env,d,q,rfl,B,n,x,C,M,g,i,o,z,a8⟩ ih
   rcases aap k cnt with g1|g1
   . have N:=U.mv (P.Sz G) o
     have w:=N.pt;obtain⟨rest,Q⟩:=DD (oT f begun fuel cT many h) g1
     have a9:((List.range (k+1)).flatMap (oT f begun fuel cT many h)).length=((List.range k).flatMap (oT f begun fuel cT many h)).length+(oT f begun fuel cT many h k).length:=by rw[aai,abe,ZU];simp
     by_cases g2:cT.length<begun.length/\begun.getD cT.length 0≠(k:Int)
     . have hK:oT f begun fuel cT many h k=[]:=ZS g2
       have e1:begun.getD cT.length 0=begun[cT.length]:=by grind
       have e2:(begun[cT.length] !=(k:Int))=true:=by grind
       apply rn;simp[B,C,g,i,g1,g2.1,e2];refine⟨by omega,ih _ g1 ⟨_,_,q,rfl,by simp[B],by simp[n],by simp[x],by simp[C],by simp[M],by simp[g],by simp,o,z,?_⟩⟩
       grind
     . have hK:oT f begun fuel cT many h k=if jG f (bR (h.getD k 0) cT.length)=true then fT f begun fuel (cT++[(k:Int)]) (max many ((k:Int)+1)) (h.set k (bR (h.getD k 0) cT.length))else[]:=ZM g2
       have p:∀A:ach,(∀(v:Bool) a j,Mv b mb F j σ a->Un a->(v=true->I (pre.length+((List.range (k+1)).flatMap (oT f begun fuel cT many h)).length) j a)->(v=false->E j a)->A (.val (bool v)) a)->az prog m 185 [.sl 1 (cT.map int) sp,int many,int k,.ref c4 0,.cp (lN b mb f 0) 0,.ref cg 0] d A:=λA O=>by
        refine Rr P R S Y a7 (pre:=pre++(List.range k).flatMap (oT f begun fuel cT many h)) (post:=rest++post) hlen l (by omega) hh N z hK (by grind) (by grind) ⟨λj a r t D=>?_,λj a r t D=>?_⟩
        . refine O true a j (o.trans r) t (λ_=>?_) (λe=>by cases e)
          grind
        . exact O false a j (o.trans r) t (λe=>by cases e) (λ_=>D)
       by_cases g3:cT.length<begun.length
       . have e1:begun.getD cT.length 0=begun[cT.length]:=by grind
         have e2:(begun[cT.length] !=(k:Int))=false:=by grind
         apply rn;simp[B,n,C,M,g,i,g1,g3,e2,w];refine dY Tryz.func185 rfl rfl (by simp) (p _ λv a j r t D q4=>?_)
         cases v
         . apply rn
           simp;exact .done (u.2 j a r t (q4 rfl))
         . apply rn
           simp[i];refine⟨by omega,ih _ g1 ⟨_,_,j,rfl,?_,?_,?_,?_,?_,?_,?_,r,t,D rfl⟩⟩<;>simp[B,n,x,C,M,g]
       . apply rn
         simp[B,n,C,M,g,i,g1,g3,w];refine dY Tryz.func185 rfl rfl (by simp) (p _ λv a j r t D q4=>?_)
         cases v
         . apply rn
           simp;exact .done (u.2 j a r t (q4 rfl))
         . apply rn
           simp[i];refine⟨by omega,ih _ g1 ⟨_,_,j,rfl,?_,?_,?_,?_,?_,?_,?_,r,t,D rfl⟩⟩<;>simp[B,n,x,C,M,g]
   . have:k=cnt:=by omega
     subst this;apply rn;simp[g,i];exact .done (u.1 q d o z a8)
end
section
variable{b mb:Nat}{f:Fr}{begun:acy}{y:AV}{I:Nat->acu->acC}{E:acu->acC}{Un:acC}{Ld:ab->acb->Prop}
theorem BJ{sp}(h:KF (.val (.fn (.func 184) [] [.cp (lN b mb f 0) 0,.cp (.sl 1 (begun.map int) sp) 0])) σ):az prog m 159 [lN b mb f 0,.sl 1 (begun.map int) sp] σ KF:=by
 refine fs [] Tryz.func159 rfl (by kernel_rfl) ?_;simp[Tryz.f159];exact .done h
theorem Wu  f :Hs f 0 [0,0,0,0,0,0]:=by
 refine⟨rfl,λx a e b=>?_,λx a=>?_⟩
 . have hb:aA 0=[]:=by decide +kernel
   simp_all
 simp_all
theorem Mv.le{F d σ0 σ'}(h:Mv b mb F d σ σ')(a:σ0.Le σ):Mv b mb F d σ0 σ':=λc x e f g i=>h c x (a c x e) f g i
theorem xW(r:Lv prog m nn b 6 mb .u8 (kJ f) Un Ld)(w:f.Good)(j:begun.length<1152921504606846976)(Y:SD m y (aI f begun) I E)(d:y.cells=[y]/\y.flat=true){F}(z:Un σ)(k:I 0 F σ)
 (h:∀e σ',Mv b mb F e σ σ'->Un σ'->(I (aI f begun).length e σ'\/E e σ')->KF (.val (.cu [])) σ'):az prog m 184 [y,.cp (lN b mb f 0) 0,.cp (ints begun) 0] σ KF:=by
 refine fs [] Tryz.func184 rfl (by kernel_rfl) ?_;simp[Tryz.f184,d.1,d.2];refine bI.intro λc4 A=>?_
 simp;refine bI.intro λcg l=>?_
 obtain⟨J,s,l⟩:=ab.aM l;simp;refine bI.intro λcp i=>?_
 obtain⟨B,C,i⟩:=ab.aM i;obtain⟨K,t,i⟩:=ab.aM i;simp[C,ab.ah];have a:σ.Le ((((σ.set c4 (.cells [u8 0,u8 0,u8 0,u8 0,u8 0,u8 0])).set cg (.cells [.lit .nilFunc])).set cp (.cells [bb (lN b mb f 0) c4 cg])).set cg (.cells [xV (lN b mb f 0) y begun cp])):=(by repeat (first|exact ab.le_refl _|assumption|refine ab.ez ?_ (by assumption)|refine ab.lx ?_ (by assumption)));have D:((((σ.set c4 (.cells [u8 0,u8 0,u8 0,u8 0,u8 0,u8 0])).set cg (.cells [.lit .nilFunc])).set cp (.cells [bb (lN b mb f 0) c4 cg])).set cg (.cells [xV (lN b mb f 0) y begun cp])) c4=some (.cells (([0,0,0,0,0,0]:acy).map u8)):=by simp[s,t,ab.ah]
 have G:((((σ.set c4 (.cells [u8 0,u8 0,u8 0,u8 0,u8 0,u8 0])).set cg (.cells [.lit .nilFunc])).set cp (.cells [bb (lN b mb f 0) c4 cg])).set cg (.cells [xV (lN b mb f 0) y begun cp])) cg=some (.cells [xV (lN b mb f 0) y begun cp]):=by simp
 have sp:((((σ.set c4 (.cells [u8 0,u8 0,u8 0,u8 0,u8 0,u8 0])).set cg (.cells [.lit .nilFunc])).set cp (.cells [bb (lN b mb f 0) c4 cg])).set cg (.cells [xV (lN b mb f 0) y begun cp])) cp=some (.cells [bb (lN b mb f 0) c4 cg]):=by simp[B,ab.ah]
 have g:∀c,σ c=none -> ¬F c:=λc u H=>by
  obtain⟨x,n,_⟩:=Y.N3 _ _ _ _ k H
  simp_all
 refine bY.weaken (args':=[.sl 1 (([]:acy).map int) .any,int 0]) ?_ ⟨gn 1,.refl _,trivial⟩;refine dY Tryz.func189 rfl rfl rfl (Pl (y:=y) r w j Y d.1 f.aD.length [] 0 [0,0,0,0,0,0] .any F _ [] [] _ (by simp) (by omega) (Wu f) ⟨D,G,sp,⟨g _ A,g _ l,g _ i⟩,⟨s,t⟩⟩ (r.un (λc _ ⟨x,v,_⟩=>by rw[v];exact a _ _ v) z) (by simp[aI]) (Y.frame _ _ _ _ (λc u=>by obtain⟨x,n,_⟩:=Y.N3 _ _ _ _ k u;rw[n];exact a _ _ n) k) ⟨λe σ' o p q=>?_,λe σ' o p q=>?_⟩)
 . apply rn
   simp;refine .done (h e σ' (o.le a) p (.inl ?_));simpa[aI]using q
 . apply rn
   simp;exact .done (h e σ' (o.le a) p (.inr q))
end
section
variable{b mb:Nat}{f:Fr}{Un:acC}{Ld:ab->acb->Prop}
theorem Pm(E:Lv prog m nn b 6 mb .u8 (kJ f) Un Ld)(U:f.Good)(R:Un σ)(h:∀σ',Un σ'->oQ b mb σ σ'->KF (.val (bool (decide (aI f []≠[])))) σ'):az prog m 201 [lN b mb f 0] σ KF:=by
 refine fs [] Tryz.func201 rfl (by kernel_rfl) ?_
 simp[Tryz.f201];refine bI.intro λd h3=>?_
 simp;have V:Wl [lN b mb f 0,AV.lit (.slice none 0 0)] [lN b mb f 0,ints []]:=.cons (.refl _) (.cons (gn 1) .nil);refine bU Tryz.func159 rfl rfl V (BJ (begun:=[]) ?_);apply rn;simp;refine aa.rangeFunc rfl λI r l J S o=>?_
 obtain⟨r1,W,J⟩:=ab.aM J;obtain⟨X,z,S⟩:=ab.aM S;generalize p:vZ.mk _ _ _ _ _ _ _ _ _=G
 have Y:SD m (.fn (.yield l) [] []) (aI f []) (λk F σ'=>k=0/\(∀c,F c↔c=l\/c=d)/\σ' l=some (.loop G)/\σ' d=some (.cells [bool false])) (λF σ'=>aI f []≠[]/\(∀c,F c↔c=l\/c=d)/\σ' l=some (.loop {G with state:=.done,pending:=some (.exit 0)})/\σ' d=some (.cells [bool true])):=by
  refine⟨λk F σ' Z hk A hT hF=>?_,λk F K a he A=>?_,λF K a he A=>?_,λk F σ' c A v=>?_⟩
  . obtain⟨rfl,i,H,L⟩:=A
    have e3:∀x,(σ'.set l x) d=some (.cells [bool false]):=λx=>by rw[ab.ah _ _ z];exact L
    subst p;refine bY.wM (hold:=[]) I Tryz.func201 H rfl ?_;apply rn;simp[mS];refine aa.beginRound H rfl ?_;apply rn;simp[e3];have M:aI f []≠[]:=λe=>by simp_all
    refine⟨rfl,rfl,_,((ab.ah _ _ X).trans (ab.ai _ _ _)),?_⟩;refine hF F _ (λc x v hx=>⟨?_,v⟩) ⟨M,i,ab.ai _ _ _,(ab.ah _ _ z).trans (ab.ai _ _ _)⟩
    have w:c≠l:=λe=>v ((i c).2 (.inl e))
    have B:c≠d:=λe=>v ((i c).2 (.inr e))
    exact(ab.ah _ _ w).trans ((ab.ah _ _ B).trans ((ab.ah _ _ w).trans hx))
  . simp_all
  . simp_all
  . obtain⟨rfl,i,H,L⟩:=A
    rcases(i c).1 v with rfl|rfl
    . exact⟨_,H,rfl⟩
    . exact⟨_,L,rfl⟩
 obtain⟨xb,a7,a8⟩:=E.Sz R;have nb:∀c,σ c=none->c≠b:=λc v e=>by simp_all
 have C:σ.Le (((σ.set d (.cells [bool false])).set r (.raw (.deferred (some [])))).set l (.loop G)):=(by repeat (first|exact ab.le_refl _|assumption|refine ab.ez ?_ (by assumption)|refine ab.lx ?_ (by assumption)))
 have sr:(((σ.set d (.cells [bool false])).set r (.raw (.deferred (some [])))).set l (.loop G)) r=some (.raw (.deferred (some []))):=by rw[ab.ah _ _ o,ab.ai]
 refine dY Tryz.func184 rfl rfl rfl (xW (F:=λc=>c=l\/c=d) E U (by simp) Y ⟨rfl,rfl⟩ (E.un (λc _ ⟨x,j,_⟩=>(C _ _ j).trans j.symm) R) ⟨rfl,λc=>aaf,ab.ai _ _ _,(ab.ah _ _ z).trans ((ab.ah _ _ W).trans (ab.ai _ _ _))⟩ λF' σ' D N n=>?_)
 have q:=(D r _ sr (λe=>by omega) (nb r J) (.inr rfl)).1
 have s:oQ b mb σ σ':=λc x j y t=>(D c x (C c x j) (λe=>by grind) y t).1
 have O:∀a,a=(σ'.del l).set r (.raw (.deferred none))->Un a/\oQ b mb σ a:=λa e=>by
  subst e;refine⟨E.un (σ:=σ') (λc _ ⟨x,j,y⟩=>?_) N,λc x j y t=>?_⟩
  . have w:c≠r:=λe=>by subst e;rw[q]at j;cases j;cases y
    have B:c≠l:=λe=>by
     subst e
     rcases n with⟨_,_,g,_⟩|⟨_,_,g,_⟩<;>rw[g]at j<;>cases j<;>cases y
    rw[ab.ah _ _ w];simp[ab.del,B]
  . have w:c≠r:=λe=>by simp_all
    have B:c≠l:=λe=>by simp_all
    rw[ab.ah _ _ w];simp only[ab.del,B,Rp];exact s c x j y t
 rcases n with⟨T,_,P,q2⟩|⟨T,_,P,q2⟩
 . have Q:decide (aI f []≠[])=false:=by simp_all
   rw[Q]at h;subst p;refine⟨_,P,by simp,rfl,?_⟩
   have u:(σ'.del l) d=some (.cells [bool false]):=by simp only[ab.del,z,Rp];omega
   apply rn;simp[u];refine⟨by simp only[ab.del,o,Rp];exact q,.done ?_⟩
   simp_all
 . have Q:decide (aI f []≠[])=true:=by simp[T]
   rw[Q]at h;subst p;refine⟨_,P,by simp,rfl,?_⟩
   have u:(σ'.del l) d=some (.cells [bool true]):=by simp only[ab.del,z,Rp];omega
   apply rn;simp[u];refine⟨by simp only[ab.del,o,Rp];exact q,.done ?_⟩
   simp_all
end
end
section
open Go Go.cC
abbrev ng:OA:=⟨89,91,95,119,120,133,118,126,136,121,162,163,164,169,137,130,208,210,215⟩
theorem Ml:∀(b:Nat) (kind:acD),aZ (A0 prog ng b kind).1=some (ng.jq,[])/\(A0 prog ng b kind).1.env.all plain=true/\(A0 prog ng b kind).2=[]/\(A0 prog ng b kind).1.kind=kind:=by intro b kind;exact⟨by kernel_rfl,by kernel_rfl,by kernel_rfl,by kernel_rfl⟩
theorem Mm:∀(b:Nat) (kind:acD),aZ (A1 prog ng b kind).1=some (ng.OB,[])/\(A1 prog ng b kind).1.env.all plain=true/\(A1 prog ng b kind).2=[]/\(A1 prog ng b kind).1.kind=kind:=by intro b kind;exact⟨by kernel_rfl,by kernel_rfl,by kernel_rfl,by kernel_rfl⟩
theorem Mn:∀(b:Nat) (kind:acD),aZ (A2 prog ng b kind).1=some (ng.sm,[pt b 0,u64 4294967296])/\vH (A2 prog ng b kind)=true/\(A2 prog ng b kind).1.env.all plain=true/\(A2 prog ng b kind).2.all (·.env.all plain)=true:=by intro b kind;exact⟨by kernel_rfl,by kernel_rfl,by kernel_rfl,by kernel_rfl⟩
theorem Mp:∀(b:Nat) (kind:acD) (a:Fl),kr (A3 prog ng b kind (f1 a true)).1=some (ng.tS,ng.tU,pt b 1):=by intro b kind a;kernel_rfl
theorem Mq:∀(b:Nat) (kind:acD) (a:Fl),aZ (A4 prog ng b kind (f1 a true)).1=some (ng.rd,[pt b 1])/\(A4 prog ng b kind (f1 a true)).1.kind=kind:=by intro b kind a;exact⟨by kernel_rfl,by kernel_rfl⟩
theorem Mr:∀(b:Nat) (kind:acD) (a:Fl),rq (A5 prog ng b kind (f0 (f1 a true) false)).1=some ng.en/\(A5 prog ng b kind (f0 (f1 a true) false)).2=[]/\(A5 prog ng b kind (f0 (f1 a true) false)).1.kind=kind/\(A5 prog ng b kind (f0 (f1 a true) false)).1.fn=ng.add:=by intro b kind a;exact⟨by kernel_rfl,by kernel_rfl,by kernel_rfl,by kernel_rfl⟩
theorem Ms:∀(b:Nat) (kind:acD) (a:Fl),rq (A3 prog ng b kind (f0 (f1 a false) false)).1=some ng.en/\(A3 prog ng b kind (f0 (f1 a false) false)).2=[]/\(A3 prog ng b kind (f0 (f1 a false) false)).1.kind=kind/\(A3 prog ng b kind (f0 (f1 a false) false)).1.fn=ng.add:=by intro b kind a;exact⟨by kernel_rfl,by kernel_rfl,by kernel_rfl,by kernel_rfl⟩
theorem Mt:∀(b:Nat),kr (D0 prog ng b).1=some (ng.tG,ng.tU,pt b 0)/\(D0 prog ng b).1.env.all plain=true/\(D0 prog ng b).2.all (·.env.all plain)=true:=by intro b;exact⟨by kernel_rfl,by kernel_rfl,by kernel_rfl⟩
theorem Mw:∀(b:Nat),aZ (D1 prog ng b).1=some (ng.rel,[pt b 0])/\vH (D1 prog ng b)=true/\(D1 prog ng b).1.env.all plain=true/\(D1 prog ng b).2.all (·.env.all plain)=true:=by intro b;exact⟨by kernel_rfl,by kernel_rfl,by kernel_rfl,by kernel_rfl⟩
theorem Mx:∀(b:Nat),aZ (D2 prog ng b).1=some (ng.jq,[])/\vH (D2 prog ng b)=true/\(D2 prog ng b).1.env.all plain=true/\(D2 prog ng b).2.all (·.env.all plain)=true:=by intro b;exact⟨by kernel_rfl,by kernel_rfl,by kernel_rfl,by kernel_rfl⟩
theorem My:∀(b:Nat),aZ (D3 prog ng b).1=some (ng.OB,[])/\vH (D3 prog ng b)=true/\(D3 prog ng b).1.env.all plain=true/\(D3 prog ng b).2.all (·.env.all plain)=true:=by intro b;exact⟨by kernel_rfl,by kernel_rfl,by kernel_rfl,by kernel_rfl⟩
theorem Mz:∀(b:Nat),aZ (D4 prog ng b).1=some (ng.sm,[pt b 0,u64 18446744069414584320])/\vH (D4 prog ng b)=true/\(D4 prog ng b).1.env.all plain=true/\(D4 prog ng b).2.all (·.env.all plain)=true:=by intro b;exact⟨by kernel_rfl,by kernel_rfl,by kernel_rfl,by kernel_rfl⟩
theorem MA:∀(b:Nat) (a:Fl) (x:Bool),rq (DE prog ng b (f0 a x) 0).1=some ng.en:=by intro b a x;cases x<;>kernel_rfl
theorem Jm:∀(b:Nat) (a:Fl) (x:Bool),jX (lV prog (f0 a x) (DE prog ng b (f0 a x) 0)).1 ng.done=true/\(lV prog (f0 a x) (DE prog ng b (f0 a x) 0)).2=[]/\(lV prog (f0 a x) (DE prog ng b (f0 a x) 0)).1.kind=.deferred:=by intro b a x;cases x<;>exact⟨by kernel_rfl,by kernel_rfl,by kernel_rfl⟩
theorem MB:∀(b:Nat) (a:Fl),rq (DE prog ng b (f0 a false) 1).1=some ng.en:=by intro b a;kernel_rfl
theorem Jn:∀(b:Nat) (a:Fl),jX (lV prog (f0 a false) (DE prog ng b (f0 a false) 1)).1 ng.done=true/\(lV prog (f0 a false) (DE prog ng b (f0 a false) 1)).2=[]/\(lV prog (f0 a false) (DE prog ng b (f0 a false) 1)).1.kind=.deferred:=by intro b a;exact⟨by kernel_rfl,by kernel_rfl,by kernel_rfl⟩
theorem MC:∀(b:Nat) (a:Fl),aZ (DE prog ng b (f0 a true) 1).1=some (ng.vt,[pt b 0])/\vH (DE prog ng b (f0 a true) 1)=true:=by intro b a;exact⟨by kernel_rfl,by kernel_rfl⟩
theorem MD:∀(b:Nat) (a:Fl),aZ (D6 prog ng b (f0 a true)).1=some (ng.HW,[pt b 0,u64 0])/\vH (D6 prog ng b (f0 a true))=true:=by intro b a;exact⟨by kernel_rfl,by kernel_rfl⟩
theorem ME:∀(b:Nat) (a:Fl),aZ (D7 prog ng b (f0 a true)).1=some (ng.nX,[pt b 1,ff,i64 0])/\vH (D7 prog ng b (f0 a true))=true:=by intro b a;exact⟨by kernel_rfl,by kernel_rfl⟩
theorem MF:∀(b:Nat) (a:Fl),rq (D8 prog ng b (f0 a true)).1=some ng.en:=by intro b a;kernel_rfl
theorem MG:∀(b:Nat) (a:Fl),jX (lV prog (f0 a true) (D8 prog ng b (f0 a true))).1 ng.done=true/\(lV prog (f0 a true) (D8 prog ng b (f0 a true))).2=[]/\(lV prog (f0 a true) (D8 prog ng b (f0 a true))).1.kind=.deferred:=by intro b a;exact⟨by kernel_rfl,by kernel_rfl,by kernel_rfl⟩
theorem MH:∀(b:Nat) (kind:acD),aZ (W0 prog ng b kind).1=some (ng.jq,[])/\(W0 prog ng b kind).1.env.all plain=true/\(W0 prog ng b kind).2=[]/\(W0 prog ng b kind).1.kind=kind:=by intro b kind;exact⟨by kernel_rfl,by kernel_rfl,by kernel_rfl,by kernel_rfl⟩
theorem MI:∀(b:Nat) (kind:acD),aZ (W1 prog ng b kind).1=some (ng.vt,[pt b 0])/\vH (W1 prog ng b kind)=true/\(W1 prog ng b kind).1.env.all plain=true/\(W1 prog ng b kind).2.all (·.env.all plain)=true:=by intro b kind;exact⟨by kernel_rfl,by kernel_rfl,by kernel_rfl,by kernel_rfl⟩
theorem MJ:∀(b:Nat) (kind:acD) (a:Fl),aZ (WE prog ng b kind (f0 a true)).1=some (ng.en,[])/\(WE prog ng b kind (f0 a true)).1.kind=kind:=by intro b kind a;exact⟨by kernel_rfl,by kernel_rfl⟩
theorem MK:∀(b:Nat) (kind:acD) (a:Fl),kr (WC prog ng b kind (f0 a true)).1=some (ng.tG,ng.tU,pt b 0):=by intro b kind a;kernel_rfl
theorem ML:∀(b:Nat) (kind:acD) (a:Fl),aZ (WA prog ng b kind (f0 a true)).1=some (ng.acq,[pt b 0])/\(WA prog ng b kind (f0 a true)).1.kind=kind:=by intro b kind a;exact⟨by kernel_rfl,by kernel_rfl⟩
theorem MM:∀(b:Nat) (kind:acD) (a:Fl),jX (WB prog ng b kind (f0 a true)).1 ng.wait=true/\(WB prog ng b kind (f0 a true)).2=[]/\(WB prog ng b kind (f0 a true)).1.kind=kind:=by intro b kind a;exact⟨by kernel_rfl,by kernel_rfl,by kernel_rfl⟩
theorem MN:∀(b:Nat) (kind:acD) (a:Fl),aZ (WE prog ng b kind (f0 a false)).1=some (ng.xa,[pt b 0,.eC 0,.eC 1])/\vH (WE prog ng b kind (f0 a false))=true:=by intro b kind a;exact⟨by kernel_rfl,by kernel_rfl⟩
theorem MO:∀(b:Nat) (kind:acD) (a:Fl),GH [5] [[0]] (next prog (f0 a false) (WE prog ng b kind (f0 a false)) ff)=W1 prog ng b kind:=by intro b kind a;kernel_rfl
theorem MP:∀(b:Nat) (kind:acD) (a:Fl),kr (W3 prog ng b kind (f0 a false)).1=some (ng.tS,ng.tU,pt b 1):=by intro b kind a;kernel_rfl
theorem MQ:∀(b:Nat) (kind:acD) (a:Fl),aZ (Sr prog ng b kind (f0 a false)).1=some (ng.wr,[pt b 1])/\(Sr prog ng b kind (f0 a false)).1.kind=kind:=by intro b kind a;exact⟨by kernel_rfl,by kernel_rfl⟩
theorem MR:∀(b:Nat) (kind:acD) (a:Fl),aZ (W4 prog ng b kind (f0 a false)).1=some (ng.EP,[pt b 1,ff])/\(W4 prog ng b kind (f0 a false)).1.kind=kind:=by intro b kind a;exact⟨by kernel_rfl,by kernel_rfl⟩
theorem MT:∀(b:Nat) (kind:acD) (a:Fl),aZ (W5 prog ng b kind (f0 a false)).1=some (ng.vt,[pt b 0])/\vH (W5 prog ng b kind (f0 a false))=true:=by intro b kind a;exact⟨by kernel_rfl,by kernel_rfl⟩
theorem MU:∀(b:Nat) (kind:acD) (a:Fl),aZ (Ss prog ng b kind (f0 a false)).1=some (ng.en,[])/\(Ss prog ng b kind (f0 a false)).1.kind=kind:=by intro b kind a;exact⟨by kernel_rfl,by kernel_rfl⟩
theorem MV:∀(b:Nat) (kind:acD) (a:Fl),kr (TM prog ng b kind (f0 a false)).1=some (ng.tG,ng.tU,pt b 0):=by intro b kind a;kernel_rfl
theorem MX:∀(b:Nat) (kind:acD) (a:Fl),aZ (Su prog ng b kind (f0 a false)).1=some (ng.acq,[pt b 0])/\(Su prog ng b kind (f0 a false)).1.kind=kind:=by intro b kind a;exact⟨by kernel_rfl,by kernel_rfl⟩
theorem MY:∀(b:Nat) (kind:acD) (a:Fl),jX (Qb prog ng b kind (f0 a false)).1 ng.wait=true/\(Qb prog ng b kind (f0 a false)).2=[]/\(Qb prog ng b kind (f0 a false)).1.kind=kind:=by intro b kind a;exact⟨by kernel_rfl,by kernel_rfl,by kernel_rfl⟩
theorem Qs:gS prog ng where
 a0:=Ml
 a1:=Mm
 a2:=Mn
 a3:=Mp
 a4:=Mq
 a5:=Mr
 a6:=Ms
 d0:=Mt
 d1:=Mw
 d2:=Mx
 d3:=My
 d4:=Mz
 d5:=MA
 Xr:=Jm
 d6:=MB
 Xs:=Jn
 d7:=MC
 d8:=MD
 d9:=ME
 da:=MF
 db:=MG
 w0:=MH
 w1:=MI
 w2:=MJ
 w3:=MK
 w4:=ML
 w5:=MM
 w6:=MN
 w7:=MO
 w8:=MP
 w9:=MQ
 wa:=MR
 wb:=MT
 wc:=MU
 wd:=MV
 we:=MX
 wf:=MY
theorem Qt:iC prog ng where
 jq:=⟨_,rfl,rfl,rfl,rfl,rfl⟩
 en:=⟨_,rfl,rfl,rfl,rfl,rfl⟩
 acq:=⟨_,rfl,rfl,rfl,rfl,rfl⟩
 rel:=⟨_,rfl,rfl,rfl,rfl,rfl⟩
 rd:=⟨_,rfl,rfl,rfl,rfl,rfl⟩
 wr:=⟨_,rfl,rfl,rfl,rfl,rfl⟩
 OB:=⟨_,rfl,rfl,rfl,rfl,rfl⟩
 sm:=⟨_,rfl,rfl,rfl,rfl,rfl⟩
 vt:=⟨_,rfl,rfl,rfl,rfl,rfl⟩
 HW:=⟨_,rfl,rfl,rfl,rfl,rfl⟩
 xa:=⟨_,rfl,rfl,rfl,rfl,rfl⟩
 EP:=⟨_,rfl,rfl,rfl,rfl,rfl⟩
 nX:=⟨_,rfl,rfl,rfl,rfl,rfl⟩
 Xt:=⟨_,rfl,rfl,rfl⟩
 Xu:=⟨_,rfl,rfl,rfl⟩
 QZ:=⟨_,_,rfl,rfl,rfl,rfl⟩
 KL:=⟨_,_,rfl,rfl,rfl,rfl⟩
 KM:=⟨_,_,rfl,rfl,rfl,rfl⟩
end
open Go.cC Go.Conc
set_option maxRecDepth 4000
variable{m:Mo}{σ:ab}{KF:ach}
theorem Rs:lY prog nn:=⟨⟨_,_,Tryz.func93,rfl,rfl,rfl⟩,⟨_,_,Tryz.func94,rfl,rfl,rfl⟩⟩
section
variable{b mb:Nat}{f:Fr}{A:bJ}{j:Nat}{begun:acy}
theorem FP{b}(a:A.ng=ng){body}(hb:Tryz.f160.body=some body):aa prog (xf prog A) 160 4 none [] [.code body] ⟨dp [.ref A.gb 0,.cp (.chan A.cF) 0],jF A.fb,[],.told .deferred [cB prog] b⟩ (λ_ _=>False):=by
 simp only[Tryz.f160,kn]at hb;subst hb;refine aa.runN lay [] 2 ?_;simp;refine aa.Lu rfl (by rw[a];rfl) rfl (by simp) (by rw[a];exact Tryz.func95) rfl rfl rfl ?_;apply rn;simp;exact aa.Fh rfl rfl (by simp) rfl rfl rfl rfl rfl Tryz.func160 rfl rfl
theorem xX{T}(U:A.fb=b/\A.mb=mb/\A.fo=6/\A.nm=nn/\A.ng=ng/\A.dir=false)(V:∀x,A.GI x↔∃l,x=mapA .u8 l/\kJ f l)(W:f.Good)(N:A.res j=int (aI f begun).length)(t:begun.length<1152921504606846976)(hlen:(aI f begun).length<1152921504606846976){body}(hb:Tryz.f158.body=some body):
 aa prog (iq prog A j) 158 13 none [] [.code body] ⟨dp [.ref A.gb 0,.cp (lN b mb f 0) 0,.cp (ints begun) 0,.cp (.chan A.cF) 0],jF A.fb,[],.told .deferred [cB prog] T⟩ (λ_ _=>False):=by
 obtain⟨rfl,rfl,u,v,m,g⟩:=U;simp only[Tryz.f158,kn]at hb;subst hb;have O:=Lw (P:=prog) (A:=A) g (j:=j) (kd:=.u8) V;rw[u,v]at O;apply rn;simp;refine aa.defer rfl rfl rfl rfl (by simp) rfl ?_
 apply rn;simp;refine bI.intro λcn X=>?_
 simp;refine cf Tryz.func159 rfl (BJ (begun:=begun) (sp:=.any) ?_);apply rn;simp;refine aa.rangeFunc rfl λw r l y Q n=>?_
 obtain⟨r1,Y,y⟩:=ab.aM y;obtain⟨Z,q,Q⟩:=ab.aM Q;generalize o:vZ.mk _ _ _ _ _ _ _ _ _=z
 have hY:SD (iq prog A j) (.fn (.yield l) [] []) (aI f begun) (λk F a=>(∀c,F c↔c=l\/c=cn)/\a l=some (.loop z)/\a cn=some (.cells [int k])) (λF a=>False):=by
  refine⟨λk F a a7 hk i hT hF=>?_,λk F B C he i=>?_,λF B C he i=>i.elim,λk F a c i h=>?_⟩
  . obtain⟨d,s,D⟩:=i
    have e3:∀x,(a.set l x) cn=some (.cells [int k]):=λx=>(ab.ah _ _ q).trans D
    have f1:-9223372036854775808<=(k:Int)+1/\(k:Int)+1<=9223372036854775807:=by omega
    subst o;refine bY.wM (hold:=[]) w Tryz.func158 s rfl ?_;apply rn;simp[mS];refine aa.beginRound s rfl ?_;apply rn;simp[e3,f1.1,f1.2];refine⟨rfl,rfl,_,((ab.ah _ _ Z).trans (ab.ai _ _ _)),?_⟩;refine hT F _ (λc x h hx=>⟨?_,h⟩) ⟨d,ab.ai _ _ _,(ab.ah _ _ q).trans (ab.ai _ _ _)⟩
    have R:c≠l:=λe=>h ((d c).2 (.inl e))
    have c2:c≠cn:=λe=>h ((d c).2 (.inr e))
    exact(ab.ah _ _ R).trans ((ab.ah _ _ c2).trans ((ab.ah _ _ R).trans hx))
  . simp_all
  . obtain⟨d,s,D⟩:=i
    rcases(d c).1 h with rfl|rfl
    . exact⟨_,s,rfl⟩
    . exact⟨_,D,rfl⟩
 have hu:XB A.fb (((jF A.fb).set cn (.cells [int 0])).set r (.raw (.deferred (some [])))|>.set l (.loop z)):=by
  have h0:(jF A.fb) A.fb=some .gY:=by simp[jF]
  have E:A.fb≠cn:=λe=>by simp_all
  have S:A.fb≠r:=λe=>by simp_all
  have G:A.fb≠l:=λe=>by simp_all
  show _=_;rw[ab.ah _ _ G,ab.ah _ _ S,ab.ah _ _ E];exact h0
 have nb:∀c,(jF A.fb) c=none->c≠A.fb:=λc h e=>by subst e;simp[jF]at h
 have sr:(((jF A.fb).set cn (.cells [int 0])).set r (.raw (.deferred (some [])))|>.set l (.loop z)) r=some (.raw (.deferred (some []))):=(ab.ah _ _ n).trans (ab.ai _ _ _)
 refine dY Tryz.func184 rfl rfl rfl (xW (F:=λc=>c=l\/c=cn) O W t hY ⟨rfl,rfl⟩ hu ⟨λc=>aaf,ab.ai _ _ _,(ab.ah _ _ q).trans ((ab.ah _ _ Y).trans (ab.ai _ _ _))⟩ λF' a H I p=>?_)
 have J:=(H r _ sr (λe=>by omega) (nb r y) (.inr rfl)).1
 rcases p with⟨_,E,S⟩|hE
 . subst o
   refine⟨_,E,by simp,rfl,?_⟩
   have K:(a.del l) cn=some (.cells [int (aI f begun).length]):=by simp only[ab.del,q,Rp];omega
   have L:(a.del l) A.fb=some .gY:=by
    have G:A.fb≠l:=λe=>by grind
    simp only[ab.del,G,Rp];exact I
   have M:(a.del l) r=some (.raw (.deferred (some []))):=by simp only[ab.del,n,Rp];exact J
   apply rn;simp[K];refine aa.Lt g rfl rfl (by simp) rfl rfl (by simp_all) L rfl rfl Tryz.func158 rfl (by rw[m];exact Tryz.func91) rfl rfl ?_
   apply rn;simp;refine⟨rfl,.inl rfl,⟨_,rfl⟩,r,by rw[m],M⟩
 simp_all
end
def jz(j:Nat):acy:=if j=0 then[0,0]else[0,1]
def gJ(f:Fr):Int:=if f.aD.length<2 then 1 else(aI f [0,0]).length+(aI f [0,1]).length
theorem Qu{v d}(l:v.cells=[v])(m:d.cells=[d])(h:v.W d):(AV.cp v 0).W (.cp d 0):=λk x n=>by
 cases n with
 | cp b base off N E v c o p f g=>
   rw[l]at p f g;refine .cp b base 0 N E d c o (by simp_all) (λj i=>f j (by simp_all)) (λj a e=>?_);rw[m]at e;have i:j=0:=by grind
   subst i;simp at e;subst e;exact h k _ (g 0 v rfl)
section
variable{b mb:Nat}{f:Fr}
theorem MZ(U:m.solo=true)(A:f.Good)(hlen:(aI f [0,0]).length<1000000000/\(aI f [0,1]).length<1000000000)(q:b≠mb)(L:SA b 6 mb .u8 (kJ f) σ)(h:∀σ',SA b 6 mb .u8 (kJ f) σ'->oQ b mb σ σ'->KF (.val (int (gJ f))) σ'):az prog m 114 [lN b mb f 0] σ KF:=by
 have h6:=A.tZ;unfold gJ at h;refine fs [] Tryz.func114 rfl (by kernel_rfl) ?_
 simp[Tryz.f114]
 by_cases M:f.aD.length<2
 . have k:(f.aD.length:Int)<2:=by omega
   rw[ZS M]at h;simp[k];exact .done (h σ L (oQ.refl b mb σ))
 have k:¬(f.aD.length:Int)<2:=by omega
 rw[ZM M]at h;obtain⟨V,lm,N,W⟩:=L;simp[k];refine Df lay rfl G6 rfl rA rfl (by decide) λcF X=>?_
 apply rn;simp;refine bI.intro λy r=>?_
 obtain⟨n1,Y,r⟩:=ab.aM r;simp;refine bI.intro λgb g=>?_
 obtain⟨Z,n4,g⟩:=ab.aM g;obtain⟨n5,O,g⟩:=ab.aM g;simp;have P:cF≠b:=λe=>by simp_all
 have Q:cF≠mb:=λe=>by simp_all
 have b3:y≠b:=λe=>by simp_all
 have m3:y≠mb:=λe=>by simp_all
 have s:gb≠b:=λe=>by simp_all
 have gm:gb≠mb:=λe=>by simp_all
 refine aa.bt 3 (b:=y) (.chan cF) (by simp[n4,ab.ah]) (by simp) rfl ?_
 refine aa.bX U ⟨2,false,cF,b,6,gb,mb,λx=>∃l,x=mapA .u8 l/\kJ f l,λj=>int (aI f (jz j)).length,λ_=>.tuple #[],nn,ng,by omega,P,O,Q,za s,q,gm⟩ rfl Qs Qt Ad Ae Rs (tm:=false) (a:=mapA .u8 lm) (by simp[ab.del,ab.ah,Y,O]) (by simp[ab.del,Z]) (by simp[ab.del,ab.set,za b3,za s,za P,V]) (by simp[ab.del,ab.set,za m3,za gm,za Q,N]) (by simp[mapA,mT]) ⟨lm,rfl,W⟩ rfl λpb a7 Fin kd a8 k0 t=>?_
 refine aa.tX ?_;refine aa.runN lay [] 18 ?_;simp;refine bI.intro λB C=>?_
 have d:B≠b:=λe=>by simp_all
 simp
 change aa _ _ _ _ _ _ _ _ _
 refine aa.bt 6 (b:=B) (.sl 1 [int 0,int 0] .exact) (ab.ai _ _ _) (by simp) rfl ?_
 refine aa.JM 6 (a':=.cp (ints [0,0]) 0) (by simp;exact Qu rfl rfl (ik 1 [int 0,int 0] .exact)) ?_
 refine aa.Ls rfl rfl rfl (by simp) Tryz.func89 rfl rfl rfl ?_
 apply rn;simp;refine aa.uK (hold':=[]) rfl rfl rfl (by simp) rfl Tryz.func158 rfl rfl (by simp_all) (by simp[gV.at,ab.del,ab.set,za d]) (by kernel_rfl) (λR=>xX (b:=b) (mb:=mb) (f:=f) (begun:=[0,0]) ⟨rfl,rfl,rfl,rfl,rfl,gV.xw _ _ _⟩ (λx=>aaf) A rfl (by simp) (by omega) rfl) ?_
 apply rn;simp;refine aa.again (by kernel_rfl) ?_
 refine aa.runN lay [] 18 ?_;simp;refine bI.intro λD u=>?_
 have n:D≠b:=λe=>by subst e;simp[ab.del,ab.set,za d]at u
 simp
 change aa _ _ _ _ _ _ _ _ _
 refine aa.bt 6 (b:=D) (.sl 1 [int 0,int 1] .exact) (ab.ai _ _ _) (by simp) rfl ?_
 refine aa.JM 6 (a':=.cp (ints [0,1]) 0) (by simp;exact Qu rfl rfl (ik 1 [int 0,int 1] .exact)) ?_
 refine aa.Ls rfl rfl rfl (by simp) Tryz.func89 rfl rfl rfl ?_
 apply rn;simp;refine aa.uK (hold':=[]) rfl rfl rfl (by simp) rfl Tryz.func158 rfl rfl (by simp_all) (by simp[gV.at,ab.del,ab.set,za n,za d]) (by kernel_rfl) (λR=>xX (b:=b) (mb:=mb) (f:=f) (begun:=[0,1]) ⟨rfl,rfl,rfl,rfl,rfl,gV.xw _ _ _⟩ (λx=>aaf) A rfl (by simp) (by omega) rfl) ?_
 apply rn;simp;refine aa.again (by kernel_rfl) ?_
 apply rn;simp;refine aa.Wf (by exact gV.xw _ _ _) (hold':=[]) rfl rfl rfl (by simp) rfl Tryz.func160 rfl rfl (by simp_all) (by simp[gV.at,ab.del,ab.set,za n,za d]) (by kernel_rfl) (λR=>FP rfl rfl) ?_
 apply rn;simp;refine aa.tX ?_;apply rn;simp;refine aa.G3 lay rfl rfl G6 rfl rA (by simp) rfl rfl λi E=>?_
 have a9:∀j,(aI f (jz j)).length<1000000000:=λj=>by unfold jz;grind
 have f1:-9223372036854775808<=((aI f (jz i)).length:Int)/\((aI f (jz i)).length:Int)<=9223372036854775807:=by grind
 apply rn;simp[gV.at,f1.1,f1.2];refine aa.again (by kernel_rfl) ?_
 apply rn;simp;refine aa.G3 lay rfl rfl G6 rfl rA (by simp) rfl rfl λo F=>?_
 have S:-9223372036854775808<=((aI f (jz i)).length:Int)+((aI f (jz o)).length:Int)/\((aI f (jz i)).length:Int)+((aI f (jz o)).length:Int)<=9223372036854775807:=by grind
 apply rn;simp[S.1,S.2];refine aa.again (by kernel_rfl) ?_
 apply rn;simp;refine aa.Bz lay rfl rfl G6 rfl rA (by simp) rfl rfl (by simp[ab.del,ab.set,za n,za d]) rfl t λa ha=>?_
 apply rn;simp
 have v:((aI f (jz i)).length:Int)+((aI f (jz o)).length:Int)=((aI f [0,0]).length:Int)+((aI f [0,1]).length:Int):=by
  have p:i∈List.range 2:=E;have z:o∈(List.range 2).erase i:=F;have:i=0\/i=1:=by simp_all
  rcases this with rfl|rfl
  . have:o=1:=by simp_all
    subst this;rfl
  . have:o=0:=by simp_all
    subst this;exact Int.add_comm _ _
 rw[v];obtain⟨la,rfl,G⟩:=ha;refine .done (h _ ⟨ab.ai _ _ _,la,(ab.ah _ _ (za q)).trans (ab.ai _ _ _),G⟩ λc x p z w=>?_)
 have H:c≠mb:=λe=>by
  subst e;rw[N]at p;cases p
  rcases w with w|w
  . exact w rfl
  . cases w
 have I:c≠cF:=λe=>by simp_all
 have J:c≠y:=λe=>by simp_all
 have K:c≠gb:=λe=>by simp_all
 have T:c≠B:=λe=>by subst e;simp[ab.del,ab.set,H,I,J,K,z,p]at C
 have e6:c≠D:=λe=>by subst e;simp[ab.del,ab.set,H,I,J,K,T,z,p]at u
 simp[ab.del,ab.set,H,I,J,K,T,e6,z,p]
end
section
variable{b mb:Nat}{f:Fr}{Un:acC}{Ld:ab->acb->Prop}
theorem FQ(Q:Lv prog m nn b 6 mb .u8 (kJ f) Un Ld)(hf:f.Good){G p}(z:G.cells=[G]/\G.flat=true)(U:∀w∈aI f [],∀  σ   KF ,KF (.val (bool (p w))) σ->bY prog m G [ints w] σ KF)(hlen:(aI f []).length<1152921504606846976)(hu:Un σ)
 (h:∀σ',Un σ'->oQ b mb σ σ'->KF (.val (.cu [int (((aI f []).filter p).length),int (aI f []).length])) σ'):az prog m 203 [lN b mb f 0,G] σ KF:=by
 refine fs Qp Tryz.func203 rfl (by kernel_rfl) ?_
 simp[Tryz.f203,z.1,z.2];refine bI.intro λj h6=>?_
 simp;refine bI.intro λd h7=>?_
 obtain⟨R,z2,h7⟩:=ab.aM h7;simp[R,z2,ab.ah];have hW:Wl [lN b mb f 0,AV.lit (.slice none 0 0)] [lN b mb f 0,ints []]:=.cons (.refl _) (.cons (gn 1) .nil);refine bU Tryz.func159 rfl rfl hW (BJ (begun:=[]) ?_);apply rn;simp;refine aa.rangeFunc rfl λV r l t u H=>?_
 obtain⟨a1,_,t⟩:=ab.aM t;obtain⟨a2,_,t⟩:=ab.aM t;obtain⟨_,_,t⟩:=ab.aM t;obtain⟨_,_,t⟩:=ab.aM t;obtain⟨a3,_,u⟩:=ab.aM u;obtain⟨a4,_,u⟩:=ab.aM u;obtain⟨_,_,u⟩:=ab.aM u;obtain⟨_,_,u⟩:=ab.aM u;have I:σ r=none/\r≠j/\r≠d:=⟨t,a2,a1⟩;have a:σ l=none/\l≠j/\l≠d:=⟨u,a4,a3⟩;generalize J:vZ.mk _ _ _ _ _ _ _ _ _=K
 have hY:SD m (.fn (.yield l) [] []) (aI f []) (λk F σ'=>(∀c,F c↔c=l\/c=j\/c=d)/\σ' l=some (.loop K)/\σ' j=some (.cells [int ((((aI f []).take k).filter p).length)])/\σ' d=some (.cells [int k])) (λF σ'=>False):=by
  refine⟨λk F σ' av hk D hT hF=>?_,λk F W n he D=>?_,λF W n he D=>D.elim,λk F σ' c D o=>?_⟩
  . obtain⟨i,S,X,Y⟩:=D
    have e7:∀x,(σ'.set l x) d=some (.cells [int k]):=λx=>(ab.ah _ _ (za a.2.2)).trans Y
    have f1:-9223372036854775808<=(k:Int)+1/\(k:Int)+1<=9223372036854775807:=by omega
    have ax:(((aI f []).take k).filter p).length<=k:=ZV (abw _ _) (by grind)
    have f2:-9223372036854775808<=((((aI f []).take k).filter p).length:Int)+1/\((((aI f []).take k).filter p).length:Int)+1<=9223372036854775807:=by omega
    have Z:(((aI f []).take (k+1)).filter p).length=(((aI f []).take k).filter p).length+if p (aI f [])[k]then 1 else 0:=by
     rw[zD hk,aaT,ZU]
     grind
    have L:(aI f [])[k]∈aI f []:=zA hk;subst J;refine bY.wM (hold:=Qp) V Tryz.func203 S rfl ?_;apply rn;simp[mS];refine aa.beginRound S rfl ?_;apply rn;simp[e7,f1.1,f1.2,z.1];refine U _ L _ _ ?_;have e6:∀x y,((σ'.set l x).set d y) j=some (.cells [int ((((aI f []).take k).filter p).length)]):=λx y=>(ab.ah _ _ (za R)).trans ((ab.ah _ _ (za a.2.1)).trans X)
    cases hp:p (aI f [])[k]
    . apply rn
      simp;refine⟨rfl,rfl,_,((ab.ah _ _ a.2.2).trans (ab.ai _ _ _)),?_⟩;refine hT F _ (λc x o hx=>⟨?_,o⟩) ⟨i,ab.ai _ _ _,?_,(ab.ah _ _ (za a.2.2)).trans (ab.ai _ _ _)⟩
      . have A:c≠l:=λe=>o ((i c).2 (.inl e))
        have M:c≠d:=λe=>o ((i c).2 (.inr (.inr e)))
        exact(ab.ah _ _ A).trans ((ab.ah _ _ M).trans ((ab.ah _ _ A).trans hx))
      . refine(ab.ah _ _ (za a.2.1)).trans ((e6 _ _).trans ?_)
        simp_all
    . apply rn
      simp[e6,f2.1,f2.2];refine⟨rfl,rfl,_,((ab.ah _ _ a.2.1).trans ((ab.ah _ _ a.2.2).trans (ab.ai _ _ _))),?_⟩;refine hT F _ (λc x o hx=>⟨?_,o⟩) ⟨i,ab.ai _ _ _,?_,(ab.ah _ _ (za a.2.2)).trans ((ab.ah _ _ R).trans (ab.ai _ _ _))⟩
      . have A:c≠l:=λe=>o ((i c).2 (.inl e))
        have T:c≠j:=λe=>o ((i c).2 (.inr (.inl e)))
        have M:c≠d:=λe=>o ((i c).2 (.inr (.inr e)))
        exact(ab.ah _ _ A).trans ((ab.ah _ _ T).trans ((ab.ah _ _ M).trans ((ab.ah _ _ A).trans hx)))
      . refine(ab.ah _ _ (za a.2.1)).trans ((ab.ai _ _ _).trans ?_)
        simp_all
  . simp_all
  . obtain⟨i,S,X,Y⟩:=D
    rcases(i c).1 o with rfl|rfl|rfl
    . exact⟨_,S,rfl⟩
    . exact⟨_,X,rfl⟩
    . exact⟨_,Y,rfl⟩
 obtain⟨xb,ay,aC⟩:=Q.Sz hu;have nb:∀c,σ c=none->c≠b:=λc o e=>by simp_all
 have N:σ.Le ((((((σ.set j (.cells [int 0])).set d (.cells [int 0])).set j (.cells [int 0])).set d (.cells [int 0])).set r (.raw (.deferred (some [])))).set l (.loop K)):=(by repeat (first|exact ab.le_refl _|assumption|refine ab.ez ?_ (by assumption)|refine ab.lx ?_ (by assumption)))
 have sr:((((((σ.set j (.cells [int 0])).set d (.cells [int 0])).set j (.cells [int 0])).set d (.cells [int 0])).set r (.raw (.deferred (some [])))).set l (.loop K)) r=some (.raw (.deferred (some []))):=(ab.ah _ _ H).trans (ab.ai _ _ _);have s7:((((((σ.set j (.cells [int 0])).set d (.cells [int 0])).set j (.cells [int 0])).set d (.cells [int 0])).set r (.raw (.deferred (some [])))).set l (.loop K)) d=some (.cells [int 0]):=(ab.ah _ _ (za a.2.2)).trans ((ab.ah _ _ (za I.2.2)).trans (ab.ai _ _ _))
 have s6:((((((σ.set j (.cells [int 0])).set d (.cells [int 0])).set j (.cells [int 0])).set d (.cells [int 0])).set r (.raw (.deferred (some [])))).set l (.loop K)) j=some (.cells [int 0]):=(ab.ah _ _ (za a.2.1)).trans ((ab.ah _ _ (za I.2.1)).trans ((ab.ah _ _ (za R)).trans (ab.ai _ _ _)));refine dY Tryz.func184 rfl rfl rfl (xW (F:=λc=>c=l\/c=j\/c=d) Q hf (by simp) hY ⟨rfl,rfl⟩ (Q.un (λc _ ⟨x,s,_⟩=>(N _ _ s).trans s.symm) hu) ⟨λc=>aaf,ab.ai _ _ _,by simp_all,by omega⟩ λF' σ' O a7 v=>?_)
 have P:=(O r _ sr (λe=>by omega) (nb r t) (.inr rfl)).1
 have B:oQ b mb σ σ':=λc x s E C=>(O c x (N c x s) (λe=>by grind) E C).1
 have a8:∀n,n=(σ'.del l).set r (.raw (.deferred none))->Un n/\oQ b mb σ n:=λn e=>by
  subst e;refine⟨Q.un (σ:=σ') (λc _ ⟨x,s,E⟩=>?_) a7,λc x s E C=>?_⟩
  . have c1:c≠r:=λe=>by subst e;rw[P]at s;cases s;cases E
    have c2:c≠l:=λe=>by
     subst e
     rcases v with⟨_,g,_⟩|g
     . rw[g]at s;cases s;cases E
     omega
    rw[ab.ah _ _ c1];simp[ab.del,c2]
  . have c1:c≠r:=λe=>by simp_all
    have c2:c≠l:=λe=>by simp_all
    rw[ab.ah _ _ c1];simp only[ab.del,c2,Rp];exact B c x s E C
 rcases v with⟨_,A,T,M⟩|q
 . rw[ZY]at T
   subst J;refine⟨_,A,by simp,rfl,?_⟩
   have a9:(σ'.del l) j=some (.cells [int ((aI f []).filter p).length]):=by simp only[ab.del,za a.2.1,Rp];exact T
   have ad:(σ'.del l) d=some (.cells [int (aI f []).length]):=by simp only[ab.del,za a.2.2,Rp];exact M
   apply rn;simp[a9,ad];apply rn;simp;refine⟨by simp only[ab.del,H,Rp];exact P,.done ?_⟩
   simp_all
 simp_all
end
theorem Af  f   begun :∀  fuel   cT   many   c ,∀w∈fT f begun fuel cT many c,w.length=cT.length+fuel
 |0,cT,many,c,w,b=>by simp[fT]at b;grind
 | fuel+1,cT,many,c,w,b=>by
   rw[rB,abc]at b;obtain⟨k,_,a⟩:=b;unfold oT at a;split at a
   . cases a
   split at a
   . have:=Af f begun fuel _ _ _ w a
     grind
   . cases a
section
variable{b mb:Nat}{f:Fr}{Un:acC}{Ld:ab->acb->Prop}
def lQ(x y:Int)(w:acy):Bool:=decide (w.getD x.toNat 0=w.getD y.toNat 0)
theorem M0{w x y}(a:0<=x/\x.toNat<w.length)(b:0<=y/\y.toNat<w.length)(h:KF (.val (bool (lQ x y w))) σ):az prog m 204 [ints w,.cp (int x) 0,.cp (int y) 0] σ KF:=by
 have c:w.getD x.toNat 0=w[x.toNat]:=by simp_all
 have d:w.getD y.toNat 0=w[y.toNat]:=by simp_all
 unfold lQ at h;rw[c,d]at h;refine fs UH Tryz.func204 rfl (by kernel_rfl) ?_;simp[Tryz.f204,a.1,a.2,b.1,b.2];apply rn;simp;refine .done ?_;omega
theorem Pn(c:Lv prog m nn b 6 mb .u8 (kJ f) Un Ld)(d:f.Good){x y}(e:0<=x/\x.toNat<f.aD.length)(g:0<=y/\y.toNat<f.aD.length)(hlen:(aI f []).length<1152921504606846976)(i:Un σ)
 (h:∀σ',Un σ'->oQ b mb σ σ'->KF (.val (int (lf (((aI f []).filter (lQ x y)).length:Int) (aI f []).length))) σ'):az prog m 181 [lN b mb f 0,int x,int y] σ KF:=by
 have a:∀w∈aI f [],w.length=f.aD.length:=λw a=>by have:=Af f [] _ _ _ _ w a;simp_all
 refine fs [] Tryz.func181 rfl (by kernel_rfl) ?_
 simp[Tryz.f181];refine cf Tryz.func203 rfl (FQ c d (p:=lQ x y) ⟨rfl,rfl⟩ (λw j σ KF k=>dY Tryz.func204 rfl rfl rfl (M0 ⟨e.1,by simp_all⟩ ⟨g.1,by simp_all⟩ k)) hlen i λσ' l n=>?_)
 apply rn;simp;refine cf Tryz.func202 rfl (FB ?_);apply rn;simp;exact .done (h σ' l n)
end
theorem Jo(r:m.solo=true){f}{l:acy}{sp}(o:f.Fits)(p:check f=0)(s:∀n∈l,0<=n/\n<f.aD.length)(j:l.length<1152921504606846976)(g:aI f []≠[])(h:∀b mb σ',b≠mb->SA b 6 mb .u8 (kJ f) σ'->σ b=none/\σ mb=none->σ.Le σ'->KF (.val (.cu [lN b mb f 0,int 0])) σ'):az prog m 180 [cM f,.sl 1 (l.map int) sp] σ KF:=by
 have t:=Fr.pJ o p;have u:=FA p s;refine fs [] Tryz.func180 rfl (by kernel_rfl) ?_
 simp[Tryz.f180];have v:Wl [AV.agg (G8 f),.sl 1 (l.map int) sp] [cM f,ints l]:=.cons (.refl _) (.cons (ik 1 _ sp) .nil);refine bU Tryz.func113 rfl rfl v (Hb o j (λq=>absurd u q) λ_ b mb σ' d=>?_)
 have w:SA b 6 mb .u8 (kJ f) σ':=by rw[d.eq];exact⟨ab.ai _ _ _,[],(ab.ah _ _ (za d.ne)).trans (ab.ai _ _ _),λn a h=>by simp[di]at h⟩
 apply rn;simp;refine cf Tryz.func201 rfl (Pm (Dk Ad Ae Rs r d.ne) t w λk y z=>?_)
 apply rn;simp[g];refine .done (h b mb k d.ne y ⟨d.hb,d.B7⟩ λc x i=>?_)
 have A:c≠b:=λe=>by subst e;rw[d.hb]at i;cases i
 have B:c≠mb:=λe=>by subst e;rw[d.B7]at i;cases i
 exact z c x (d.le c x i) A (.inl B)
theorem Po(j:m.solo=true){f}{x y:Int}(k:f.Fits)(o:check f=0)(d:0<=x/\x<f.aD.length)(p:0<=y/\y<f.aD.length)(a:aI f []≠[])(hlen:(aI f []).length<1152921504606846976)(h:KF (.val (.cu [int (lf (((aI f []).filter (lQ x y)).length:Int) (aI f []).length),int 0])) σ):az prog m 148 [cM f,int x,int y] σ KF:=by
 have q:=Fr.pJ k o;refine fs [] Tryz.func148 rfl (by kernel_rfl) ?_;simp[Tryz.f148];refine cf Tryz.func180 rfl (Jo (l:=[x,y]) (sp:=.exact) j k o (λn A=>by grind) (by simp) a λb mb r g s t i=>?_);apply rn;simp;refine cf Tryz.func181 rfl (Pn (Dk Ad Ae Rs j g) q ⟨d.1,by omega⟩ ⟨p.1,by omega⟩ hlen s λu B v=>?_);apply rn;simp;refine .less (λc x d=>?_) (.done h);have w:c≠b:=λe=>by simp_all
 have z:c≠mb:=λe=>by simp_all
 exact v c x (i c x d) w (.inl z)
theorem M3(l:m.solo=true){f}(j:f.Fits)(k:check f=0)(hlen:(aI f [0,0]).length<1000000000/\(aI f [0,1]).length<1000000000)(h:KF (.val (.cu [int (gJ f),int 0])) σ):az prog m 74 [cM f] σ KF:=by
 have o:=Fr.pJ j k;have p:=Dw k;refine fs [] Tryz.func74 rfl (by kernel_rfl) ?_
 simp[Tryz.f74];have r:Wl [AV.agg (G8 f),AV.lit (.slice none 0 0)] [cM f,ints []]:=.cons (.refl _) (.cons (gn 1) .nil);refine bU Tryz.func113 rfl rfl r (Hb j (by simp) (λq=>absurd p q) λ_ b mb i d=>?_)
 have s:SA b 6 mb .u8 (kJ f) i:=by rw[d.eq];exact⟨ab.ai _ _ _,[],(ab.ah _ _ (za d.ne)).trans (ab.ai _ _ _),λn a h=>by simp[di]at h⟩
 apply rn;simp;refine cf Tryz.func114 rfl (MZ l o hlen d.ne s λt y u=>?_)
 apply rn;simp;refine .less (λc x g=>?_) (.done h)
 have v:c≠b:=λe=>by subst e;rw[d.hb]at g;cases g
 have w:c≠mb:=λe=>by subst e;rw[d.B7]at g;cases g
 exact u c x (d.le c x g) v (.inl w)
def bE(w:acy):Int:=w.foldl (λn k=>max n (k+1)) 0
theorem M4{l l'}(j:l.length=l'.length)(e:∀(i:Nat) a a',l[i]?=some a->l'[i]?=some a'->a.W a'):(AV.cu l).W (.cu l'):=λk x f=>by
 cases f with
 | cu c _ m g=>
   refine .cu c l' (by omega) λi v a' h b=>?_
   have d:i<l.length:=by grind
   exact e i l[i] a' (by simp[d]) b k v (g i v _ h (by simp[d]))
theorem Hd:∀{es},(∀a∈es,a.cells=[a])->flatten es=es
 |[],_=>rfl
 |a::es,h=>by rw[flatten_cons,h a (abG ..),Hd λx b=>h x (aaQ _ b)];rfl
theorem UX{es d sp}(n:es.length=d.length)(o:∀a∈es,a.cells=[a])(f:∀a∈d,a.cells=[a])(p:∀(i:Nat) a a',es[i]?=some a->d[i]?=some a'->a.W a'):(AV.sl 1 es sp).W (.sl 1 d .any):=λk x q=>by
 cases q with
 | sl b off cap v N E _ _ c h r s w t l y=>
   rw[Hd o]at t l;rw[n]at h ⊢;refine .sl b off cap 1 N E d .any c h r s (λe z=>by simp_all) (λj g=>?_) (λj a m=>?_) trivial
   . rw[Hd f]at g
     simp_all
   . rw[Hd f]at m
     have g:j<es.length:=by grind
     exact p j es[j] a (by simp[g]) m k _ (l j _ (by simp[g]))
 | slnil u=>
   have:d=[]:=by grind
   subst this;exact .slnil u 1 .any (.inl rfl)
theorem lR{l l'}(j:l.length=l'.length)(e:∀(i:Nat) a a',l[i]?=some a->l'[i]?=some a'->a.W a'):(AV.agg l).W (.agg l'):=λk x f=>by
 cases f with
 | agg c _ m g=>
   refine .agg c l' (by omega) λi v a' h b=>?_
   have d:i<l.length:=by grind
   exact e i l[i] a' (by simp[d]) b k v (g i v _ h (by simp[d]))
def bg(c:Nat)(nums:acy)(k:Nat)(σ:ab):Prop:=∃(n:Nat) (s:Int),n<=k/\σ c=some (.cells [ints nums,int n,.lit (.int .u64 s)])
theorem Jp{nums}(h:∀c σ',σ c=none->bg c nums 0 σ'->(∀x,x≠c->σ' x=σ x)->KF (.val (.ref c 0)) σ'):az prog m 10 [ints nums] σ KF:=by
 refine az.start lay [5] [] 1 Tryz.func10 rfl rfl (by rfl) (by kernel_rfl) ?_;simp[Tryz.f10];refine bI.intro λc a=>?_
 simp;exact .done (h c _ a ⟨0,_,ZX _,ab.ai _ _ _⟩ λx b=>ab.ah _ _ b)
theorem Pp  a b :0<=IntKind.u64.wrap (((BitVec.ofInt 64 a ^^^ BitVec.ofInt 64 b).toNat:Nat):Int)/\IntKind.u64.wrap (((BitVec.ofInt 64 a ^^^ BitVec.ofInt 64 b).toNat:Nat):Int)<18446744073709551616:=by generalize (((BitVec.ofInt 64 a ^^^ BitVec.ofInt 64 b).toNat:Nat):Int)=x;simp only[IntKind.wrap,IntKind.signed,IntKind.bits];simp;omega
theorem M5{x:Int}(h:0<=x/\x<18446744073709551616):0<=x.fdiv (2 ^ min 11 IntKind.u64.bits)/\x.fdiv (2 ^ min 11 IntKind.u64.bits)<9007199254740992:=by
 have e:(2:Int) ^ min 11 IntKind.u64.bits=2048:=by decide
 grind
theorem Pq{c k nums}(B:k<1000000)(C:nums.length<1152921504606846976)(hb:bg c nums k σ)(h:∀  x  σ',0<=x/\x<9007199254740992->bg c nums (k+1) σ'->(∀y,y≠c->σ' y=σ y)->KF (.val (.lit (.int .u64 x))) σ'):az prog m 53 [.ref c 0] σ KF:=by
 obtain⟨n,s,w,l⟩:=hb;have t:-9223372036854775808<=(n:Int)+1/\(n:Int)+1<=9223372036854775807:=by omega
 obtain⟨fm,d⟩:∃f:Int->Int->Int,∀a b,oU .mul .u64 a b=some (.int .u64 (f a b)):=⟨_,λ_ _=>rfl⟩;obtain⟨D,g,r⟩:∃f:Int->Int->Int,(∀a b,oU .xor .u64 a b=some (.int .u64 (f a b)))/\∀a b,0<=f a b/\f a b<18446744073709551616:=⟨_,λ_ _=>rfl,Pp⟩;refine az.Fi lay [] Wp 27 1 Tryz.func53 rfl rfl (by rfl) (by kernel_rfl) ?_;simp[Tryz.f53,l,t.1,t.2,aG,d];refine aa.eu (λe i=>e 0=.ref c 0/\(∃z,e 3=.lit (.int .u64 z))/\i c=some (.cells [ints nums,int ((n:Int)+1),.lit (.int .u64 s)])/\∀y,y≠c->i y=σ y) (by simp;intro y p;exact ab.ah _ _ p) ?_;clear l;rintro env i ⟨o,⟨z,q⟩,l,j⟩;refine aa.runN lay [] 2 ?_;simp[o,l];refine aa.runN lay [] 2 ?_;simp;refine aH.intro (λu=>?_) (λu=>?_)<;>simp[-Int.not_lt,-Int.not_le,-Nat.not_lt,-Nat.not_le]at u
 . have E:(n:Int)<nums.length:=by omega
   have A:n<nums.length:=by omega
   have v:-9223372036854775808<=(n:Int)/\(n:Int)<=9223372036854775807:=by omega
   simp[o,q,l,A,v.1,v.2,d,g];refine aa.eu (λe i=>e 0=.ref c 0/\(∃z,e 3=.lit (.int .u64 z))/\i c=some (.cells [ints nums,int ((n:Int)+1),.lit (.int .u64 s)])/\∀y,y≠c->i y=σ y) (by simp_all) ?_;clear o q l j;rintro env i ⟨o,⟨z,q⟩,l,j⟩;apply rn;simp[o,q,l,d,g,aG];refine aa.eu (λe i=>e 0=.ref c 0/\(∃s,i c=some (.cells [ints nums,int ((n:Int)+1),.lit (.int .u64 s)]))/\∀y,y≠c->i y=σ y) (by refine⟨by simp[o],⟨_,by simp;rfl⟩,λy p=>?_⟩;simp[ab.ah,p,j y p]) ?_;clear o q l j;rintro env i ⟨o,⟨z,l⟩,j⟩;apply rn;simp[o,l,d,g];refine .done (h _ i (M5 (r _ _)) ⟨n+1,z,by omega,by simp_all⟩ j)
 . simp
   apply rn;simp[o,q,l,d,g,aG];refine aa.eu (λe i=>e 0=.ref c 0/\(∃s,i c=some (.cells [ints nums,int ((n:Int)+1),.lit (.int .u64 s)]))/\∀y,y≠c->i y=σ y) (by refine⟨by simp[o],⟨_,by simp;rfl⟩,λy p=>?_⟩;simp[ab.ah,p,j y p]) ?_;clear o q l j;rintro env i ⟨o,⟨z,l⟩,j⟩;apply rn;simp[o,l,d,g];refine .done (h _ i (M5 (r _ _)) ⟨n+1,z,by omega,by simp_all⟩ j)
def ov(c:Nat)(nums:acy)(k:Nat)(σ σ':ab):Prop:=bg c nums k σ'/\∀y,y≠c->σ' y=σ y
theorem ov.trans{c nums k k' σ σ' a}(h:ov c nums k σ σ')(b:ov c nums k' σ' a):ov c nums k' σ a:=⟨b.1,λy d=>(b.2 y d).trans (h.2 y d)⟩
theorem bg.mono{c nums k k'}(h:bg c nums k σ)(b:k<=k'):bg c nums k' σ:=by obtain⟨n,s,d,a⟩:=h;exact⟨n,s,by omega,a⟩
theorem M6{n}(h:0<=n/\n<18446744073709551616):IntKind.u64.wrap n=n:=by simp only[IntKind.wrap,IntKind.signed,IntKind.bits];simp;omega
theorem Rt{n}(h:-9223372036854775808<=n/\n<=9223372036854775807):IntKind.i64.wrap n=n:=by simp[IntKind.wrap,IntKind.signed,IntKind.bits];omega
section
variable{c k:Nat}{nums:acy}
theorem eh{n}(f:k<1000000)(g:nums.length<1152921504606846976)(i:-4611686018427387904<=n/\n<4611686018427387904)(hb:bg c nums k σ)(h:∀  x  σ',0<=x/\(x<=n\/x=0)->ov c nums (k+1) σ σ'->KF (.val (int x)) σ'):az prog m 18 [.ref c 0,int n] σ KF:=by
 refine fs [] Tryz.func18 rfl (by kernel_rfl) ?_;simp[Tryz.f18];refine cf Tryz.func53 rfl (Pq f g hb λx σ' j a b=>?_);apply rn;simp;refine aH.intro (λd=>?_) (λd=>?_)<;>simp[-Int.not_lt,-Int.not_le]at d
 . simp
   exact .done (h 0 σ' ⟨by omega,.inr rfl⟩ ⟨a,b⟩)
 . have l:IntKind.u64.wrap n=n:=M6 (by omega)
   have o:oU .add .u64 n 1=some (.int .u64 (n+1)):=by show some (Value.int .u64 (IntKind.u64.wrap (n+1)))=_;rw[M6 (by omega)]
   obtain⟨r,e,p⟩:∃r:Int,(0<=r/\r<=n)/\oU .rem .u64 x (n+1)=some (.int .u64 r):=by
    refine⟨x.tmod (n+1),⟨Int.tmod_nonneg _ j.1,?_⟩,by simp[oU];omega⟩;have:=Int.tmod_lt_of_pos x (show 0<n+1 by omega);omega
   have q:IntKind.i64.wrap r=r:=Rt (by omega);simp[l,o,p,q];exact .done (h r σ' ⟨e.1,.inl e.2⟩ ⟨a,b⟩)
theorem dM{lo hi}(d:k<1000000)(e:nums.length<1152921504606846976)(f:-1000000000<=lo/\lo<=1000000000)(g:-1000000000<=hi/\hi<=1000000000)(hb:bg c nums k σ)(h:∀  x  σ',lo<=x/\(x<=hi\/x=lo)->ov c nums (k+1) σ σ'->KF (.val (int x)) σ'):az prog m 19 [.ref c 0,int lo,int hi] σ KF:=by
 have a:-9223372036854775808<=hi-lo/\hi-lo<=9223372036854775807:=by omega
 refine fs [] Tryz.func19 rfl (by kernel_rfl) ?_;simp[Tryz.f19,a.1,a.2];refine cf Tryz.func18 rfl (eh d e ⟨by omega,by omega⟩ hb λx σ' i hd=>?_);have b:-9223372036854775808<=lo+x/\lo+x<=9223372036854775807:=by omega
 apply rn;simp[b.1,b.2];exact .done (h _ σ' ⟨by omega,by omega⟩ hd)
theorem mJ{l:acy}{sp}(d:k<1000000)(f:nums.length<1152921504606846976)(i:0<l.length/\l.length<1000000)(hb:bg c nums k σ)(h:∀  x  σ',x∈l->ov c nums (k+1) σ σ'->KF (.val (int x)) σ'):az prog m 54 [.ref c 0,.sl 1 (l.map int) sp] σ KF:=by
 have a:-9223372036854775808<=(l.length:Int)-1/\(l.length:Int)-1<=9223372036854775807:=by omega
 refine fs [] Tryz.func54 rfl (by kernel_rfl) ?_;simp[Tryz.f54,a.1,a.2];refine cf Tryz.func18 rfl (eh d f ⟨by omega,by omega⟩ hb λx σ' g hd=>?_);have b:x.toNat<l.length:=by omega
 have j:x<l.length:=by omega
 have e:(x.toNat:Int)=x:=by omega
 apply rn;simp[g.1,b];exact .done (h _ σ' (zA b) hd)
theorem sT{n}(b:k<1000000)(d:nums.length<1152921504606846976)(e:0<=n/\n<1000000000)(hb:bg c nums k σ)(h:∀  x  σ',ov c nums (k+1) σ σ'->KF (.val (bool x)) σ'):az prog m 20 [.ref c 0,int n] σ KF:=by
 have a:-9223372036854775808<=n-1/\n-1<=9223372036854775807:=by omega
 refine fs [] Tryz.func20 rfl (by kernel_rfl) ?_;simp[Tryz.f20,a.1,a.2];refine cf Tryz.func18 rfl (eh b d ⟨by omega,by omega⟩ hb λx σ' f hd=>?_);apply rn;simp;exact .done (h _ σ' hd)
end
structure xY  dS  (e:xO):Prop where
 hour:0<=e.hour/\e.hour<=40
 place:0<=e.place/\e.place<dS
 cR:0<=e.cR/\e.cR<=1
 marks:e.marks.Sublist [0,1,2]
 bs:14<=e.bs/\e.bs<=16
 jD:0<=e.jD/\e.jD<=2
theorem lh{l}(h:l.Sublist [0,1,2]):sN none l=0/\l.length<=3:=by cases h<;>(rename_i h;cases h<;>(rename_i h;cases h<;>(rename_i h;cases h;decide)))
theorem xY.check{dS e}(h:xY dS e):cH dS e=0:=by
 obtain⟨b,c,d,a,f,g⟩:=h;have a:=(lh a).1;unfold cH bu
 grind
theorem qv{σ0 σ σ2 a kk es c}(h:Tok σ0 σ a kk es)(g:σ0 c=none)(i:∃l,σ c=some (.cells l))(d:∀y,y≠c->σ2 y=σ y):Tok σ0 σ2 a kk es:=by
 refine⟨λy x f=>?_,?_⟩
 . have:y≠c:=λe=>by simp_all
   rw[d y this];exact h.1 y x f
 rcases h.2 with q|q|⟨b,e,j,k,m⟩
 . exact .inl q
 . simp_all
 grind
section
variable{c k:Nat}{nums:acy}
theorem DF{dS}(hk:k+11<1000000)(t:nums.length<1152921504606846976)(b4:0<=dS/\dS<=1000)(hb:bg c nums k σ)(h:∀  e  σ',xY (max dS 1) e->ov c nums (k+11) σ σ'->KF (.val (bn e)) σ'):az prog m 84 [.ref c 0,int dS] σ KF:=by
 have r1:-9223372036854775808<=dS-1/\dS-1<=9223372036854775807:=by omega
 obtain⟨n0,s0,_,a8⟩:=id hb;refine fs [] Tryz.func84 rfl (by kernel_rfl) ?_
 simp[Tryz.f84];refine bI.intro λc4 h4=>?_
 have n4:c≠c4:=λe=>by simp_all
 have u:∀x,bg c nums k (σ.set c4 x):=λx=>⟨n0,s0,by assumption,by rw[ab.ah _ _ n4];exact a8⟩
 simp;refine cf Tryz.func18 rfl (eh (by omega) t ⟨by omega,by omega⟩ (u _) λd b5 b6 I=>?_)
 apply rn;simp;refine cf Tryz.func18 rfl (eh (by omega) t ⟨by omega,by omega⟩ I.1 λg f b7 J=>?_)
 apply rn;simp;refine cf Tryz.func18 rfl (eh (by omega) t ⟨by omega,by omega⟩ J.1 λx3 w b8 K=>?_)
 apply rn;simp;refine cf Tryz.func54 rfl (mJ (l:=[d,g,x3]) (by omega) t (by simp) K.1 λF b9 a9 L=>?_)
 apply rn;simp[r1.1,r1.2];refine cf Tryz.func18 rfl (eh (by omega) t ⟨by omega,by omega⟩ L.1 λpl bm bw M=>?_)
 apply rn;simp;refine cf Tryz.func54 rfl (mJ (l:=[0,0,0,1]) (by omega) t (by simp) M.1 λco bA ad N=>?_)
 apply rn;simp;refine cf Tryz.func54 rfl (mJ (l:=[14,14,15,15,16]) (by omega) t (by simp) N.1 λG bB al O=>?_)
 apply rn;simp;refine cf Tryz.func54 rfl (mJ (l:=[0,0,1,2]) (by omega) t (by simp) O.1 λsh P av Q=>?_)
 apply rn;simp;refine bI.intro λv h5=>?_
 simp;have o:ov c nums (k+8) (σ.set c4 (.cells [int 0,int 0,int 0,.lit (.slice none 0 0),int 0,int 0])) P:=I.trans (J.trans (K.trans (L.trans (M.trans (N.trans (O.trans Q))))));have R:c4≠c:=za n4;have ax:P c4=some (.cells [int 0,int 0,int 0,.lit (.slice none 0 0),int 0,int 0]):=by rw[o.2 c4 R,ab.ai]
 have S:v≠c:=λe=>by subst e;obtain⟨_,_,_,q⟩:=Q.1;simp_all
 have A:v≠c4:=λe=>by simp_all
 have ay:σ v=none:=by rw[o.2 v S,ab.ah _ _ A]at h5;exact h5
 have aC:0<=F/\F<=40:=by simp at a9;omega
 have aE:0<=co/\co<=1:=by simp at ad;omega
 have aL:14<=G/\G<=16:=by simp at al;omega
 have aO:0<=sh/\sh<=2:=by simp at av;omega
 have b0:0<=pl/\pl<max dS 1:=by omega
 refine aa.loop 3 (λj s=>∃env σ' a mk,s=⟨env,σ',[],.no⟩/\env 0=.ref c 0/\env 4=.ref c4 0/\env 5=.ref v 0/\env 6=int j/\bg c nums (k+8+j) σ'/\σ' c4=some (.cells [int 0,int 0,int 0,.lit (.slice none 0 0),int 0,int 0])/\σ' v=some (.cells [int F,int pl,int co,a,int G,int sh])/\Tok (σ.del c) σ' a 1 (mk.map int)/\mk.Sublist ((List.range j).map λi:Nat=>(i:Int))) ⟨_,_,.lit (.slice none 0 0),[],rfl,by simp,by simp,by simp,by simp,?_,?_,?_,?_,by simp⟩ ?_
 . obtain⟨n,z,h1,h2⟩:=o.1
   exact⟨n,z,by omega,by rw[ab.ah _ _ (za S)];exact h2⟩
 . rw[ab.ah _ _ (za A)];exact ax
 . simp
 . refine⟨λy x r=>?_,.inl ⟨rfl,rfl⟩⟩
   have H:y≠c:=λe=>by subst e;simp[ab.del]at r
   have y0:σ y=some x:=by simpa[ab.del,H]using r
   have y5:y≠v:=λe=>by simp_all
   have y4:y≠c4:=λe=>by simp_all
   rw[ab.ah _ _ y5,o.2 y H,ab.ah _ _ y4];exact y0
 rintro c0 j _ hj ⟨env,σ',a,mk,rfl,e0,e4,T,U,B,q4,q5,p,C⟩ ih
 have c6:mk.length<=j:=by grind
 rcases aap j 3 with g1|g1
 . have b1:(j:Int)<3:=by omega
   apply rn;simp[e0,U,b1];refine cf Tryz.func20 rfl (sT (by omega) t ⟨by omega,by omega⟩ B λx f hd=>?_)
   have b2:∃l,σ' c=some (.cells l):=by obtain⟨_,_,_,q⟩:=B;grind
   have b:Tok (σ.del c) f a 1 (mk.map int):=qv p (by simp[ab.del]) b2 hd.2
   have V:=b.cells;have s4:f c4=some (.cells [int 0,int 0,int 0,.lit (.slice none 0 0),int 0,int 0]):=by rw[hd.2 c4 R];exact q4
   have s5:f v=some (.cells [int F,int pl,int co,a,int G,int sh]):=by rw[hd.2 v S];exact q5
   have X:(List.range (j+1)).map (λi:Nat=>(i:Int))=(List.range j).map (λi:Nat=>(i:Int))++[(j:Int)]:=by rw[aai,aab];rfl
   have f1:-9223372036854775808<=(j:Int)+1/\(j:Int)+1<=9223372036854775807:=by omega
   apply rn;simp;cases x with
   | false=>
     simp[U,f1.1,f1.2];refine ih _ g1 ⟨_,_,a,mk,rfl,by simp[e0],by simp[e4],by simp[T],by simp,hd.1,s4,s5,b,?_⟩
     rw[X];exact C.trans (List.sublist_append_left _ _)
   | true=>
     simp[T,U,s5];refine aN lay rfl rfl rfl dG rfl dG rfl rA (by decide) (by simp;omega) (σ0:=f.off a) (es:=mk.map int) (xs:=[int j]) (by simpa using b.here.1) (.inr ⟨_,rfl⟩) λa' w D=>?_
     have Y:=D.cells;have b3:∀y l,f y=some (.cells l)->bp a≠some y:=λy l r e=>by obtain⟨_,_,q⟩:=b.aR e;grind
     have k3:∀y l,f y=some (.cells l)->w y=some (.cells l):=λy l r=>D.1 _ _ (by rw[ab.du (b3 y l r)];exact r)
     have t5:=k3 _ _ s5;have t4:=k3 _ _ s4;apply rn;simp[T,U,f1.1,f1.2,t5,Y.1,Y.2,aG];obtain⟨nb,zb,u,E⟩:=hd.1;have tc:=k3 _ _ E
     have Z:Tok (σ.del c) w a' 1 ((mk++[(j:Int)]).map int):=by have:=D.base b.here.2;simpa using this
     refine ih _ g1 ⟨_,_,a',mk++[(j:Int)],rfl,by simp[e0],by simp[e4],by simp[T],by simp,⟨nb,zb,u,by rw[ab.ah _ _ (za S)];exact tc⟩,by rw[ab.ah _ _ (za A)];exact t4,ab.ai _ _ _,Z.beside (by simp[ab.del,S,ay]) (λe=>by obtain⟨_,_,q⟩:=Z.aR e;grind),?_⟩
     rw[X];exact C.append (List.Sublist.refl _)
 . have:j=3:=by omega
   subst this;have V:=p.cells;apply rn;simp[e4,T,U,q4,q5,V.2,aG];obtain⟨nb,zb,u,E⟩:=B;have a7:mk.Sublist [0,1,2]:=C;refine .na (a':=bn ⟨F,pl,co,mk,G,sh⟩) (lR rfl λi x y d g=>?_) (.less (σ':=σ.set c (.cells [ints nums,int nb,.lit (.int .u64 zb)])) (λy x r=>?_) (.done (h ⟨F,pl,co,mk,G,sh⟩ _ ⟨aC,b0,aE,a7,aL,aO⟩ ⟨⟨nb,zb,by omega,ab.ai _ _ _⟩,λy r=>ab.ah _ _ r⟩)))
   . match i with
     |0=>simp at d g;subst d;subst g;exact .refl _
     |1=>simp at d g;subst d;subst g;exact .refl _
     |2=>simp at d g;subst d;subst g;exact .refl _
     |3=>simp at d g;subst d;subst g;exact p.W
     |4=>simp at d g;subst d;subst g;exact .refl _
     |5=>simp at d g;subst d;subst g;exact .refl _
     |i+6=>simp at d
   . by_cases H:y=c
     . subst H
       rw[ab.ai]at r;rw[ab.ah _ _ n4,E];exact r
     . rw[ab.ah _ _ H]at r
       have y4:y≠c4:=λe=>by grind
       rw[ab.ah _ _ y4];exact p.1 y x (by simpa[ab.del,H]using r)
theorem ow{dS}(b:k+11<1000000)(d:nums.length<1152921504606846976)(a:1<=dS/\dS<=1000)(hb:bg c nums k σ)(h:∀  e  σ',xY dS e->ov c nums (k+11) σ σ'->KF (.val (bn e)) σ'):az prog m 84 [.ref c 0,int dS] σ KF:=DF b d ⟨by omega,a.2⟩ hb λe σ' f hd=>h e σ' (by grind) hd
end
structure vO  n   lo  (r:aca):Prop where
 len:r.length=n
 row:∀l∈r,l.length=n
 diag:∀i,i<n->rd r i i=0
 sym:∀i j,i<n->j<n->rd r i j=rd r j i
 off:∀i j,i<n->j<n->i≠j->lo<=rd r i j/\rd r i j<=2*lo
structure uf  cnt  (f:Fr):Prop where
 cL:1<=f.cL/\f.cL<=4
 aW:f.aW=1\/f.aW=2\/f.aW=3\/f.aW=6
 dS:1<=f.roads.length/\f.roads.length<=3
 LH:∃lo ,(0<=lo/\lo<=4)/\vO f.roads.length lo f.roads
 fr:0<=f.aP/\f.aP<=2
 to:f.aP<=f.dH/\f.dH<=2
 len:(f.aD.length:Int)<=cnt
 u6:∀e∈f.aD,xY f.roads.length e
theorem vO.err{n lo r}(h:vO n lo r)(v:1<=n/\n<=3)(s:0<=lo/\lo<=4):fS r=0:=by
 have t:=h.len
 have hb:∀i j,i<n->j<n->0<=rd r i j/\rd r i j<=9:=λi j a b=>by
  by_cases e:i=j
  . subst e;rw[h.diag i a];omega
  . have:=h.off i j a b e;omega
 have f:∀l∈r,lO n l=0:=λl g=>by
  have w:=h.row l g
  have y:l.all (bu · 0 9)=true:=by
   rw[ZT];intro x m;obtain⟨i,a,rfl⟩:=aak.1 g;obtain⟨j,b,rfl⟩:=aak.1 m;have:=hb i j (by omega) (by omega);have e:rd r i j=r[i][j]:=by simp[rd,zG,a,b]
   rw[e]at this;simp[bu,this.1,this.2]
  unfold lO
  simp_all
 have d:∀l:aca,(∀x∈l,x∈r)->ig n l=0:=λl=>by
  induction l with
  |nil=>intro _;rfl
  | cons x l z=>
    intro m;unfold ig
    simp_all
 have u:((List.range n).any λi=>(List.range n).any λj=>dP r i j)=false:=by
  rw[aaZ];intro i a;rw[Bool.not_eq_true,aaZ];intro j b;have a:=ZN.1 a;have b:=ZN.1 b;unfold dP;rw[h.diag i a,h.sym i j a b,t]
  have A : ((List.range n).any λk=>decide (rd r j i>rd r i k+rd r k j))=false:=by
   rw[aaZ];intro k c;have c:=ZN.1 c;have B:=hb i k a c;have C:=hb k j c b;simp only[ZL,Int.not_lt,gt_iff_lt];by_cases o:i=j
   . subst o;rw[h.diag i a];omega
   . by_cases p:i=k
     . subst p;rw[h.diag i a,h.sym i j a b];omega
     . by_cases q:k=j
       . subst q;rw[h.diag k c,h.sym i k a c];omega
       . have D:=h.off j i b a (za o)
         have E:=h.off i k a c p;have F:=h.off k j c b q;omega
  simp_all
 unfold fS
 grind
theorem M7{M i k n}(hi:i<M.length)(a:k<(M.getD i []).length)  x y :rd (M.set i ((M.getD i []).set k n)) x y=if x=i/\y=k then n else rd M x y:=by
 unfold rd
 grind
def yZ(M:aca)(i k:Nat)(n:Int):aca:=(M.set i ((M.getD i []).set k n)).set k ((M.getD k []).set i n)
structure He  n   lo   i k  (M:aca):Prop where
 len:M.length=n
 row:∀j,j<n->(M.getD j []).length=n
 diag:∀x,x<n->rd M x x=0
 sym:∀x y,x<n->y<n->rd M x y=rd M y x
 off:∀x y,y<x->x<n->(x<i\/(x=i/\y<k))->lo<=rd M x y/\rd M x y<=2*lo
theorem Ag{M i k v}(hi:i<M.length)(b:k<M.length)(a:k≠i)  j :(yZ M i k v).getD j []=if j=k then(M.getD k []).set i v else if j=i then(M.getD i []).set k v else M.getD j []:=by
 unfold yZ
 grind
theorem Pr{n lo i k a b M v}(h:He n lo a b M)(hi:i<n)(c:k<n)(d:k≠i)  x y :rd (yZ M i k v) x y=if(x=i/\y=k)\/(x=k/\y=i)then v else rd M x y:=by
 have f:=h.len
 have e:rd (yZ M i k v) x y=if x=k/\y=i then v else rd (M.set i ((M.getD i []).set k v)) x y:=by
  have q:M.getD k []=(M.set i ((M.getD i []).set k v)).getD k []:=by grind
  unfold yZ;rw[q];exact M7 (by grind) (by rw[<-q];rw[h.row k c];exact hi) x y
 rw[e,M7 (by omega) (by rw[h.row i hi];exact c)];omega
theorem He.next{n lo i k M v}(h:He n lo i k M)(hi:i<n)(l:k<i)(m:lo<=v/\v<=2*lo):He n lo i (k+1) (yZ M i k v):=by
 have e:=h.len;have a:=Pr (v:=v) h hi (show k<n by omega) (by omega);refine⟨by simp[yZ,e],λj f=>?_,λx b=>?_,λx y b g=>?_,λx y d b hd=>?_⟩
 . rw[Ag (by omega) (by omega) (by omega)]
   split
   . rw[aaq];exact h.row k (by omega)
   . split
     . rw[aaq];exact h.row i hi
     . exact h.row j f
 . rw[a,ZM (by omega)];exact h.diag x b
 . rw[a,a]
   by_cases c:(x=i/\y=k)\/(x=k/\y=i)
   . grind
   . rw[ZM c,ZM (λq=>c (q.elim (λq=>.inr ⟨q.2,q.1⟩) (λq=>.inl ⟨q.2,q.1⟩)))]
     exact h.sym x y b g
 . rw[a]
   by_cases c:(x=i/\y=k)\/(x=k/\y=i)
   . omega
   . rw[ZM c]
     refine h.off x y d b ?_;omega
theorem He.line{n lo i M}(h:He n lo i i M):He n lo (i+1) 0 M:=⟨h.len,h.row,h.diag,h.sym,λx y a b hd=>h.off x y a b (by omega)⟩
theorem He.fin{n lo M}(h:He n lo n 0 M):vO n lo M:=by
 have e:=h.len;refine⟨h.len,λl c=>?_,h.diag,h.sym,λi j a b d=>?_⟩
 . obtain⟨i,a,rfl⟩:=aak.1 c
   have:=h.row i (by omega)
   grind
 . rcases aap j i with q|q
   . exact h.off i j q a (.inl a)
   . rw[h.sym i j a b]
     exact h.off j i (by omega) b (.inl b)
theorem He.start  n   lo :He n lo 0 0 (List.replicate n (List.replicate n 0)):=by
 have a:∀x y,rd (List.replicate n (List.replicate n 0)) x y=0:=λx y=>by
  unfold rd
  grind
 refine⟨by simp,λj b=>by simp_all,λx _=>a x x,λx y _ _=>by rw[a,a],λx y _ _ h=>by omega⟩
theorem oy{g}:∀{l},(∀e∈l,g e=0)->fR g l=0
 |[],_=>rfl
 | a::l,h=>by
   unfold fR;rw[ZS (h a (by simp))];exact oy λe b=>h e (by simp[b])
theorem uf.check{aW:Int}{f:Fr}(h:uf aW f)(j:aW<=6):check f=0:=by
 obtain⟨lo,a,b⟩:=h.LH;have c:=b.err h.dS a;have k:=h.fr;have l:=h.to;have m:=h.cL;have n:=h.aW;have o:=h.len
 have d:(bu f.aP 0 3 && bu f.dH 0 3)=true:=by simp[bu];omega
 have g:(bu f.cL 1 6 && bu f.aW 1 6)=true:=by simp[bu];omega
 unfold Go.Proofs.YtkcceaplmgdnfaaGreatDoor.check;rw[c,ZM (by simp),d,ZM (by simp),ZM (by omega),g,ZM (by simp),ZM (by omega)]
 exact oy λe i=>(h.u6 e i).check
theorem uf.fits{aW f}(h:uf aW f)(g:aW<=1000):f.Fits:=by
 obtain⟨lo,a,b⟩:=h.LH;have:=h.len;have i:=h.dS;refine⟨by omega,by omega,λl c=>?_,λe d=>?_⟩
 . have:=b.row l c;omega
 . have:=(lh (h.u6 e d).marks).2;omega

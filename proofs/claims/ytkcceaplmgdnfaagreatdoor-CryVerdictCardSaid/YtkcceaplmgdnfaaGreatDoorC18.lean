import Derived.Test.YtkcceaplmgdnfaaGreatDoorC17
set_option linter.all false
set_option maxHeartbeats 1000000
set_option maxRecDepth 100000
namespace Go.Proofs.YtkcceaplmgdnfaaGreatDoor
open Go.Proofs.Tryz (prog)
abbrev adR:=List m5
section
open Go Go.cG
abbrev nn:zv:=⟨93,94,131,132,166,168,119,120,133,118,165,167,190,191,193,194,196,265,210,21⟩
theorem MI:∀(a:Fl) b o kind,aQ prog a [0,5] (LD prog nn b o kind) un=some (uN prog nn b o kind):=by intro a b o kind;kernel_rfl
theorem MJ:∀(a:Fl) b o kind,aQ prog a [0] (uN prog nn b o kind) tt=some (QU prog nn b o kind):=by intro a b o kind;kernel_rfl
theorem MK:∀(a:Fl) b o kind,aQ prog a [0,2,3,4,5,12] (uN prog nn b o kind) ff=some (Wg prog nn b o kind):=by intro a b o kind;kernel_rfl
theorem ML:∀(a:Fl) b o kind,aQ prog a [8] (QU prog nn b o kind) un=some (Tu prog nn b o kind):=by intro a b o kind;kernel_rfl
theorem MM:∀(a:Fl) b o kind,aQ prog a [9] (Tu prog nn b o kind) (pt b o)=some (QV prog nn b o kind):=by intro a b o kind;kernel_rfl
theorem MN:∀(a:Fl) b o kind,aQ prog a [] (QV prog nn b o kind) un=some (BK nn kind):=by intro a b o kind;kernel_rfl
theorem Jo:∀(a:Fl) b o kind L K S aw sv it,qf prog a [0,2,3,4,5,6] (RV prog nn b o kind aw sv it) (.word L K S 0)=some (HD prog nn b o kind L K S aw sv it):=by intro a b o kind L K S aw sv it;kernel_rfl
theorem Jp:∀(a:Fl) b o kind L K S aw sv it,qf prog a [0,2,3,4,5,6] (Ho prog nn b o kind aw sv it) (.word L K S 0)=some (HD prog nn b o kind L K S aw sv it):=by intro a b o kind L K S aw sv it;kernel_rfl
theorem Jq:∀(a:Fl) b o kind L K S aw sv it,qf prog a [0,2,3,4,5,6] (RX prog nn b o kind aw sv it) (.word L K S 0)=some (HD prog nn b o kind L K S aw sv it):=by intro a b o kind L K S aw sv it;kernel_rfl
theorem MO:∀(a:Fl) b o kind K aw sv it,Uo prog a [0,2,3,4,5,6,17,18] (HD prog nn b o kind true K false aw sv it)=SQ prog nn b o kind K aw sv it:=by intro a b o kind K aw sv it;cases K<;>cases aw<;>cases sv<;>kernel_rfl
theorem MP:∀(a:Fl) b o kind L K S aw sv it,(L && !S)=false->(aw && !K)=false->Uo prog a [0,2,3,4,5,6,77,78,79] (HD prog nn b o kind L K S aw sv it)=Dh prog nn b o kind L K S aw sv it:=by intro a b o kind L K S aw sv it c d;cases L<;>cases K<;>cases S<;>cases aw<;>cases sv<;>first|exact absurd c (by decide)|exact absurd d (by decide)|kernel_rfl
theorem Jr:∀(a:Fl) b o kind it,aQ prog {a with n0:=false} [0,2,3,4,5,33,36,37,39] (SQ prog nn b o kind false false false it) tt=some (SW prog nn b o kind it):=by intro a b o kind it;kernel_rfl
theorem Gr:∀(a:Fl) b o kind n0 K aw sv it,(!aw && !K && !n0)=false->aQ prog {a with n0:=n0} [0,2,3,4,5] (SQ prog nn b o kind K aw sv it) tt=some (DS prog nn b o kind aw sv it):=by intro a b o kind n0 K aw sv it h;cases n0<;>cases K<;>cases aw<;>cases sv<;>first|exact absurd h (by decide)|kernel_rfl
theorem Js:∀(a:Fl) b o kind K aw sv it,(aw && !K)=false->aQ prog a [0,2,3,4,5,6,77,78,79] (SQ prog nn b o kind K aw sv it) ff=some (Dh prog nn b o kind true K false aw sv it):=by intro a b o kind K aw sv it h;cases K<;>cases aw<;>cases sv<;>first|exact absurd h (by decide)|kernel_rfl
theorem Jt:∀(a:Fl) b o kind r it,aQ prog a [0,2,3,4,5] (SW prog nn b o kind it) (bl r)=some (DS prog nn b o kind r false it):=by intro a b o kind r it;cases r<;>kernel_rfl
theorem Gs:∀(a:Fl) b o kind aw sv,aQ prog a [0,2,3,4,5,47] (DS prog nn b o kind aw sv 0) un=some (Ho prog nn b o kind aw sv 1):=by intro a b o kind aw sv;kernel_rfl
theorem Gt:∀(a:Fl) b o kind aw sv,aQ prog a [0,2,3,4,5,47] (DS prog nn b o kind aw sv 1) un=some (Ho prog nn b o kind aw sv 2):=by intro a b o kind aw sv;kernel_rfl
theorem Gu:∀(a:Fl) b o kind aw sv,aQ prog a [0,2,3,4,5,47] (DS prog nn b o kind aw sv 2) un=some (Ho prog nn b o kind aw sv 3):=by intro a b o kind aw sv;kernel_rfl
theorem Gv:∀(a:Fl) b o kind aw sv,aQ prog a [0,2,3,4,5,47] (DS prog nn b o kind aw sv 3) un=some (Ho prog nn b o kind aw sv 4):=by intro a b o kind aw sv;kernel_rfl
theorem Ju:∀(a:Fl) b o kind K aw sv it,aQ prog a [0] (Dh prog nn b o kind false K false aw sv it) tt=some (OW prog nn b o kind):=by intro a b o kind K aw sv it;cases K<;>kernel_rfl
theorem Gw:∀(a:Fl) b o kind L K S aw sv it,(L||S)=true->aQ prog {a with wz:=true} [0,3] (Dh prog nn b o kind L K S aw sv it) tt=some (T1 prog nn b o kind sv):=by intro a b o kind L K S aw sv it h;cases L<;>cases K<;>cases S<;>first|exact absurd h (by decide)|kernel_rfl
theorem Gx:∀(a:Fl) b o kind L K S aw sv it,(L||S)=true->aQ prog {a with wz:=false} [0,2,3,91] (Dh prog nn b o kind L K S aw sv it) tt=some (PK prog nn b o kind sv):=by intro a b o kind L K S aw sv it h;cases L<;>cases K<;>cases S<;>first|exact absurd h (by decide)|kernel_rfl
theorem Jv:∀(a:Fl) b o kind L K S aw sv it,aQ prog a [0,2,3,4,5,133] (Dh prog nn b o kind L K S aw sv it) ff=some (RX prog nn b o kind aw sv it):=by intro a b o kind L K S aw sv it;kernel_rfl
theorem Jw:∀(a:Fl) b o kind sv,aQ prog a [0,2,3,91] (T1 prog nn b o kind sv) .IB=some (PK prog nn b o kind sv):=by intro a b o kind sv;kernel_rfl
theorem Gy:∀(a:Fl) b o kind,aQ prog a [0,2,3,103] (PK prog nn b o kind true) un=some (UP prog nn b o kind true):=by intro a b o kind;kernel_rfl
theorem Gz:∀(a:Fl) b o kind,aQ prog a [0,2,95] (PK prog nn b o kind false) un=some (TQ prog nn b o kind):=by intro a b o kind;kernel_rfl
theorem Jx:∀(a:Fl) b o kind x,aQ prog {a with tb:=x} [0,2,3,103] (TQ prog nn b o kind) .now=some (UP prog nn b o kind x):=by intro a b o kind x;cases x<;>kernel_rfl
theorem Jy:∀(a:Fl) b o kind sv n1,aQ prog {a with n0:=false,n1:=n1} [0,128,129] (UP prog nn b o kind sv) (.word false false true 0)=some (AD prog nn b o kind (if !sv||n1 then -11 else -7)):=by intro a b o kind sv n1;cases sv<;>cases n1<;>kernel_rfl
theorem Jz:∀(a:Fl) b o kind L K sv,qf prog a [0,2,3,4,5,6] (UP prog nn b o kind sv) (.word L K false 0)=some (HD prog nn b o kind L K false true sv 0):=by intro a b o kind L K sv;cases L<;>cases K<;>kernel_rfl
theorem JA:∀(a:Fl) b o kind d,aQ prog a [0] (AD prog nn b o kind d) .cD=some (OW prog nn b o kind):=by intro a b o kind d;kernel_rfl
theorem JB:∀(a:Fl) b o kind,aQ prog a [136] (OW prog nn b o kind) un=some (Tv prog nn b o kind):=by intro a b o kind;kernel_rfl
theorem JC:∀(a:Fl) b o kind,aQ prog a [137] (Tv prog nn b o kind) (pt b o)=some (QX prog nn b o kind):=by intro a b o kind;kernel_rfl
theorem JD:∀(a:Fl) b o kind,aQ prog a [] (QX prog nn b o kind) un=some (BK nn kind):=by intro a b o kind;kernel_rfl
theorem MQ:∀(a:Fl) b o kind,aQ prog a [0,7] (U0 prog nn b o kind) .cD=some (Tw prog nn b o kind):=by intro a b o kind;kernel_rfl
theorem MR:∀(a:Fl) b o kind,aQ prog a [0,8] (Tw prog nn b o kind) (pt b o)=some (UR prog nn b o kind):=by intro a b o kind;kernel_rfl
theorem MT:∀(a:Fl) b o kind,aQ prog a [0] (UR prog nn b o kind) un=some (UD prog nn b o kind):=by intro a b o kind;kernel_rfl
theorem MU:∀(a:Fl) b o kind,aQ prog a [0,13] (UD prog nn b o kind) un=some (sm prog nn b o kind):=by intro a b o kind;kernel_rfl
theorem MV:∀(a:Fl) b o kind n0 K,(n0||K)=true->aQ prog {a with n0:=n0} [] (sm prog nn b o kind) (.word false K false 0)=some (UE prog nn b o kind):=by intro a b o kind n0 K h;cases n0<;>cases K<;>first|exact absurd h (by decide)|kernel_rfl
theorem JE:∀(a:Fl) b o kind n0 K,aQ prog {a with n0:=n0} [41] (sm prog nn b o kind) (.word false K true 0)=some (G9 prog nn b o kind):=by intro a b o kind n0 K;cases n0<;>cases K<;>kernel_rfl
theorem JF:∀(a:Fl) b o kind,aQ prog {a with n0:=false} [0,27,28,29] (sm prog nn b o kind) (.word false false false 0)=some (UC prog nn b o kind):=by intro a b o kind;kernel_rfl
theorem JG:∀(a:Fl) b o kind,aQ prog a [33] (UC prog nn b o kind) tt=some (G7 prog nn b o kind):=by intro a b o kind;kernel_rfl
theorem JH:∀(a:Fl) b o kind,aQ prog a [0,37] (UC prog nn b o kind) ff=some (OX prog nn b o kind):=by intro a b o kind;kernel_rfl
theorem MX:∀(a:Fl) b o kind n0 L K S,(n0||L||K||S)=true->aQ prog {a with n0:=n0} [] (OX prog nn b o kind) (.word L K S 0)=some (UE prog nn b o kind):=by intro a b o kind n0 L K S h;cases n0<;>cases L<;>cases K<;>cases S<;>first|exact absurd h (by decide)|kernel_rfl
theorem JI:∀(a:Fl) b o kind,aQ prog {a with n0:=false} [0,27,28,29] (OX prog nn b o kind) (.word false false false 0)=some (UC prog nn b o kind):=by intro a b o kind;kernel_rfl
theorem MY:∀(a:Fl) b o kind,aQ prog a [] (G7 prog nn b o kind) un=some (UE prog nn b o kind):=by intro a b o kind;kernel_rfl
theorem MZ:∀(a:Fl) b o kind,aQ prog a [] (G9 prog nn b o kind) un=some (UE prog nn b o kind):=by intro a b o kind;kernel_rfl
theorem JJ:∀(a:Fl) b o kind,aQ prog a [] (UE prog nn b o kind) un=some (Uw nn kind):=by intro a b o kind;kernel_rfl
theorem M0:∀b o kind,bb (LD prog nn b o kind).1=some (nn.jA,[])/\(LD prog nn b o kind).1.kind=.normal:=by intro b o kind;exact⟨by kernel_rfl,by kernel_rfl⟩
theorem M3:∀b o kind,bb (uN prog nn b o kind).1=some (nn.kJ,[pt b o,i32 0,i32 1]):=by intro b o kind;kernel_rfl
theorem M4:∀b o kind,bb (QU prog nn b o kind).1=some (nn.en,[]):=by intro b o kind;kernel_rfl
theorem M5:∀b o kind,kM (Tu prog nn b o kind).1=some (nn.tM,nn.tU,pt b o):=by intro b o kind;kernel_rfl
theorem M6:∀b o kind,bb (QV prog nn b o kind).1=some (nn.acq,[pt b o]):=by intro b o kind;kernel_rfl
theorem JK:∀b o kind aw sv it,rC (RV prog nn b o kind aw sv it).1=some (nn.tI,pt b o):=by intro b o kind aw sv it;kernel_rfl
theorem JL:∀b o kind aw sv it,rC (Ho prog nn b o kind aw sv it).1=some (nn.tI,pt b o):=by intro b o kind aw sv it;kernel_rfl
theorem JM:∀b o kind aw sv it,rC (RX prog nn b o kind aw sv it).1=some (nn.tI,pt b o):=by intro b o kind aw sv it;kernel_rfl
theorem M7:∀b o kind K aw sv it,bb (SQ prog nn b o kind K aw sv it).1=some (nn.ID,[i64 it]):=by intro b o kind K aw sv it;kernel_rfl
theorem M8:∀b o kind it,bb (SW prog nn b o kind it).1=some (nn.kJ,[pt b o,.word true false false 0,.word true true false 0]):=by intro b o kind it;kernel_rfl
theorem M9:∀b o kind aw sv it,bb (DS prog nn b o kind aw sv it).1=some (nn.uM,[]):=by intro b o kind aw sv it;kernel_rfl
theorem JN:∀b o kind L K S aw sv it,bb (Dh prog nn b o kind L K S aw sv it).1=some (nn.kJ,[pt b o,.word L K S 0,Pn L K S aw sv]):=by intro b o kind L K S aw sv it;kernel_rfl
theorem JO:∀b o kind sv,bb (T1 prog nn b o kind sv).1=some (nn.nano,[]):=by intro b o kind sv;kernel_rfl
theorem JP:∀b o kind sv,bb (PK prog nn b o kind sv).1=some (nn.FE,[pt b (o+1),.cD,i64 2]):=by intro b o kind sv;kernel_rfl
theorem JQ:∀b o kind,bb (TQ prog nn b o kind).1=some (nn.nano,[]):=by intro b o kind;kernel_rfl
theorem JR:∀b o kind sv,rC (UP prog nn b o kind sv).1=some (nn.tI,pt b o):=by intro b o kind sv;kernel_rfl
theorem JS:∀b o kind d,bb (AD prog nn b o kind d).1=some (nn.add,[pt b o,i32 d]):=by intro b o kind d;kernel_rfl
theorem JU:∀b o kind,bb (OW prog nn b o kind).1=some (nn.en,[]):=by intro b o kind;kernel_rfl
theorem JV:∀b o kind,kM (Tv prog nn b o kind).1=some (nn.tM,nn.tU,pt b o):=by intro b o kind;kernel_rfl
theorem JW:∀b o kind,bb (QX prog nn b o kind).1=some (nn.acq,[pt b o]):=by intro b o kind;kernel_rfl
theorem JX:∀b o kind,rC (U0 prog nn b o kind).1=some (nn.tI,pt b o)/\(U0 prog nn b o kind).1.kind=.normal/\(U0 prog nn b o kind).1.fn=nn.wH:=by intro b o kind;exact⟨by kernel_rfl,by kernel_rfl,by kernel_rfl⟩
theorem JY:∀b o kind,kM (Tw prog nn b o kind).1=some (nn.tM,nn.tU,pt b o):=by intro b o kind;kernel_rfl
theorem JZ:∀b o kind,bb (UR prog nn b o kind).1=some (nn.rel,[pt b o]):=by intro b o kind;kernel_rfl
theorem J0:∀b o kind,bb (UD prog nn b o kind).1=some (nn.jA,[]):=by intro b o kind;kernel_rfl
theorem J1:∀b o kind,bb (sm prog nn b o kind).1=some (nn.add,[pt b o,i32 (-1)]):=by intro b o kind;kernel_rfl
theorem J2:∀b o kind,bb (UC prog nn b o kind).1=some (nn.kJ,[pt b o,wf,.word false true false (-1)]):=by intro b o kind;kernel_rfl
theorem J3:∀b o kind,bb (G7 prog nn b o kind).1=some (nn.oO,[pt b (o+1),ff,i64 2]):=by intro b o kind;kernel_rfl
theorem J4:∀b o kind,bb (G9 prog nn b o kind).1=some (nn.oO,[pt b (o+1),tt,i64 2]):=by intro b o kind;kernel_rfl
theorem J5:∀b o kind,rC (OX prog nn b o kind).1=some (nn.tI,pt b o):=by intro b o kind;kernel_rfl
theorem J6:∀b o kind,bb (UE prog nn b o kind).1=some (nn.en,[]):=by intro b o kind;kernel_rfl
theorem Na:∀b o kind,(Ut prog nn b o kind).all (·.env.all plain)=true/\(LD prog nn b o kind).1.env.all plain=true/\(LD prog nn b o kind).2=Ut prog nn b o kind:=by intro b o kind;exact⟨by kernel_rfl,by kernel_rfl,by kernel_rfl⟩
theorem Nb:∀b o kind,(Wf prog nn b o kind).all (·.env.all plain)=true:=by intro b o kind;kernel_rfl
theorem Nc:∀b o kind,(Uv prog nn b o kind).all (·.env.all plain)=true/\(U0 prog nn b o kind).1.env.all plain=true/\(U0 prog nn b o kind).2=Uv prog nn b o kind:=by intro b o kind;exact⟨by kernel_rfl,by kernel_rfl,by kernel_rfl⟩
theorem Nd:∀b o kind,(WL prog nn b o kind).all (·.env.all plain)=true:=by intro b o kind;kernel_rfl
theorem AN:gF prog nn where
 e1:=MI
 e2:=MJ
 e3:=MK
 e4:=ML
 e5:=MM
 e6:=MN
 XT:=Jo
 RY:=Jp
 XU:=Jq
 e8:=MO
 e9:=MP
 cS:=Jr
 Ux:=Gr
 cQ:=Js
 eL:=Jt
 FG:=Gs
 FH:=Gt
 Uy:=Gu
 Uz:=Gv
 qg:=Ju
 UA:=Gw
 UB:=Gx
 pR:=Jv
 xP:=Jw
 UF:=Gy
 UG:=Gz
 uv:=Jx
 Po:=Jy
 zw:=Jz
 wI:=JA
 wJ:=JB
 KI:=JC
 IE:=JD
 u1:=MQ
 u2:=MR
 u3:=MT
 u4:=MU
 u5:=MV
 XV:=JE
 XW:=JF
 XX:=JG
 XY:=JH
 u7:=MX
 XZ:=JI
 u8:=MY
 u9:=MZ
 X1:=JJ
 o1:=M0
 o2:=M3
 o3:=M4
 o4:=M5
 o5:=M6
 X2:=JK
 X3:=JL
 X4:=JM
 o7:=M7
 o8:=M8
 o9:=M9
 WM:=JN
 X5:=JO
 WN:=JP
 X6:=JQ
 X7:=JR
 X8:=JS
 X9:=JU
 Ya:=JV
 Yb:=JW
 WO:=JX
 Yc:=JY
 Yd:=JZ
 Ye:=J0
 WQ:=J1
 WR:=J2
 WT:=J3
 WU:=J4
 Yf:=J5
 Yg:=J6
 p1:=Na
 p2:=Nb
 p3:=Nc
 p4:=Nd
theorem AO:gJ prog nn where
 jA:=⟨_,rfl,rfl,rfl,rfl,rfl⟩
 en:=⟨_,rfl,rfl,rfl,rfl,rfl⟩
 acq:=⟨_,rfl,rfl,rfl,rfl,rfl⟩
 rel:=⟨_,rfl,rfl,rfl,rfl,rfl⟩
 kJ:=⟨_,rfl,rfl,rfl,rfl,rfl⟩
 add:=⟨_,rfl,rfl,rfl,rfl,rfl⟩
 ID:=⟨_,rfl,rfl,rfl,rfl,rfl⟩
 uM:=⟨_,rfl,rfl,rfl,rfl,rfl⟩
 nano:=⟨_,rfl,rfl,rfl,rfl,rfl⟩
 Lw:=⟨_,rfl,rfl⟩
 FE:=⟨_,rfl,rfl,rfl,rfl,rfl⟩
 oO:=⟨_,rfl,rfl,rfl,rfl,rfl⟩
 UH:=by kernel_rfl
 Yh:=⟨_,rfl,rfl,rfl⟩
 nS:=⟨_,rfl,rfl⟩
 nU:=⟨_,rfl,rfl⟩
 nV:=⟨_,rfl,rfl⟩
end
section
open Go.cG Go.Conc
set_option maxRecDepth 4000
variable{m:Mo}{σ:aa}{KF:adl}
def jV(f:Fr)(x:Int):Bool:=decide (jJ f (aB x)=0)
def kX(f:Fr)(l:acY):Prop:=∀n a,Hk l n=some a->a=bool (jV f n)
theorem VS:K9 prog 255 291 4 5 .u8:=.of (by kernel_rfl) (by kernel_rfl) (by kernel_rfl) (by kernel_rfl)
theorem Qe(f:Fr)(l:adG):jJ f l=0\/jJ f l=1\/jJ f l=2\/jJ f l=3:=by unfold jJ;omega
theorem En{f:Fr}{l:adG}(h:jJ f l≠0):∃d a,VR (jJ f l)=.lM d a:=by
 rcases Qe f l with e|e|e|e
 . omega
 all_goals rw[e];exact⟨_,_,rfl⟩
theorem J7{f:Fr}{l:acY}{x n:Int}{a:AV}(b:kX f l)(h:Hk (l++[(x,bool (jV f x))]) n=some a):a=bool (jV f n):=by
 unfold Hk du at h;rw[List.find?_append]at h;cases e:l.find? (λp=>n==p.1)with
 |some p=>rw[e]at h;simp only[Option.some_or,aaX,kn]at h;subst h;exact b n p.2 (by unfold Hk du;rw[e];rfl)
 |none=>grind
theorem Sq{b mb:Nat}{f:Fr}{x:Int}{Un:adJ}{Ld:aa->acY->Prop}(j:Ms prog m nn b 6 mb .u8 (kX f) Un Ld)(E:f.Good)(F:O3 f (aB x))(p:(aB x).length<20)(G:Un σ)(h:∀σ',Un σ'->pI b mb σ σ'->KF (.val (bool (jV f x))) σ'):aA prog m 188 [kW b mb f 0,yA x] σ KF:=by
 refine fs VG Tryz.func188 rfl (by kernel_rfl) ?_;simp[Tryz.f188];refine cf Tryz.func93 rfl (j.lock (rf _ _ _ _) G λH l o q r A=>?_);apply rn;simp;refine af.defer rfl rfl rfl rfl (by simp) rfl ?_;apply rn;simp;refine xE lay (VS.key lay Yt rfl) rfl ZT rfl rfl (j.map o) ?_;apply pg;simp
 have i:∀(env:Env) (g:aa) s,env 4=bool (jV f x)->Ld g s->kX f s->(∀c,c≠b->c≠mb->g c=σ c)->rI prog m (.func 94) [] [AV.kp b [jI f.aD,rows f.roads,int f.aU,int f.eZ,int f.cP,int f.aR,.lit (.int .i32 0),.lit (.int .u32 0),.map mb] [6,7] 6] .ret g (λt σ'=>KG lay m [ResultVar.tmp 4] env (nK KF) [] t σ'):=λenv g s I u v J=>by
  refine rI.func Tryz.func94 rfl rfl (j.unlock (rf _ _ _ _) u v λw z K=>?_);refine⟨[env 4],rfl,.done ?_⟩;rw[show oneOf [env 4]=env 4 from rfl,I];refine h w z λc y O L B=>?_
  grind
 cases k:du l x with
 |some a=>have M:=q x a k;subst M;simp;apply rn;simp;exact i _ _ _ (by simp) o q r
 | none=>
   simp;apply rn;simp;refine cf Tryz.func205 rfl (ME ?_);apply rn;simp;refine cf Tryz.func144 rfl (MH E F p ?_);apply rn;simp;have C:decide (jJ f (aB x)=0)=jV f x:=rfl;refine dU lay rfl Rf rfl (isNil:=jV f x) ?_ (.inl ⟨rfl,rfl⟩) ?_
   . by_cases D:jJ f (aB x)=0
     . left
       refine⟨?_,by simp_all⟩;simp[D];rfl
     . right
       obtain⟨d,a,e⟩:=En D
       simp_all
   apply rn;simp;refine rL (VS.key lay Yt rfl) rfl rfl rfl rfl (j.map o) k ?_;apply pg;simp;apply rn;simp;refine i _ _ _ (by simp) (j.put o) (λn a N=>?_) (λc L B=>by rw[aa.ai _ _ B];simp_all);exact J7 q (by simpa using N)
def fY(f:Fr)(begun:adG):Nat->adG->Int->adG->acW
 |0,way,_,_=>[way]
 | fuel+1,way,many,a=>(List.range (min (many+1) f.aR).toNat).flatMap λk:Nat=>
    if way.length<begun.length/\begun.getD way.length 0≠(k:Int)then[]
    else if jV f (bT (a.getD k 0) way.length)=true then fY f begun fuel (way++[(k:Int)]) (max many ((k:Int)+1)) (a.set k (bT (a.getD k 0) way.length))else[]
def aI(f:Fr)(begun:adG):acW:=fY f begun f.aD.length [] 0 [0,0,0,0,0,0]
def Mv(b mb:Nat)(F a:adC)(σ σ':aa):Prop:=∀c x,σ c=some x -> ¬F c->c≠b->(c≠mb\/x.plain=true)->σ' c=some x/\¬a c
theorem Mv.refl(b mb:Nat)(F:adC)(σ:aa):Mv b mb F F σ σ:=λ_ _ h a _ _=>⟨h,a⟩
theorem Mv.trans{b mb:Nat}{F g d:adC}{σ σ' a:aa}(h:Mv b mb F g σ σ')(h':Mv b mb g d σ' a):Mv b mb F d σ a:=λc x i j e f=>h' c x (h c x i j e f).1 (h c x i j e f).2 e f
structure TJ(m:Mo)(y:AV)(W:acW)(I:Nat->adC->adJ)(E:adC->adJ):Prop where
 step:∀(k:Nat) (F:adC) (σ:aa) (KF:adl) (hk:k<W.length),I k F σ->(∀F' σ',Hi F F' σ σ'->I (k+1) F' σ'->KF (.val (bool true)) σ')->(∀F' σ',Hi F F' σ σ'->E F' σ'->KF (.val (bool false)) σ')->bI prog m y [ints W[k]] σ KF
 frame:∀(k:Nat) (F:adC) (σ σ':aa),(∀c,F c->σ' c=σ c)->I k F σ->I k F σ'
 Sr:∀(F:adC) (σ σ':aa),(∀c,F c->σ' c=σ c)->E F σ->E F σ'
 O0:∀(k:Nat) (F:adC) (σ:aa) (c:Nat),I k F σ->F c->∃x,σ c=some x/\x.plain=true
theorem Eo{b mb:Nat}{F a:adC}{σ σ':aa}(h:Hi F a σ σ'):Mv b mb F a σ σ':=λc x d e _ _=>h c x e d
theorem qx{b mb:Nat}{GI:acY->Prop}{Un:adJ}{Ld:aa->acY->Prop}(a:Ms prog m nn b 6 mb .u8 GI Un Ld){d:Nat}{y:gn}(f:Un σ)(hd:∀x,σ d=some x->x.plain=true):Un (σ.set d y):=a.un (λc _ ⟨x,g,h⟩=>aa.ai _ _ (λe=>by simp_all)) f
theorem yB{b mb:Nat}{GI:acY->Prop}{Un:adJ}{Ld:aa->acY->Prop}(e:Ms prog m nn b 6 mb .u8 GI Un Ld){F f:adC}{σ':aa}(g:Un σ)(h:Hi F f σ σ')(hd:∀c,F c->∃x,σ c=some x/\x.plain=true):Un σ':=
 e.un (λc _ ⟨x,a,i⟩=>by
  have d:¬F c:=λd=>by grind
  rw[(h c x d a).1,a]) g
abbrev yC(a y:AV)(begun:adG)(cp:Nat):AV:=.fn (.func 189) [] [.cp a 0,.cp y 0,.cp (ints begun) 0,.ref cp 0]
abbrev bd(a:AV)(c4 cg:Nat):AV:=.fn (.func 185) [] [.ref c4 0,.cp a 0,.ref cg 0]
structure WS(b mb:Nat)(f:Fr)(y:AV)(begun:adG)(c4 cg cp:Nat)(hs:adG)(F:adC)(σ:aa):Prop where
 arr:σ c4=some (.cells (hs.map u8))
 VT:σ cg=some (.cells [yC (kW b mb f 0) y begun cp])
 pt:σ cp=some (.cells [bd (kW b mb f 0) c4 cg])
 out:¬F c4/\¬F cg/\¬F cp
 ne:c4≠cg/\c4≠cp
theorem WS.mv{b mb:Nat}{f:Fr}{y:AV}{begun:adG}{c4 cg cp:Nat}{d:adG}{F g:adC}{σ σ':aa}(h:WS b mb f y begun c4 cg cp d F σ)(hb:∃x,σ b=some x/\x.plain=false)(a:Mv b mb F g σ σ'):WS b mb f y begun c4 cg cp d g σ':=by
 obtain⟨x,j,k⟩:=hb;have ne:∀c l,σ c=some (.cells l)->c≠b:=λc l i e=>by subst e;rw[j]at i;cases i;cases k
 obtain⟨m,n⟩:=a c4 _ h.arr h.out.1 (ne _ _ h.arr) (.inr rfl);obtain⟨o,p⟩:=a cg _ h.VT h.out.2.1 (ne _ _ h.VT) (.inr rfl);obtain⟨q,r⟩:=a cp _ h.pt h.out.2.2 (ne _ _ h.pt) (.inr rfl);exact⟨m,o,q,⟨n,p,r⟩,h.ne⟩
structure Hs(f:Fr)(n:Nat)(hs:adG):Prop where
 pJ:hs.length=6
 bits:∀x∈hs,∀e∈aB x,e<n
 small:∀x∈hs,0<=x/\x<64
section
variable{b mb:Nat}{f:Fr}{begun:adG}{y:AV}{W:acW}{I:Nat->adC->adJ}{E:adC->adJ}{Un:adJ}{Ld:aa->acY->Prop}{c4 cg cp:Nat}
def Rm(b mb:Nat)(Un:adJ)(I:Nat->adC->adJ)(E:adC->adJ)(a n:Nat)(F:adC)(σ:aa)(KF:adl):Prop:=(∀d c,Mv b mb F d σ c->Un c->I (a+n) d c->KF (.val (bool true)) c)/\(∀d c,Mv b mb F d σ c->Un c->E d c->KF (.val (bool false)) c)
def Nf(m:Mo)(b mb:Nat)(f:Fr)(begun:adG)(y:AV)(W:acW)(I:Nat->adC->adJ)(E:adC->adJ)(Un:adJ)(c4 cg cp:Nat)(fuel:Nat):Prop:=
 ∀ (way:adG) (many:Int) (a:adG) (sp:cU) (F:adC) (σ:aa) (pre post:acW) (KF:adl),way.length+fuel=f.aD.length->0<=many/\many<=6->Hs f way.length a->WS b mb f y begun c4 cg cp a F σ->Un σ ->
   W=pre++fY f begun fuel way many a++post->I pre.length F σ->Rm b mb Un I E pre.length (fY f begun fuel way many a).length F σ KF ->
   aA prog m 189 [.sl 1 (way.map int) sp,int many,.cp (kW b mb f 0) 0,.cp y 0,.cp (ints begun) 0,.ref cp 0] σ KF
theorem Qf:∀x:Fin 64,∀n:Fin 6,(0<=bT (x.val:Int) (n.val:Int)/\bT (x.val:Int) (n.val:Int)<64)/\(∀e∈aB (bT (x.val:Int) (n.val:Int)),e=(n.val:Int)\/e∈aB (x.val:Int))/\(n.val:Int)∈aB (bT (x.val:Int) (n.val:Int)):=by decide +kernel
theorem GA{x:Int}{n:Nat}(b:0<=x/\x<64)(a:n<6):(0<=bT x n/\bT x n<64)/\(∀e∈aB (bT x n),e=(n:Int)\/e∈aB x)/\(n:Int)∈aB (bT x n):=by
 have:=Qf ⟨x.toNat,by omega⟩ ⟨n,a⟩
 grind
theorem Ng{x e:Int}(h:e∈aB x):0<=e/\e<6:=by
 unfold aB at h
 grind
theorem mq(x:Int):(aB x).length<20:=by
 unfold aB
 grind
theorem Hs.set{n:Nat}{b:adG}(h:Hs f n b)(d:n<6){k:Nat}(c:k<b.length):Hs f (n+1) (b.set k (bT b[k] n)):=by
 have g:=GA (h.small _ (zG c)) d;refine⟨by rw[abW];exact h.pJ,λx a e he=>?_,λx a=>?_⟩
 . rcases abT a with a|rfl
   . have:=h.bits x a e he;omega
   . rcases g.2.1 e he with rfl|he
     . omega
     . have:=h.bits _ (zG c) e he;omega
 . rcases abT a with a|rfl
   . exact h.small x a
   omega
theorem Hs.vL{n:Nat}{a:adG}(h:Hs f n a)(d:n<f.aD.length)(g:f.aD.length<=6){k:Nat}(b:k<a.length):O3 f (aB (bT a[k] n)):=by
 have c:=GA (h.small _ (zG b)) (n:=n) (by omega);refine⟨λe he=>⟨(Ng he).1,?_⟩,λq=>?_,by have:=mq (bT a[k] n);omega⟩
 . rcases c.2.1 e he with rfl|he
   . omega
   . have:=h.bits _ (zG b) e he;omega
 simp_all
theorem Qg{d:Nat}{k:Nat}{x:Int}{l:adG}(i:k<6)(c:l.length=6)(hd:σ d=some (.cells [u8 x]))(e:σ c4=some (.cells (l.map u8)))(h:KF (.val (.ck [])) (σ.set c4 (.cells ((l.set k x).map u8)))):aA prog m 186 [.ref d 0,.ref c4 0,.cp (int k) 0] σ KF:=by
 have a:(k:Int)<6:=by omega
 have b:k<=5:=by omega
 have g:k<l.length:=by omega
 refine fs [] Tryz.func186 rfl (by kernel_rfl) ?_;simp[Tryz.f186,hd,e,a,c,b];rw[Fx (by simp_all),<-List.map_set (f:=u8)];exact .done h
theorem Ss(N : Ms prog m nn b 6 mb .u8 (kX f) Un Ld)(hf:f.Good)(cv:begun.length<1152921504606846976)(Y:TJ m y W I E){fuel:Nat}(hG:Nf m b mb f begun y W I E Un c4 cg cp fuel){way:adG}{many:Int}{k:Nat}{n:adG}{sp:cU}{F:adC}{pre post:acW}(hlen:way.length+(fuel+1)=f.aD.length)(b2:0<=many/\many<=6)(hk:k<6)
 (hh:Hs f way.length n) (w:WS b mb f y begun c4 cg cp n F σ) (hu:Un σ){L:acW}(U:L=if jV f (bT (n.getD k 0) way.length)=true then fY f begun fuel (way++[(k:Int)]) (max many ((k:Int)+1)) (n.set k (bT (n.getD k 0) way.length))else[]) (hW:W=pre++L++post)
 (hI:I pre.length F σ) (hR:Rm b mb Un I E pre.length L.length F σ KF):aA prog m 185 [.sl 1 (way.map int) sp,int many,int k,.ref c4 0,.cp (kW b mb f 0) 0,.ref cg 0] σ KF:=by
 have h6:=hf.pJ;have V:k<n.length:=by rw[hh.pJ];exact hk
 have b3:n.getD k 0=n[k]:=by simp_all
 rw[b3]at U;have X:(k:Int)<6:=by omega
 have s:=w.arr;have al:=hh.pJ;have Z:k<=5:=by omega
 have e1:List.take 1 (List.drop k (List.map u8 n))=[u8 n[k]]:=by rw[<-List.map_drop,abc V];rfl
 refine fs VE Tryz.func185 rfl (by kernel_rfl) ?_
 simp[Tryz.f185,s,X,al,Z,e1];refine bK.intro λd hd=>?_
 have d4:d≠c4:=λe=>by simp_all
 have av:=za d4;simp;refine af.defer rfl rfl rfl rfl (by simp) rfl ?_
 apply rn;simp[X];obtain⟨z,hz⟩:∃z,z=bT n[k] way.length:=⟨_,rfl⟩;obtain⟨i,O⟩:∃i,i=n.set k z:=⟨_,rfl⟩;have b4:k<i.length:=by simp_all
 have ax:i[k]=z:=by simp_all
 have e2:List.take 1 (List.drop k (List.map u8 i))=[u8 z]:=by rw[<-List.map_drop,abc b4,ax];rfl
 have e3:aK (List.map u8 n) k [u8 z]=List.map u8 i:=by simp_all
 have P:i.length=6:=by simp_all
 refine cf Tryz.func187 rfl (Qb (by omega) ?_)
 rw[<-hz];apply pg;simp[av,aa.ai,s,al,Z,e3];apply rn;simp[X,P,Z,e2];have b5:way.length<6:=by omega
 have b6:way.length<f.aD.length:=by omega
 have b7:O3 f (aB z):=by rw[hz];exact hh.vL b6 h6 V
 obtain⟨xb,b8,b9⟩:=N.TE hu;have cb:∀c l,σ c=some (.cells l)->c≠b:=λc l t e=>by subst e;rw[b8]at t;cases t;cases b9
 have db:d≠b:=λe=>by simp_all
 have ay:Un ((σ.set d (.cells [u8 n[k]])).set c4 (.cells (i.map u8))):=qx N (qx N hu (λx A=>by simp_all)) (λx A=>by rw[aa.ai _ _ av,s]at A;cases A;rfl)
 have aC:((σ.set d (.cells [u8 n[k]])).set c4 (.cells (i.map u8))) c4=some (.cells (i.map u8)):=aa.an _ _ _;have aE:((σ.set d (.cells [u8 n[k]])).set c4 (.cells (i.map u8))) d=some (.cells [u8 n[k]]):=by rw[aa.ai _ _ d4,aa.an]
 have H:∀c,c≠d->c≠c4->((σ.set d (.cells [u8 n[k]])).set c4 (.cells (i.map u8))) c=σ c:=λc r D=>by rw[aa.ai _ _ D,aa.ai _ _ r]
 have aL:¬F d:=λhF=>by
  obtain⟨x,A,_⟩:=Y.O0 _ _ _ _ hI hF
  simp_all
 have a7:I pre.length F ((σ.set d (.cells [u8 n[k]])).set c4 (.cells (i.map u8))):=Y.frame _ _ _ _ (λc t=>H c (λe=>aL (e ▸ t)) (λe=>w.out.1 (e ▸ t))) hI
 generalize (σ.set d (.cells [u8 n[k]])).set c4 (.cells (i.map u8))=dj at ay aC aE H a7;refine cf Tryz.func188 rfl (Sq N hf b7 (mq _) ay λo aO p=>?_)
 have B:o c4=some (.cells (i.map u8)):=p _ _ aC (cb _ _ s) (.inr rfl);have a8:o d=some (.cells [u8 n[k]]):=p _ _ aE db (.inr rfl);have gd:cg≠d:=λe=>by have:=w.VT;simp_all
 have J:o cg=some (.cells [yC (kW b mb f 0) y begun cp]):=p _ _ (by rw[H cg gd (za w.ne.1)];exact w.VT) (cb _ _ w.VT) (.inr rfl)
 have bm:i.set k n[k]=n:=by simp_all
 have Q:∀(env:Env) (j:aa) (v:Bool),env 9=bool v->j d=some (.cells [u8 n[k]])->j c4=some (.cells (i.map u8))->KF (.val (bool v)) (j.set c4 (.cells (n.map u8)))->rI prog m (.func 186) [.ref d 0,.ref c4 0,.cp (int k) 0] [] .ret j (λbw g=>KG lay m [ResultVar.tmp 9] env (nK KF) [] bw g):=λenv j v he bA bB hK=>by
  refine rI.func Tryz.func186 rfl rfl (Qg hk P bA bB ?_);refine⟨[env 9],rfl,.done ?_⟩
  simp_all
 have b0:Mv b mb F F σ (o.set c4 (.cells (n.map u8))):=λc x r D K h4=>by
  refine⟨?_,D⟩
  by_cases e:c=c4
  . simp_all
  . have e':c≠d:=λe'=>by simp_all
    rw[aa.ai _ _ e];exact p c x (by simp_all) K h4
 have a9:I pre.length F o:=Y.frame _ _ _ _ (λc t=>by
  obtain⟨x,r,D⟩:=Y.O0 _ _ _ _ a7 t
  have c5:c≠b:=λe=>by grind
  rw[r];exact p c x r c5 (.inr D)) a7
 rw[<-hz,<-O]at U;cases R:jV f z with
 | false=>
   rw[R]at U;simp only[LK,Rp]at U;subst U;apply pg;simp
   repeat' apply And.intro
   all_goals
    apply rn;simp;refine Q _ o true (by simp) a8 B (hR.1 F _ b0 (qx N aO (λx A=>by rw[B]at A;cases A;rfl)) ?_)
    exact Y.frame _ _ _ _ (λc t=>aa.ai _ _ (λe=>w.out.1 (e ▸ t))) a9
 | true=>
   rw[R,aaB rfl]at U
   have ab:∀(j:aa) (C:cU) (M:adl),o.Le j->(∀(v:Bool) g,g d=some (.cells [u8 n[k]])->g c4=some (.cells (i.map u8))->KF (.val (bool v)) (g.set c4 (.cells (n.map u8)))->M (.val (bool v)) g) ->
    aA prog m 189 [.sl 1 ((way++[(k:Int)]).map int) C,int (max many ((k:Int)+1)),.cp (kW b mb f 0) 0,.cp y 0,.cp (ints begun) 0,.ref cp 0] j M:=λj C M q hK=>by
    have c6:o cp=some (.cells [bd (kW b mb f 0) c4 cg]):=by
     have pd:cp≠d:=λe=>by have:=w.pt;simp_all
     exact p _ _ (by rw[H cp pd (za w.ne.2)];exact w.pt) (cb _ _ w.pt) (.inr rfl)
    have c7:Un j:=N.un (λc _ ⟨x,r,_⟩=>by rw[r];exact q _ _ r) aO
    have c9:WS b mb f y begun c4 cg cp i F j:=⟨q _ _ B,q _ _ J,q _ _ c6,w.out,w.ne⟩
    have ca:I pre.length F j:=Y.frame _ _ _ _ (λc t=>by obtain⟨x,r,_⟩:=Y.O0 _ _ _ _ a9 t;rw[r];exact q _ _ r) a9
    have S:∀(u:adC) (g:aa),Mv b mb F u j g->Mv b mb F u σ (g.set c4 (.cells (n.map u8))):=λu g hm c x r D K h4=>by
     by_cases e:c=c4
     . subst e
       obtain⟨q1,T⟩:=hm c _ (q _ _ B) D K (.inr rfl)
       simp_all
     . have e':c≠d:=λe'=>by simp_all
       rw[aa.ai _ _ e];exact hm c x (q _ _ (p c x (by simp_all) K h4)) D K h4
    have Ff:∀(u:adC) (g:aa),Mv b mb F u j g->g d=some (.cells [u8 n[k]])/\(g c4=some (.cells (i.map u8))/\¬u c4):=λu g hm=>⟨(hm d _ (q _ _ a8) aL db (.inr rfl)).1,hm c4 _ (q _ _ B) w.out.1 (cb _ _ s) (.inr rfl)⟩
    subst U;refine hG _ _ _ _ F j pre post M (by simp;omega) (by omega) (by rw[aaF,O,hz];exact hh.set b5 V) c9 c7 hW ca ⟨λu g r D K=>?_,λu g r D K=>?_⟩
    . obtain⟨q1,T,q3⟩:=Ff u g r
      exact hK true g q1 T (hR.1 u _ (S u g r) (qx N D (λx A=>by rw[T]at A;cases A;rfl)) (Y.frame _ _ _ _ (λc t=>aa.ai _ _ (λe=>q3 (e ▸ t))) K))
    . obtain⟨q1,T,q3⟩:=Ff u g r
      exact hK false g q1 T (hR.2 u _ (S u g r) (qx N D (λx A=>by rw[T]at A;cases A;rfl)) (Y.Sr _ _ _ (λc t=>aa.ai _ _ (λe=>q3 (e ▸ t))) K))
   have k1:-9223372036854775808<=(k:Int)+1/\(k:Int)+1<=9223372036854775807:=by omega
   have G:(if many<(k:Int)+1 then(k:Int)+1 else many)=max many ((k:Int)+1):=by omega
   apply pg;simp[J,k1.1,k1.2,G]
   repeat' (first
             |apply And.intro
             | (refine pX lay rfl dD rfl rD (es:=way.map int) (sp:=sp) (l:=0) (h:=way.length) (by simp) (λcap b1=>⟨⟨⟨.i64,by simp⟩,by simpa using b1⟩,⟨⟨.i64,by simp⟩,aaE _⟩,rfl⟩) (by simp) λa ha=>?_
                have cm:Tok o o a 1 (way.map int):=by
                 rcases ha with rfl|⟨e,rfl⟩
                 . have:List.take (way.length-0) (List.drop 0 (way.map int))=way.map int:=by rw[acg,abt (by simp)]
                   rw[this];exact .exact _ _ _
                 . rw[e];exact .nil _ _
                clear ha;apply pg;simp[B,a8,J,k1.1,k1.2,G])
             | (refine aN lay rfl rfl rfl dD rfl dD rfl rD (by decide) (by simp;omega) (σ0:=o) (es:=way.map int) (xs:=[int k]) (by simpa using cm) (.inr ⟨_,by simp;rfl⟩) λa' j ad=>?_
                obtain⟨C,rfl⟩:∃C,a'=.sl 1 (way.map int++[int k]) C:=by
                 rcases ad.2 with⟨_,e⟩|e|⟨_,_,_,e,_⟩
                 . simp at e
                 . exact⟨_,e⟩
                 . exact⟨_,e⟩
                have cr:=ad.1 _ _ J;apply pg;simp[cr,k1.1,k1.2,G])
             | (refine dp Tryz.func189 rfl rfl (by simp) (ab j C _ ad.1 λv g q1 T q3=>?_)
                apply pg;simp;apply rn;simp;exact Q _ _ v (by simp) q1 T q3))
end
section
variable{b mb:Nat}{f:Fr}{begun:adG}{y:AV}{W:acW}{I:Nat->adC->adJ}{E:adC->adJ}{Un:adJ}{Ld:aa->acY->Prop}{c4 cg cp:Nat}
def pK(f:Fr)(begun:adG)(fuel:Nat)(way:adG)(many:Int)(a:adG)(k:Nat):acW:=
 if way.length<begun.length/\begun.getD way.length 0≠(k:Int)then[]
 else if jV f (bT (a.getD k 0) way.length)=true then fY f begun fuel (way++[(k:Int)]) (max many ((k:Int)+1)) (a.set k (bT (a.getD k 0) way.length))else[]
theorem sB(f:Fr)(begun:adG)(fuel:Nat)(way:adG)(many:Int)(a:adG):fY f begun (fuel+1) way many a=(List.range (min (many+1) f.aR).toNat).flatMap (pK f begun fuel way many a):=rfl
theorem Ep(K:Nat->acW){k cnt:Nat}(h:k<cnt):∃rest,(List.range cnt).flatMap K=(List.range k).flatMap K++(K k++rest):=by
 obtain⟨n,rfl⟩:∃n,cnt=k+1+n:=⟨cnt-(k+1),by omega⟩;induction n with
 |zero=>exact⟨[],by rw[Nat.add_zero,aaO,abN];simp⟩
 | succ n a=>
   obtain⟨rest,b⟩:=a (by omega);refine⟨rest++K (k+1+n),?_⟩;rw[show k+1+(n+1)=(k+1+n)+1 by omega,aaO,abN,b];simp
theorem Qh(P:Ms prog m nn b 6 mb .u8 (kX f) Un Ld)(R:f.Good)(S:begun.length<1152921504606846976)(Y:TJ m y W I E)(T:y.cells=[y]):∀fuel:Nat,Nf m b mb f begun y W I E Un c4 cg cp fuel:=by
 have h6:=R.pJ;have ab:=R.aR;intro fuel
 induction fuel with
 | zero=>
   intro way many h sp F σ pre post KF hlen l hh U G H J u;have V:(way.length:Int)=f.aD.length:=by omega
   refine fs [] Tryz.func189 rfl (by kernel_rfl) ?_
   simp[Tryz.f189,V,T];have hk:pre.length<W.length:=by rw[H];simp[fY]
   have X:W[pre.length]=way:=by subst H;simp[fY]
   refine bI.weaken (args':=[ints way]) ?_ ⟨gy 1 _ sp,trivial⟩;rw[<-X];refine Y.step pre.length F σ _ hk J (λq d n x=>?_) (λq d n x=>?_)
   . apply rn
     simp;exact .done (u.1 q d (Eo n) (yB P G n (λc Z=>Y.O0 _ _ _ c J Z)) x)
   . apply rn
     simp;exact .done (u.2 q d (Eo n) (yB P G n (λc Z=>Y.O0 _ _ _ c J Z)) x)
 | succ fuel a7=>
   intro way many h sp F σ pre post KF hlen l hh U G H J u;have V:((way.length:Int)==f.aD.length)=false:=by grind
   have ad:=U.pt;rw[sB]at H u;obtain⟨cnt,K⟩:∃cnt:Nat,cnt=(min (many+1) f.aR).toNat:=⟨_,rfl⟩;rw[<-K]at H u;have L:(if f.aR<many+1 then f.aR else many+1)=(cnt:Int):=by omega
   have al:cnt<=6:=by omega
   have m1:-9223372036854775808<=many+1/\many+1<=9223372036854775807:=by omega
   refine fs [] Tryz.func189 rfl (by kernel_rfl) ?_
   simp[Tryz.f189,V,m1.1,m1.2,L];refine af.loop cnt (λk s=>∃env d q,s=⟨env,d,[],.no⟩/\env 0=.sl 1 (way.map int) sp/\env 1=int many/\env 2=.cp (kW b mb f 0) 0/\env 4=.cp (ints begun) 0/\env 5=.ref cp 0/\env 29=int cnt/\env 30=int k/\Mv b mb F q σ d/\Un d/\I (pre.length+((List.range k).flatMap (pK f begun fuel way many h)).length) q d) ⟨_,_,F,rfl,by simp,by simp,by simp,by simp,by simp,by simp,by simp,Mv.refl b mb F σ,G,J⟩ ?_
   rintro c0 k _ hk ⟨env,d,q,rfl,B,n,x,C,M,g,i,o,z,a8⟩ ih
   rcases abe k cnt with g1|g1
   . have N:=U.mv (P.TE G) o
     have w:=N.pt;obtain⟨rest,Q⟩:=Ep (pK f begun fuel way many h) g1
     have a9:((List.range (k+1)).flatMap (pK f begun fuel way many h)).length=((List.range k).flatMap (pK f begun fuel way many h)).length+(pK f begun fuel way many h k).length:=by rw[aaO,abN,aaF];simp
     by_cases g2:way.length<begun.length/\begun.getD way.length 0≠(k:Int)
     . have hK:pK f begun fuel way many h k=[]:=aaB g2
       have e1:begun.getD way.length 0=begun[way.length]:=by grind
       have e2:(begun[way.length] !=(k:Int))=true:=by grind
       apply rn;simp[B,C,g,i,g1,g2.1,e2];refine⟨by omega,ih _ g1 ⟨_,_,q,rfl,by simp[B],by simp[n],by simp[x],by simp[C],by simp[M],by simp[g],by simp,o,z,?_⟩⟩
       grind
     . have hK:pK f begun fuel way many h k=if jV f (bT (h.getD k 0) way.length)=true then fY f begun fuel (way++[(k:Int)]) (max many ((k:Int)+1)) (h.set k (bT (h.getD k 0) way.length))else[]:=aay g2
       have p:∀A:adl,(∀(v:Bool) a j,Mv b mb F j σ a->Un a->(v=true->I (pre.length+((List.range (k+1)).flatMap (pK f begun fuel way many h)).length) j a)->(v=false->E j a)->A (.val (bool v)) a)->aA prog m 185 [.sl 1 (way.map int) sp,int many,int k,.ref c4 0,.cp (kW b mb f 0) 0,.ref cg 0] d A:=λA O=>by
        refine Ss P R S Y a7 (pre:=pre++(List.range k).flatMap (pK f begun fuel way many h)) (post:=rest++post) hlen l (by omega) hh N z hK (by grind) (by grind) ⟨λj a r t D=>?_,λj a r t D=>?_⟩
        . refine O true a j (o.trans r) t (λ_=>?_) (λe=>by cases e)
          grind
        . exact O false a j (o.trans r) t (λe=>by cases e) (λ_=>D)
       by_cases g3:way.length<begun.length
       . have e1:begun.getD way.length 0=begun[way.length]:=by grind
         have e2:(begun[way.length] !=(k:Int))=false:=by grind
         apply rn;simp[B,n,C,M,g,i,g1,g3,e2,w];refine dp Tryz.func185 rfl rfl (by simp) (p _ λv a j r t D q4=>?_)
         cases v
         . apply rn
           simp;exact .done (u.2 j a r t (q4 rfl))
         . apply rn
           simp[i];refine⟨by omega,ih _ g1 ⟨_,_,j,rfl,?_,?_,?_,?_,?_,?_,?_,r,t,D rfl⟩⟩<;>simp[B,n,x,C,M,g]
       . apply rn
         simp[B,n,C,M,g,i,g1,g3,w];refine dp Tryz.func185 rfl rfl (by simp) (p _ λv a j r t D q4=>?_)
         cases v
         . apply rn
           simp;exact .done (u.2 j a r t (q4 rfl))
         . apply rn
           simp[i];refine⟨by omega,ih _ g1 ⟨_,_,j,rfl,?_,?_,?_,?_,?_,?_,?_,r,t,D rfl⟩⟩<;>simp[B,n,x,C,M,g]
   . have:k=cnt:=by omega
     subst this;apply rn;simp[g,i];exact .done (u.1 q d o z a8)
end
section
variable{b mb:Nat}{f:Fr}{begun:adG}{y:AV}{I:Nat->adC->adJ}{E:adC->adJ}{Un:adJ}{Ld:aa->acY->Prop}
theorem Ck{sp:cU}(h:KF (.val (.fn (.func 184) [] [.cp (kW b mb f 0) 0,.cp (.sl 1 (begun.map int) sp) 0])) σ):aA prog m 159 [kW b mb f 0,.sl 1 (begun.map int) sp] σ KF:=by
 refine fs [] Tryz.func159 rfl (by kernel_rfl) ?_;simp[Tryz.f159];exact .done h
theorem ZF(f:Fr):Hs f 0 [0,0,0,0,0,0]:=by
 refine⟨rfl,λx a e b=>?_,λx a=>?_⟩
 . have hb:aB 0=[]:=by decide +kernel
   simp_all
 simp_all
theorem Mv.le{F d:adC}{σ0 σ':aa}(h:Mv b mb F d σ σ')(a:σ0.Le σ):Mv b mb F d σ0 σ':=λc x e f g i=>h c x (a c x e) f g i
theorem yD(r:Ms prog m nn b 6 mb .u8 (kX f) Un Ld)(w:f.Good)(j:begun.length<1152921504606846976)(Y:TJ m y (aI f begun) I E)(d:y.cells=[y]/\y.flat=true){F:adC}(z:Un σ)(k:I 0 F σ)
 (h:∀e σ',Mv b mb F e σ σ'->Un σ'->(I (aI f begun).length e σ'\/E e σ')->KF (.val (.ck [])) σ'):aA prog m 184 [y,.cp (kW b mb f 0) 0,.cp (ints begun) 0] σ KF:=by
 refine fs [] Tryz.func184 rfl (by kernel_rfl) ?_;simp[Tryz.f184,d.1,d.2];refine bK.intro λc4 A=>?_
 simp;refine bK.intro λcg l=>?_
 obtain⟨J,s,l⟩:=aa.aP l;simp;refine bK.intro λcp i=>?_
 obtain⟨B,C,i⟩:=aa.aP i;obtain⟨K,t,i⟩:=aa.aP i;simp[C,aa.ai];have a:σ.Le ((((σ.set c4 (.cells [u8 0,u8 0,u8 0,u8 0,u8 0,u8 0])).set cg (.cells [.lit .nilFunc])).set cp (.cells [bd (kW b mb f 0) c4 cg])).set cg (.cells [yC (kW b mb f 0) y begun cp])):=(by repeat (first|exact aa.le_refl _|assumption|refine aa.fC ?_ (by assumption)|refine aa.lR ?_ (by assumption)));have D:((((σ.set c4 (.cells [u8 0,u8 0,u8 0,u8 0,u8 0,u8 0])).set cg (.cells [.lit .nilFunc])).set cp (.cells [bd (kW b mb f 0) c4 cg])).set cg (.cells [yC (kW b mb f 0) y begun cp])) c4=some (.cells (([0,0,0,0,0,0]:adG).map u8)):=by simp[s,t,aa.ai]
 have G:((((σ.set c4 (.cells [u8 0,u8 0,u8 0,u8 0,u8 0,u8 0])).set cg (.cells [.lit .nilFunc])).set cp (.cells [bd (kW b mb f 0) c4 cg])).set cg (.cells [yC (kW b mb f 0) y begun cp])) cg=some (.cells [yC (kW b mb f 0) y begun cp]):=by simp
 have sp:((((σ.set c4 (.cells [u8 0,u8 0,u8 0,u8 0,u8 0,u8 0])).set cg (.cells [.lit .nilFunc])).set cp (.cells [bd (kW b mb f 0) c4 cg])).set cg (.cells [yC (kW b mb f 0) y begun cp])) cp=some (.cells [bd (kW b mb f 0) c4 cg]):=by simp[B,aa.ai]
 have g:∀c,σ c=none -> ¬F c:=λc u H=>by
  obtain⟨x,n,_⟩:=Y.O0 _ _ _ _ k H
  simp_all
 refine bI.weaken (args':=[.sl 1 (([]:adG).map int) .any,int 0]) ?_ ⟨fa 1,.refl _,trivial⟩;refine dp Tryz.func189 rfl rfl rfl (Qh (y:=y) r w j Y d.1 f.aD.length [] 0 [0,0,0,0,0,0] .any F _ [] [] _ (by simp) (by omega) (ZF f) ⟨D,G,sp,⟨g _ A,g _ l,g _ i⟩,⟨s,t⟩⟩ (r.un (λc _ ⟨x,v,_⟩=>by rw[v];exact a _ _ v) z) (by simp[aI]) (Y.frame _ _ _ _ (λc u=>by obtain⟨x,n,_⟩:=Y.O0 _ _ _ _ k u;rw[n];exact a _ _ n) k) ⟨λe σ' o p q=>?_,λe σ' o p q=>?_⟩)
 . apply rn
   simp;refine .done (h e σ' (o.le a) p (.inl ?_));simpa[aI]using q
 . apply rn
   simp;exact .done (h e σ' (o.le a) p (.inr q))
end
section
variable{b mb:Nat}{f:Fr}{Un:adJ}{Ld:aa->acY->Prop}
theorem Qi(E:Ms prog m nn b 6 mb .u8 (kX f) Un Ld)(U:f.Good)(R:Un σ)(h:∀σ',Un σ'->pI b mb σ σ'->KF (.val (bool (decide (aI f []≠[])))) σ'):aA prog m 201 [kW b mb f 0] σ KF:=by
 refine fs [] Tryz.func201 rfl (by kernel_rfl) ?_
 simp[Tryz.f201];refine bK.intro λd h3=>?_
 simp;have V:Wl [kW b mb f 0,AV.lit (.slice none 0 0)] [kW b mb f 0,ints []]:=.cons (.refl _) (.cons (fa 1) .nil);refine bP Tryz.func159 rfl rfl V (Ck (begun:=[]) ?_);apply rn;simp;refine af.rangeFunc rfl λI r l J S o=>?_
 obtain⟨r1,W,J⟩:=aa.aP J;obtain⟨X,z,S⟩:=aa.aP S;generalize p:nG.mk _ _ _ _ _ _ _ _ _=G
 have Y:TJ m (.fn (.yield l) [] []) (aI f []) (λk F σ'=>k=0/\(∀c,F c↔c=l\/c=d)/\σ' l=some (.loop G)/\σ' d=some (.cells [bool false])) (λF σ'=>aI f []≠[]/\(∀c,F c↔c=l\/c=d)/\σ' l=some (.loop {G with state:=.done,pending:=some (.exit 0)})/\σ' d=some (.cells [bool true])):=by
  refine⟨λk F σ' Z hk A hT hF=>?_,λk F K a he A=>?_,λF K a he A=>?_,λk F σ' c A v=>?_⟩
  . obtain⟨rfl,i,H,L⟩:=A
    have e3:∀x,(σ'.set l x) d=some (.cells [bool false]):=λx=>by rw[aa.ai _ _ z];exact L
    subst p;refine bI.uF (hold:=[]) I Tryz.func201 H rfl ?_;apply rn;simp[lO];refine af.beginRound H rfl ?_;apply rn;simp[e3];have M:aI f []≠[]:=λe=>by simp_all
    refine⟨rfl,rfl,_,((aa.ai _ _ X).trans (aa.an _ _ _)),?_⟩;refine hF F _ (λc x v hx=>⟨?_,v⟩) ⟨M,i,aa.an _ _ _,(aa.ai _ _ z).trans (aa.an _ _ _)⟩
    have w:c≠l:=λe=>v ((i c).2 (.inl e))
    have B:c≠d:=λe=>v ((i c).2 (.inr e))
    exact(aa.ai _ _ w).trans ((aa.ai _ _ B).trans ((aa.ai _ _ w).trans hx))
  . simp_all
  . simp_all
  . obtain⟨rfl,i,H,L⟩:=A
    rcases(i c).1 v with rfl|rfl
    . exact⟨_,H,rfl⟩
    . exact⟨_,L,rfl⟩
 obtain⟨xb,a7,a8⟩:=E.TE R;have nb:∀c,σ c=none->c≠b:=λc v e=>by simp_all
 have C:σ.Le (((σ.set d (.cells [bool false])).set r (.raw (.deferred (some [])))).set l (.loop G)):=(by repeat (first|exact aa.le_refl _|assumption|refine aa.fC ?_ (by assumption)|refine aa.lR ?_ (by assumption)))
 have sr:(((σ.set d (.cells [bool false])).set r (.raw (.deferred (some [])))).set l (.loop G)) r=some (.raw (.deferred (some []))):=by rw[aa.ai _ _ o,aa.an]
 refine dp Tryz.func184 rfl rfl rfl (yD (F:=λc=>c=l\/c=d) E U (by simp) Y ⟨rfl,rfl⟩ (E.un (λc _ ⟨x,j,_⟩=>(C _ _ j).trans j.symm) R) ⟨rfl,λc=>aaR,aa.an _ _ _,(aa.ai _ _ z).trans ((aa.ai _ _ W).trans (aa.an _ _ _))⟩ λF' σ' D N n=>?_)
 have q:=(D r _ sr (λe=>by omega) (nb r J) (.inr rfl)).1
 have s:pI b mb σ σ':=λc x j y t=>(D c x (C c x j) (λe=>by grind) y t).1
 have O:∀a,a=(σ'.del l).set r (.raw (.deferred none))->Un a/\pI b mb σ a:=λa e=>by
  subst e;refine⟨E.un (σ:=σ') (λc _ ⟨x,j,y⟩=>?_) N,λc x j y t=>?_⟩
  . have w:c≠r:=λe=>by subst e;rw[q]at j;cases j;cases y
    have B:c≠l:=λe=>by
     subst e
     rcases n with⟨_,_,g,_⟩|⟨_,_,g,_⟩<;>rw[g]at j<;>cases j<;>cases y
    rw[aa.ai _ _ w];simp[aa.del,B]
  . have w:c≠r:=λe=>by simp_all
    have B:c≠l:=λe=>by simp_all
    rw[aa.ai _ _ w];simp only[aa.del,B,Rp];exact s c x j y t
 rcases n with⟨T,_,P,q2⟩|⟨T,_,P,q2⟩
 . have Q:decide (aI f []≠[])=false:=by simp_all
   rw[Q]at h;subst p;refine⟨_,P,by simp,rfl,?_⟩
   have u:(σ'.del l) d=some (.cells [bool false]):=by simp only[aa.del,z,Rp];omega
   apply rn;simp[u];refine⟨by simp only[aa.del,o,Rp];exact q,.done ?_⟩
   simp_all
 . have Q:decide (aI f []≠[])=true:=by simp[T]
   rw[Q]at h;subst p;refine⟨_,P,by simp,rfl,?_⟩
   have u:(σ'.del l) d=some (.cells [bool true]):=by simp only[aa.del,z,Rp];omega
   apply rn;simp[u];refine⟨by simp only[aa.del,o,Rp];exact q,.done ?_⟩
   simp_all
end
end
section
open Go Go.cG
abbrev ng:IL:=⟨89,91,95,119,120,133,118,126,136,121,162,163,164,169,137,130,208,210,215⟩
theorem Nh:∀(b:Nat) (kind:adK),bb (A0 prog ng b kind).1=some (ng.jA,[])/\(A0 prog ng b kind).1.env.all plain=true/\(A0 prog ng b kind).2=[]/\(A0 prog ng b kind).1.kind=kind:=by intro b kind;exact⟨by kernel_rfl,by kernel_rfl,by kernel_rfl,by kernel_rfl⟩
theorem Ni:∀(b:Nat) (kind:adK),bb (A1 prog ng b kind).1=some (ng.Pw,[])/\(A1 prog ng b kind).1.env.all plain=true/\(A1 prog ng b kind).2=[]/\(A1 prog ng b kind).1.kind=kind:=by intro b kind;exact⟨by kernel_rfl,by kernel_rfl,by kernel_rfl,by kernel_rfl⟩
theorem Nj:∀(b:Nat) (kind:adK),bb (A2 prog ng b kind).1=some (ng.tp,[pt b 0,u64 4294967296])/\wO (A2 prog ng b kind)=true/\(A2 prog ng b kind).1.env.all plain=true/\(A2 prog ng b kind).2.all (·.env.all plain)=true:=by intro b kind;exact⟨by kernel_rfl,by kernel_rfl,by kernel_rfl,by kernel_rfl⟩
theorem Nk:∀(b:Nat) (kind:adK) (a:Fl),kM (A3 prog ng b kind (f1 a true)).1=some (ng.tS,ng.tU,pt b 1):=by intro b kind a;kernel_rfl
theorem Nl:∀(b:Nat) (kind:adK) (a:Fl),bb (A4 prog ng b kind (f1 a true)).1=some (ng.rd,[pt b 1])/\(A4 prog ng b kind (f1 a true)).1.kind=kind:=by intro b kind a;exact⟨by kernel_rfl,by kernel_rfl⟩
theorem Nm:∀(b:Nat) (kind:adK) (a:Fl),sn (A5 prog ng b kind (f0 (f1 a true) false)).1=some ng.en/\(A5 prog ng b kind (f0 (f1 a true) false)).2=[]/\(A5 prog ng b kind (f0 (f1 a true) false)).1.kind=kind/\(A5 prog ng b kind (f0 (f1 a true) false)).1.fn=ng.add:=by intro b kind a;exact⟨by kernel_rfl,by kernel_rfl,by kernel_rfl,by kernel_rfl⟩
theorem Nn:∀(b:Nat) (kind:adK) (a:Fl),sn (A3 prog ng b kind (f0 (f1 a false) false)).1=some ng.en/\(A3 prog ng b kind (f0 (f1 a false) false)).2=[]/\(A3 prog ng b kind (f0 (f1 a false) false)).1.kind=kind/\(A3 prog ng b kind (f0 (f1 a false) false)).1.fn=ng.add:=by intro b kind a;exact⟨by kernel_rfl,by kernel_rfl,by kernel_rfl,by kernel_rfl⟩
theorem No:∀(b:Nat),kM (D0 prog ng b).1=some (ng.tG,ng.tU,pt b 0)/\(D0 prog ng b).1.env.all plain=true/\(D0 prog ng b).2.all (·.env.all plain)=true:=by intro b;exact⟨by kernel_rfl,by kernel_rfl,by kernel_rfl⟩
theorem Np:∀(b:Nat),bb (D1 prog ng b).1=some (ng.rel,[pt b 0])/\wO (D1 prog ng b)=true/\(D1 prog ng b).1.env.all plain=true/\(D1 prog ng b).2.all (·.env.all plain)=true:=by intro b;exact⟨by kernel_rfl,by kernel_rfl,by kernel_rfl,by kernel_rfl⟩
theorem Nq:∀(b:Nat),bb (D2 prog ng b).1=some (ng.jA,[])/\wO (D2 prog ng b)=true/\(D2 prog ng b).1.env.all plain=true/\(D2 prog ng b).2.all (·.env.all plain)=true:=by intro b;exact⟨by kernel_rfl,by kernel_rfl,by kernel_rfl,by kernel_rfl⟩
theorem Nr:∀(b:Nat),bb (D3 prog ng b).1=some (ng.Pw,[])/\wO (D3 prog ng b)=true/\(D3 prog ng b).1.env.all plain=true/\(D3 prog ng b).2.all (·.env.all plain)=true:=by intro b;exact⟨by kernel_rfl,by kernel_rfl,by kernel_rfl,by kernel_rfl⟩
theorem Ns:∀(b:Nat),bb (D4 prog ng b).1=some (ng.tp,[pt b 0,u64 18446744069414584320])/\wO (D4 prog ng b)=true/\(D4 prog ng b).1.env.all plain=true/\(D4 prog ng b).2.all (·.env.all plain)=true:=by intro b;exact⟨by kernel_rfl,by kernel_rfl,by kernel_rfl,by kernel_rfl⟩
theorem Nt:∀(b:Nat) (a:Fl) (x:Bool),sn (DE prog ng b (f0 a x) 0).1=some ng.en:=by intro b a x;cases x<;>kernel_rfl
theorem J8:∀(b:Nat) (a:Fl) (x:Bool),kq (mG prog (f0 a x) (DE prog ng b (f0 a x) 0)).1 ng.done=true/\(mG prog (f0 a x) (DE prog ng b (f0 a x) 0)).2=[]/\(mG prog (f0 a x) (DE prog ng b (f0 a x) 0)).1.kind=.deferred:=by intro b a x;cases x<;>exact⟨by kernel_rfl,by kernel_rfl,by kernel_rfl⟩
theorem Nu:∀(b:Nat) (a:Fl),sn (DE prog ng b (f0 a false) 1).1=some ng.en:=by intro b a;kernel_rfl
theorem J9:∀(b:Nat) (a:Fl),kq (mG prog (f0 a false) (DE prog ng b (f0 a false) 1)).1 ng.done=true/\(mG prog (f0 a false) (DE prog ng b (f0 a false) 1)).2=[]/\(mG prog (f0 a false) (DE prog ng b (f0 a false) 1)).1.kind=.deferred:=by intro b a;exact⟨by kernel_rfl,by kernel_rfl,by kernel_rfl⟩
theorem Nv:∀(b:Nat) (a:Fl),bb (DE prog ng b (f0 a true) 1).1=some (ng.wx,[pt b 0])/\wO (DE prog ng b (f0 a true) 1)=true:=by intro b a;exact⟨by kernel_rfl,by kernel_rfl⟩
theorem Nw:∀(b:Nat) (a:Fl),bb (D6 prog ng b (f0 a true)).1=some (ng.IM,[pt b 0,u64 0])/\wO (D6 prog ng b (f0 a true))=true:=by intro b a;exact⟨by kernel_rfl,by kernel_rfl⟩
theorem Nx:∀(b:Nat) (a:Fl),bb (D7 prog ng b (f0 a true)).1=some (ng.oO,[pt b 1,ff,i64 0])/\wO (D7 prog ng b (f0 a true))=true:=by intro b a;exact⟨by kernel_rfl,by kernel_rfl⟩
theorem Ny:∀(b:Nat) (a:Fl),sn (D8 prog ng b (f0 a true)).1=some ng.en:=by intro b a;kernel_rfl
theorem Nz:∀(b:Nat) (a:Fl),kq (mG prog (f0 a true) (D8 prog ng b (f0 a true))).1 ng.done=true/\(mG prog (f0 a true) (D8 prog ng b (f0 a true))).2=[]/\(mG prog (f0 a true) (D8 prog ng b (f0 a true))).1.kind=.deferred:=by intro b a;exact⟨by kernel_rfl,by kernel_rfl,by kernel_rfl⟩
theorem NA:∀(b:Nat) (kind:adK),bb (W0 prog ng b kind).1=some (ng.jA,[])/\(W0 prog ng b kind).1.env.all plain=true/\(W0 prog ng b kind).2=[]/\(W0 prog ng b kind).1.kind=kind:=by intro b kind;exact⟨by kernel_rfl,by kernel_rfl,by kernel_rfl,by kernel_rfl⟩
theorem NB:∀(b:Nat) (kind:adK),bb (W1 prog ng b kind).1=some (ng.wx,[pt b 0])/\wO (W1 prog ng b kind)=true/\(W1 prog ng b kind).1.env.all plain=true/\(W1 prog ng b kind).2.all (·.env.all plain)=true:=by intro b kind;exact⟨by kernel_rfl,by kernel_rfl,by kernel_rfl,by kernel_rfl⟩
theorem NC:∀(b:Nat) (kind:adK) (a:Fl),bb (WE prog ng b kind (f0 a true)).1=some (ng.en,[])/\(WE prog ng b kind (f0 a true)).1.kind=kind:=by intro b kind a;exact⟨by kernel_rfl,by kernel_rfl⟩
theorem ND:∀(b:Nat) (kind:adK) (a:Fl),kM (WC prog ng b kind (f0 a true)).1=some (ng.tG,ng.tU,pt b 0):=by intro b kind a;kernel_rfl
theorem NF:∀(b:Nat) (kind:adK) (a:Fl),bb (WA prog ng b kind (f0 a true)).1=some (ng.acq,[pt b 0])/\(WA prog ng b kind (f0 a true)).1.kind=kind:=by intro b kind a;exact⟨by kernel_rfl,by kernel_rfl⟩
theorem NG:∀(b:Nat) (kind:adK) (a:Fl),kq (WB prog ng b kind (f0 a true)).1 ng.wait=true/\(WB prog ng b kind (f0 a true)).2=[]/\(WB prog ng b kind (f0 a true)).1.kind=kind:=by intro b kind a;exact⟨by kernel_rfl,by kernel_rfl,by kernel_rfl⟩
theorem NH:∀(b:Nat) (kind:adK) (a:Fl),bb (WE prog ng b kind (f0 a false)).1=some (ng.xR,[pt b 0,.eF 0,.eF 1])/\wO (WE prog ng b kind (f0 a false))=true:=by intro b kind a;exact⟨by kernel_rfl,by kernel_rfl⟩
theorem NI:∀(b:Nat) (kind:adK) (a:Fl),HE [5] [[0]] (next prog (f0 a false) (WE prog ng b kind (f0 a false)) ff)=W1 prog ng b kind:=by intro b kind a;kernel_rfl
theorem NJ:∀(b:Nat) (kind:adK) (a:Fl),kM (W3 prog ng b kind (f0 a false)).1=some (ng.tS,ng.tU,pt b 1):=by intro b kind a;kernel_rfl
theorem NK:∀(b:Nat) (kind:adK) (a:Fl),bb (Ty prog ng b kind (f0 a false)).1=some (ng.wr,[pt b 1])/\(Ty prog ng b kind (f0 a false)).1.kind=kind:=by intro b kind a;exact⟨by kernel_rfl,by kernel_rfl⟩
theorem NL:∀(b:Nat) (kind:adK) (a:Fl),bb (W4 prog ng b kind (f0 a false)).1=some (ng.FE,[pt b 1,ff])/\(W4 prog ng b kind (f0 a false)).1.kind=kind:=by intro b kind a;exact⟨by kernel_rfl,by kernel_rfl⟩
theorem NM:∀(b:Nat) (kind:adK) (a:Fl),bb (W5 prog ng b kind (f0 a false)).1=some (ng.wx,[pt b 0])/\wO (W5 prog ng b kind (f0 a false))=true:=by intro b kind a;exact⟨by kernel_rfl,by kernel_rfl⟩
theorem NN:∀(b:Nat) (kind:adK) (a:Fl),bb (Tz prog ng b kind (f0 a false)).1=some (ng.en,[])/\(Tz prog ng b kind (f0 a false)).1.kind=kind:=by intro b kind a;exact⟨by kernel_rfl,by kernel_rfl⟩
theorem NO:∀(b:Nat) (kind:adK) (a:Fl),kM (UL prog ng b kind (f0 a false)).1=some (ng.tG,ng.tU,pt b 0):=by intro b kind a;kernel_rfl
theorem NP:∀(b:Nat) (kind:adK) (a:Fl),bb (TA prog ng b kind (f0 a false)).1=some (ng.acq,[pt b 0])/\(TA prog ng b kind (f0 a false)).1.kind=kind:=by intro b kind a;exact⟨by kernel_rfl,by kernel_rfl⟩
theorem NQ:∀(b:Nat) (kind:adK) (a:Fl),kq (Q2 prog ng b kind (f0 a false)).1 ng.wait=true/\(Q2 prog ng b kind (f0 a false)).2=[]/\(Q2 prog ng b kind (f0 a false)).1.kind=kind:=by intro b kind a;exact⟨by kernel_rfl,by kernel_rfl,by kernel_rfl⟩
theorem Rn:gT prog ng where
 a0:=Nh
 a1:=Ni
 a2:=Nj
 a3:=Nk
 a4:=Nl
 a5:=Nm
 a6:=Nn
 d0:=No
 d1:=Np
 d2:=Nq
 d3:=Nr
 d4:=Ns
 d5:=Nt
 Yi:=J8
 d6:=Nu
 Yj:=J9
 d7:=Nv
 d8:=Nw
 d9:=Nx
 da:=Ny
 db:=Nz
 w0:=NA
 w1:=NB
 w2:=NC
 w3:=ND
 w4:=NF
 w5:=NG
 w6:=NH
 w7:=NI
 w8:=NJ
 w9:=NK
 wa:=NL
 wb:=NM
 wc:=NN
 wd:=NO
 we:=NP
 wf:=NQ
theorem Ro:iN prog ng where
 jA:=⟨_,rfl,rfl,rfl,rfl,rfl⟩
 en:=⟨_,rfl,rfl,rfl,rfl,rfl⟩
 acq:=⟨_,rfl,rfl,rfl,rfl,rfl⟩
 rel:=⟨_,rfl,rfl,rfl,rfl,rfl⟩
 rd:=⟨_,rfl,rfl,rfl,rfl,rfl⟩
 wr:=⟨_,rfl,rfl,rfl,rfl,rfl⟩
 Pw:=⟨_,rfl,rfl,rfl,rfl,rfl⟩
 tp:=⟨_,rfl,rfl,rfl,rfl,rfl⟩
 wx:=⟨_,rfl,rfl,rfl,rfl,rfl⟩
 IM:=⟨_,rfl,rfl,rfl,rfl,rfl⟩
 xR:=⟨_,rfl,rfl,rfl,rfl,rfl⟩
 FE:=⟨_,rfl,rfl,rfl,rfl,rfl⟩
 oO:=⟨_,rfl,rfl,rfl,rfl,rfl⟩
 Yk:=⟨_,rfl,rfl,rfl⟩
 Yl:=⟨_,rfl,rfl,rfl⟩
 R1:=⟨_,_,rfl,rfl,rfl,rfl⟩
 LI:=⟨_,_,rfl,rfl,rfl,rfl⟩
 LJ:=⟨_,_,rfl,rfl,rfl,rfl⟩
end
open Go.cG Go.Conc
set_option maxRecDepth 4000
variable{m:Mo}{σ:aa}{KF:adl}
theorem Su:mI prog nn:=⟨⟨_,_,Tryz.func93,rfl,rfl,rfl⟩,⟨_,_,Tryz.func94,rfl,rfl,rfl⟩⟩
section
variable{b mb:Nat}{f:Fr}{A:bH}{j:Nat}{begun:adG}
theorem GB{b:aj}(a:A.ng=ng){body:Code}(hb:Tryz.f160.body=some body):af prog (xV prog A) 160 4 none [] [.code body] ⟨dw [.ref A.gb 0,.cp (.chan A.cF) 0],jU A.fb,[],.told .deferred [cE prog] b⟩ (λ_ _=>False):=by
 simp only[Tryz.f160,kn]at hb;subst hb;refine af.runN lay [] 2 ?_;simp;refine af.Mr rfl (by rw[a];rfl) rfl (by simp) (by rw[a];exact Tryz.func95) rfl rfl rfl ?_;apply rn;simp;exact af.F7 rfl rfl (by simp) rfl rfl rfl rfl rfl Tryz.func160 rfl rfl
theorem yE{T:aj}(U:A.fb=b/\A.mb=mb/\A.fo=6/\A.nm=nn/\A.ng=ng/\A.dir=false)(V:∀x,A.GI x↔∃l,x=mapA .u8 l/\kX f l)(W:f.Good)(N:A.res j=int (aI f begun).length)(t:begun.length<1152921504606846976)(hlen:(aI f begun).length<1152921504606846976){body:Code}(hb:Tryz.f158.body=some body):
 af prog (iE prog A j) 158 13 none [] [.code body] ⟨dw [.ref A.gb 0,.cp (kW b mb f 0) 0,.cp (ints begun) 0,.cp (.chan A.cF) 0],jU A.fb,[],.told .deferred [cE prog] T⟩ (λ_ _=>False):=by
 obtain⟨rfl,rfl,u,v,m,g⟩:=U;simp only[Tryz.f158,kn]at hb;subst hb;have O:=Mt (P:=prog) (A:=A) g (j:=j) (kd:=.u8) V;rw[u,v]at O;apply rn;simp;refine af.defer rfl rfl rfl rfl (by simp) rfl ?_
 apply rn;simp;refine bK.intro λcn X=>?_
 simp;refine cf Tryz.func159 rfl (Ck (begun:=begun) (sp:=.any) ?_);apply rn;simp;refine af.rangeFunc rfl λw r l y Q n=>?_
 obtain⟨r1,Y,y⟩:=aa.aP y;obtain⟨Z,q,Q⟩:=aa.aP Q;generalize o:nG.mk _ _ _ _ _ _ _ _ _=z
 have hY:TJ (iE prog A j) (.fn (.yield l) [] []) (aI f begun) (λk F a=>(∀c,F c↔c=l\/c=cn)/\a l=some (.loop z)/\a cn=some (.cells [int k])) (λF a=>False):=by
  refine⟨λk F a a7 hk i hT hF=>?_,λk F B C he i=>?_,λF B C he i=>i.elim,λk F a c i h=>?_⟩
  . obtain⟨d,s,D⟩:=i
    have e3:∀x,(a.set l x) cn=some (.cells [int k]):=λx=>(aa.ai _ _ q).trans D
    have f1:-9223372036854775808<=(k:Int)+1/\(k:Int)+1<=9223372036854775807:=by omega
    subst o;refine bI.uF (hold:=[]) w Tryz.func158 s rfl ?_;apply rn;simp[lO];refine af.beginRound s rfl ?_;apply rn;simp[e3,f1.1,f1.2];refine⟨rfl,rfl,_,((aa.ai _ _ Z).trans (aa.an _ _ _)),?_⟩;refine hT F _ (λc x h hx=>⟨?_,h⟩) ⟨d,aa.an _ _ _,(aa.ai _ _ q).trans (aa.an _ _ _)⟩
    have R:c≠l:=λe=>h ((d c).2 (.inl e))
    have c2:c≠cn:=λe=>h ((d c).2 (.inr e))
    exact(aa.ai _ _ R).trans ((aa.ai _ _ c2).trans ((aa.ai _ _ R).trans hx))
  . simp_all
  . obtain⟨d,s,D⟩:=i
    rcases(d c).1 h with rfl|rfl
    . exact⟨_,s,rfl⟩
    . exact⟨_,D,rfl⟩
 have hu:Ys A.fb (((jU A.fb).set cn (.cells [int 0])).set r (.raw (.deferred (some [])))|>.set l (.loop z)):=by
  have h0:(jU A.fb) A.fb=some .ig:=by simp[jU]
  have E:A.fb≠cn:=λe=>by simp_all
  have S:A.fb≠r:=λe=>by simp_all
  have G:A.fb≠l:=λe=>by simp_all
  show _=_;rw[aa.ai _ _ G,aa.ai _ _ S,aa.ai _ _ E];exact h0
 have nb:∀c,(jU A.fb) c=none->c≠A.fb:=λc h e=>by subst e;simp[jU]at h
 have sr:(((jU A.fb).set cn (.cells [int 0])).set r (.raw (.deferred (some [])))|>.set l (.loop z)) r=some (.raw (.deferred (some []))):=(aa.ai _ _ n).trans (aa.an _ _ _)
 refine dp Tryz.func184 rfl rfl rfl (yD (F:=λc=>c=l\/c=cn) O W t hY ⟨rfl,rfl⟩ hu ⟨λc=>aaR,aa.an _ _ _,(aa.ai _ _ q).trans ((aa.ai _ _ Y).trans (aa.an _ _ _))⟩ λF' a H I p=>?_)
 have J:=(H r _ sr (λe=>by omega) (nb r y) (.inr rfl)).1
 rcases p with⟨_,E,S⟩|hE
 . subst o
   refine⟨_,E,by simp,rfl,?_⟩
   have K:(a.del l) cn=some (.cells [int (aI f begun).length]):=by simp only[aa.del,q,Rp];omega
   have L:(a.del l) A.fb=some .ig:=by
    have G:A.fb≠l:=λe=>by grind
    simp only[aa.del,G,Rp];exact I
   have M:(a.del l) r=some (.raw (.deferred (some []))):=by simp only[aa.del,n,Rp];exact J
   apply rn;simp[K];refine af.Mq g rfl rfl (by simp) rfl rfl (by simp_all) L rfl rfl Tryz.func158 rfl (by rw[m];exact Tryz.func91) rfl rfl ?_
   apply rn;simp;refine⟨rfl,.inl rfl,⟨_,rfl⟩,r,by rw[m],M⟩
 simp_all
end
def jK(j:Nat):adG:=if j=0 then[0,0]else[0,1]
def iv(f:Fr):Int:=if f.aD.length<2 then 1 else(aI f [0,0]).length+(aI f [0,1]).length
theorem Rq{v d:AV}(l:v.cells=[v])(m:d.cells=[d])(h:v.W d):(AV.cp v 0).W (.cp d 0):=λk x n=>by
 cases n with
 | cp b base off N E v c o p f g=>
   rw[l]at p f g;refine .cp b base 0 N E d c o (by simp_all) (λj i=>f j (by simp_all)) (λj a e=>?_);rw[m]at e;have i:j=0:=by grind
   subst i;simp at e;subst e;exact h k _ (g 0 v rfl)
section
variable{b mb:Nat}{f:Fr}
theorem NR(U:m.solo=true)(A:f.Good)(hlen:(aI f [0,0]).length<1000000000/\(aI f [0,1]).length<1000000000)(q:b≠mb)(L:TF b 6 mb .u8 (kX f) σ)(h:∀σ',TF b 6 mb .u8 (kX f) σ'->pI b mb σ σ'->KF (.val (int (iv f))) σ'):aA prog m 114 [kW b mb f 0] σ KF:=by
 have h6:=A.pJ;unfold iv at h;refine fs [] Tryz.func114 rfl (by kernel_rfl) ?_
 simp[Tryz.f114]
 by_cases M:f.aD.length<2
 . have k:(f.aD.length:Int)<2:=by omega
   rw[aaB M]at h;simp[k];exact .done (h σ L (pI.refl b mb σ))
 have k:¬(f.aD.length:Int)<2:=by omega
 rw[aay M]at h;obtain⟨V,lm,N,W⟩:=L;simp[k];refine DW lay rfl HX rfl rD rfl (by decide) λcF X=>?_
 apply rn;simp;refine bK.intro λy r=>?_
 obtain⟨n1,Y,r⟩:=aa.aP r;simp;refine bK.intro λgb g=>?_
 obtain⟨Z,n4,g⟩:=aa.aP g;obtain⟨n5,O,g⟩:=aa.aP g;simp;have P:cF≠b:=λe=>by simp_all
 have Q:cF≠mb:=λe=>by simp_all
 have b3:y≠b:=λe=>by simp_all
 have m3:y≠mb:=λe=>by simp_all
 have s:gb≠b:=λe=>by simp_all
 have gm:gb≠mb:=λe=>by simp_all
 refine af.bq 3 (b:=y) (.chan cF) (by simp[n4,aa.ai]) (by simp) rfl ?_
 refine af.bX U ⟨2,false,cF,b,6,gb,mb,λx=>∃l,x=mapA .u8 l/\kX f l,λj=>int (aI f (jK j)).length,λ_=>.tuple #[],nn,ng,by omega,P,O,Q,za s,q,gm⟩ rfl Rn Ro AN AO Su (tm:=false) (a:=mapA .u8 lm) (by simp[aa.del,aa.ai,Y,O]) (by simp[aa.del,Z]) (by simp[aa.del,aa.set,za b3,za s,za P,V]) (by simp[aa.del,aa.set,za m3,za gm,za Q,N]) (by simp[mapA,ns]) ⟨lm,rfl,W⟩ rfl λpb a7 Fin kd a8 k0 t=>?_
 refine af.u6 ?_;refine af.runN lay [] 18 ?_;simp;refine bK.intro λB C=>?_
 have d:B≠b:=λe=>by simp_all
 simp
 change af _ _ _ _ _ _ _ _ _
 refine af.bq 6 (b:=B) (.sl 1 [int 0,int 0] .exact) (aa.an _ _ _) (by simp) rfl ?_
 refine af.Jb 6 (a':=.cp (ints [0,0]) 0) (by simp;exact Rq rfl rfl (gy 1 [int 0,int 0] .exact)) ?_
 refine af.Mp rfl rfl rfl (by simp) Tryz.func89 rfl rfl rfl ?_
 apply rn;simp;refine af.uu (hold':=[]) rfl rfl rfl (by simp) rfl Tryz.func158 rfl rfl (by simp_all) (by simp[gW.at,aa.del,aa.set,za d]) (by kernel_rfl) (λR=>yE (b:=b) (mb:=mb) (f:=f) (begun:=[0,0]) ⟨rfl,rfl,rfl,rfl,rfl,gW.yj _ _ _⟩ (λx=>aaR) A rfl (by simp) (by omega) rfl) ?_
 apply rn;simp;refine af.again (by kernel_rfl) ?_
 refine af.runN lay [] 18 ?_;simp;refine bK.intro λD u=>?_
 have n:D≠b:=λe=>by subst e;simp[aa.del,aa.set,za d]at u
 simp
 change af _ _ _ _ _ _ _ _ _
 refine af.bq 6 (b:=D) (.sl 1 [int 0,int 1] .exact) (aa.an _ _ _) (by simp) rfl ?_
 refine af.Jb 6 (a':=.cp (ints [0,1]) 0) (by simp;exact Rq rfl rfl (gy 1 [int 0,int 1] .exact)) ?_
 refine af.Mp rfl rfl rfl (by simp) Tryz.func89 rfl rfl rfl ?_
 apply rn;simp;refine af.uu (hold':=[]) rfl rfl rfl (by simp) rfl Tryz.func158 rfl rfl (by simp_all) (by simp[gW.at,aa.del,aa.set,za n,za d]) (by kernel_rfl) (λR=>yE (b:=b) (mb:=mb) (f:=f) (begun:=[0,1]) ⟨rfl,rfl,rfl,rfl,rfl,gW.yj _ _ _⟩ (λx=>aaR) A rfl (by simp) (by omega) rfl) ?_
 apply rn;simp;refine af.again (by kernel_rfl) ?_
 apply rn;simp;refine af.Xn (by exact gW.yj _ _ _) (hold':=[]) rfl rfl rfl (by simp) rfl Tryz.func160 rfl rfl (by simp_all) (by simp[gW.at,aa.del,aa.set,za n,za d]) (by kernel_rfl) (λR=>GB rfl rfl) ?_
 apply rn;simp;refine af.u6 ?_;apply rn;simp;refine af.HV lay rfl rfl HX rfl rD (by simp) rfl rfl λi E=>?_
 have a9:∀j,(aI f (jK j)).length<1000000000:=λj=>by unfold jK;grind
 have f1:-9223372036854775808<=((aI f (jK i)).length:Int)/\((aI f (jK i)).length:Int)<=9223372036854775807:=by grind
 apply rn;simp[gW.at,f1.1,f1.2];refine af.again (by kernel_rfl) ?_
 apply rn;simp;refine af.HV lay rfl rfl HX rfl rD (by simp) rfl rfl λo F=>?_
 have S:-9223372036854775808<=((aI f (jK i)).length:Int)+((aI f (jK o)).length:Int)/\((aI f (jK i)).length:Int)+((aI f (jK o)).length:Int)<=9223372036854775807:=by grind
 apply rn;simp[S.1,S.2];refine af.again (by kernel_rfl) ?_
 apply rn;simp;refine af.B9 lay rfl rfl HX rfl rD (by simp) rfl rfl (by simp[aa.del,aa.set,za n,za d]) rfl t λa ha=>?_
 apply rn;simp
 have v:((aI f (jK i)).length:Int)+((aI f (jK o)).length:Int)=((aI f [0,0]).length:Int)+((aI f [0,1]).length:Int):=by
  have p:i∈List.range 2:=E;have z:o∈(List.range 2).erase i:=F;have:i=0\/i=1:=by simp_all
  rcases this with rfl|rfl
  . have:o=1:=by simp_all
    subst this;rfl
  . have:o=0:=by simp_all
    subst this;exact Int.add_comm _ _
 rw[v];obtain⟨la,rfl,G⟩:=ha;refine .done (h _ ⟨aa.an _ _ _,la,(aa.ai _ _ (za q)).trans (aa.an _ _ _),G⟩ λc x p z w=>?_)
 have H:c≠mb:=λe=>by
  subst e;rw[N]at p;cases p
  rcases w with w|w
  . exact w rfl
  . cases w
 have I:c≠cF:=λe=>by simp_all
 have J:c≠y:=λe=>by simp_all
 have K:c≠gb:=λe=>by simp_all
 have T:c≠B:=λe=>by subst e;simp[aa.del,aa.set,H,I,J,K,z,p]at C
 have e6:c≠D:=λe=>by subst e;simp[aa.del,aa.set,H,I,J,K,T,z,p]at u
 simp[aa.del,aa.set,H,I,J,K,T,e6,z,p]
end
section
variable{b mb:Nat}{f:Fr}{Un:adJ}{Ld:aa->acY->Prop}
theorem GC(Q:Ms prog m nn b 6 mb .u8 (kX f) Un Ld)(hf:f.Good){G:AV}{p:adG->Bool}(z:G.cells=[G]/\G.flat=true)(U:∀w∈aI f [],∀(σ:aa) (KF:adl),KF (.val (bool (p w))) σ->bI prog m G [ints w] σ KF)(hlen:(aI f []).length<1152921504606846976)(hu:Un σ)
 (h:∀σ',Un σ'->pI b mb σ σ'->KF (.val (.ck [int (((aI f []).filter p).length),int (aI f []).length])) σ'):aA prog m 203 [kW b mb f 0,G] σ KF:=by
 refine fs Rh Tryz.func203 rfl (by kernel_rfl) ?_
 simp[Tryz.f203,z.1,z.2];refine bK.intro λj h6=>?_
 simp;refine bK.intro λd h7=>?_
 obtain⟨R,z2,h7⟩:=aa.aP h7;simp[R,z2,aa.ai];have hW:Wl [kW b mb f 0,AV.lit (.slice none 0 0)] [kW b mb f 0,ints []]:=.cons (.refl _) (.cons (fa 1) .nil);refine bP Tryz.func159 rfl rfl hW (Ck (begun:=[]) ?_);apply rn;simp;refine af.rangeFunc rfl λV r l t u H=>?_
 obtain⟨a1,_,t⟩:=aa.aP t;obtain⟨a2,_,t⟩:=aa.aP t;obtain⟨_,_,t⟩:=aa.aP t;obtain⟨_,_,t⟩:=aa.aP t;obtain⟨a3,_,u⟩:=aa.aP u;obtain⟨a4,_,u⟩:=aa.aP u;obtain⟨_,_,u⟩:=aa.aP u;obtain⟨_,_,u⟩:=aa.aP u;have I:σ r=none/\r≠j/\r≠d:=⟨t,a2,a1⟩;have a:σ l=none/\l≠j/\l≠d:=⟨u,a4,a3⟩;generalize J:nG.mk _ _ _ _ _ _ _ _ _=K
 have hY:TJ m (.fn (.yield l) [] []) (aI f []) (λk F σ'=>(∀c,F c↔c=l\/c=j\/c=d)/\σ' l=some (.loop K)/\σ' j=some (.cells [int ((((aI f []).take k).filter p).length)])/\σ' d=some (.cells [int k])) (λF σ'=>False):=by
  refine⟨λk F σ' ad hk D hT hF=>?_,λk F W n he D=>?_,λF W n he D=>D.elim,λk F σ' c D o=>?_⟩
  . obtain⟨i,S,X,Y⟩:=D
    have e7:∀x,(σ'.set l x) d=some (.cells [int k]):=λx=>(aa.ai _ _ (za a.2.2)).trans Y
    have f1:-9223372036854775808<=(k:Int)+1/\(k:Int)+1<=9223372036854775807:=by omega
    have av:(((aI f []).take k).filter p).length<=k:=aaG (abo _ _) (by grind)
    have f2:-9223372036854775808<=((((aI f []).take k).filter p).length:Int)+1/\((((aI f []).take k).filter p).length:Int)+1<=9223372036854775807:=by omega
    have Z:(((aI f []).take (k+1)).filter p).length=(((aI f []).take k).filter p).length+if p (aI f [])[k]then 1 else 0:=by
     rw[zD hk,abH,aaF]
     grind
    have L:(aI f [])[k]∈aI f []:=zG hk;subst J;refine bI.uF (hold:=Rh) V Tryz.func203 S rfl ?_;apply rn;simp[lO];refine af.beginRound S rfl ?_;apply rn;simp[e7,f1.1,f1.2,z.1];refine U _ L _ _ ?_;have e6:∀x y,((σ'.set l x).set d y) j=some (.cells [int ((((aI f []).take k).filter p).length)]):=λx y=>(aa.ai _ _ (za R)).trans ((aa.ai _ _ (za a.2.1)).trans X)
    cases hp:p (aI f [])[k]
    . apply rn
      simp;refine⟨rfl,rfl,_,((aa.ai _ _ a.2.2).trans (aa.an _ _ _)),?_⟩;refine hT F _ (λc x o hx=>⟨?_,o⟩) ⟨i,aa.an _ _ _,?_,(aa.ai _ _ (za a.2.2)).trans (aa.an _ _ _)⟩
      . have A:c≠l:=λe=>o ((i c).2 (.inl e))
        have M:c≠d:=λe=>o ((i c).2 (.inr (.inr e)))
        exact(aa.ai _ _ A).trans ((aa.ai _ _ M).trans ((aa.ai _ _ A).trans hx))
      . refine(aa.ai _ _ (za a.2.1)).trans ((e6 _ _).trans ?_)
        simp_all
    . apply rn
      simp[e6,f2.1,f2.2];refine⟨rfl,rfl,_,((aa.ai _ _ a.2.1).trans ((aa.ai _ _ a.2.2).trans (aa.an _ _ _))),?_⟩;refine hT F _ (λc x o hx=>⟨?_,o⟩) ⟨i,aa.an _ _ _,?_,(aa.ai _ _ (za a.2.2)).trans ((aa.ai _ _ R).trans (aa.an _ _ _))⟩
      . have A:c≠l:=λe=>o ((i c).2 (.inl e))
        have T:c≠j:=λe=>o ((i c).2 (.inr (.inl e)))
        have M:c≠d:=λe=>o ((i c).2 (.inr (.inr e)))
        exact(aa.ai _ _ A).trans ((aa.ai _ _ T).trans ((aa.ai _ _ M).trans ((aa.ai _ _ A).trans hx)))
      . refine(aa.ai _ _ (za a.2.1)).trans ((aa.an _ _ _).trans ?_)
        simp_all
  . simp_all
  . obtain⟨i,S,X,Y⟩:=D
    rcases(i c).1 o with rfl|rfl|rfl
    . exact⟨_,S,rfl⟩
    . exact⟨_,X,rfl⟩
    . exact⟨_,Y,rfl⟩
 obtain⟨xb,ax,ay⟩:=Q.TE hu;have nb:∀c,σ c=none->c≠b:=λc o e=>by simp_all
 have N:σ.Le ((((((σ.set j (.cells [int 0])).set d (.cells [int 0])).set j (.cells [int 0])).set d (.cells [int 0])).set r (.raw (.deferred (some [])))).set l (.loop K)):=(by repeat (first|exact aa.le_refl _|assumption|refine aa.fC ?_ (by assumption)|refine aa.lR ?_ (by assumption)))
 have sr:((((((σ.set j (.cells [int 0])).set d (.cells [int 0])).set j (.cells [int 0])).set d (.cells [int 0])).set r (.raw (.deferred (some [])))).set l (.loop K)) r=some (.raw (.deferred (some []))):=(aa.ai _ _ H).trans (aa.an _ _ _);have s7:((((((σ.set j (.cells [int 0])).set d (.cells [int 0])).set j (.cells [int 0])).set d (.cells [int 0])).set r (.raw (.deferred (some [])))).set l (.loop K)) d=some (.cells [int 0]):=(aa.ai _ _ (za a.2.2)).trans ((aa.ai _ _ (za I.2.2)).trans (aa.an _ _ _))
 have s6:((((((σ.set j (.cells [int 0])).set d (.cells [int 0])).set j (.cells [int 0])).set d (.cells [int 0])).set r (.raw (.deferred (some [])))).set l (.loop K)) j=some (.cells [int 0]):=(aa.ai _ _ (za a.2.1)).trans ((aa.ai _ _ (za I.2.1)).trans ((aa.ai _ _ (za R)).trans (aa.an _ _ _)));refine dp Tryz.func184 rfl rfl rfl (yD (F:=λc=>c=l\/c=j\/c=d) Q hf (by simp) hY ⟨rfl,rfl⟩ (Q.un (λc _ ⟨x,s,_⟩=>(N _ _ s).trans s.symm) hu) ⟨λc=>aaR,aa.an _ _ _,by simp_all,by omega⟩ λF' σ' O a7 v=>?_)
 have P:=(O r _ sr (λe=>by omega) (nb r t) (.inr rfl)).1
 have B:pI b mb σ σ':=λc x s E C=>(O c x (N c x s) (λe=>by grind) E C).1
 have a8:∀n,n=(σ'.del l).set r (.raw (.deferred none))->Un n/\pI b mb σ n:=λn e=>by
  subst e;refine⟨Q.un (σ:=σ') (λc _ ⟨x,s,E⟩=>?_) a7,λc x s E C=>?_⟩
  . have c1:c≠r:=λe=>by subst e;rw[P]at s;cases s;cases E
    have c2:c≠l:=λe=>by
     subst e
     rcases v with⟨_,g,_⟩|g
     . rw[g]at s;cases s;cases E
     omega
    rw[aa.ai _ _ c1];simp[aa.del,c2]
  . have c1:c≠r:=λe=>by simp_all
    have c2:c≠l:=λe=>by simp_all
    rw[aa.ai _ _ c1];simp only[aa.del,c2,Rp];exact B c x s E C
 rcases v with⟨_,A,T,M⟩|q
 . rw[aaJ]at T
   subst J;refine⟨_,A,by simp,rfl,?_⟩
   have a9:(σ'.del l) j=some (.cells [int ((aI f []).filter p).length]):=by simp only[aa.del,za a.2.1,Rp];exact T
   have ab:(σ'.del l) d=some (.cells [int (aI f []).length]):=by simp only[aa.del,za a.2.2,Rp];exact M
   apply rn;simp[a9,ab];apply rn;simp;refine⟨by simp only[aa.del,H,Rp];exact P,.done ?_⟩
   simp_all
 simp_all
end
theorem AP(f:Fr)(begun:adG):∀(fuel:Nat) (way:adG) (many:Int) (c:adG),∀w∈fY f begun fuel way many c,w.length=way.length+fuel
 |0,way,many,c,w,b=>by simp[fY]at b;grind
 | fuel+1,way,many,c,w,b=>by
   rw[sB,abC]at b;obtain⟨k,_,a⟩:=b;unfold pK at a;split at a
   . cases a
   split at a
   . have:=AP f begun fuel _ _ _ w a
     grind
   . cases a
section
variable{b mb:Nat}{f:Fr}{Un:adJ}{Ld:aa->acY->Prop}
def gM(x y:Int)(w:adG):Bool:=decide (w.getD x.toNat 0=w.getD y.toNat 0)
theorem NS{w:adG}{x y:Int}(a:0<=x/\x.toNat<w.length)(b:0<=y/\y.toNat<w.length)(h:KF (.val (bool (gM x y w))) σ):aA prog m 204 [ints w,.cp (int x) 0,.cp (int y) 0] σ KF:=by
 have c:w.getD x.toNat 0=w[x.toNat]:=by simp_all
 have d:w.getD y.toNat 0=w[y.toNat]:=by simp_all
 unfold gM at h;rw[c,d]at h;refine fs VI Tryz.func204 rfl (by kernel_rfl) ?_;simp[Tryz.f204,a.1,a.2,b.1,b.2];apply rn;simp;refine .done ?_;omega
theorem Qj(c:Ms prog m nn b 6 mb .u8 (kX f) Un Ld)(d:f.Good){x y:Int}(e:0<=x/\x.toNat<f.aD.length)(g:0<=y/\y.toNat<f.aD.length)(hlen:(aI f []).length<1152921504606846976)(i:Un σ)
 (h:∀σ',Un σ'->pI b mb σ σ'->KF (.val (int (iu (((aI f []).filter (gM x y)).length:Int) (aI f []).length))) σ'):aA prog m 181 [kW b mb f 0,int x,int y] σ KF:=by
 have a:∀w∈aI f [],w.length=f.aD.length:=λw a=>by have:=AP f [] _ _ _ _ w a;simp_all
 refine fs [] Tryz.func181 rfl (by kernel_rfl) ?_
 simp[Tryz.f181];refine cf Tryz.func203 rfl (GC c d (p:=gM x y) ⟨rfl,rfl⟩ (λw j σ KF k=>dp Tryz.func204 rfl rfl rfl (NS ⟨e.1,by simp_all⟩ ⟨g.1,by simp_all⟩ k)) hlen i λσ' l n=>?_)
 apply rn;simp;refine cf Tryz.func202 rfl (Gl ?_);apply rn;simp;exact .done (h σ' l n)
end
theorem Ka(r:m.solo=true){f:Fr}{l:adG}{sp:cU}(o:f.Fits)(p:check f=0)(s:∀n∈l,0<=n/\n<f.aD.length)(j:l.length<1152921504606846976)(g:aI f []≠[])(h:∀b mb σ',b≠mb->TF b 6 mb .u8 (kX f) σ'->σ b=none/\σ mb=none->σ.Le σ'->KF (.val (.ck [kW b mb f 0,int 0])) σ'):aA prog m 180 [cz f,.sl 1 (l.map int) sp] σ KF:=by
 have t:=Fr.n8 o p;have u:=Gk p s;refine fs [] Tryz.func180 rfl (by kernel_rfl) ?_
 simp[Tryz.f180];have v:Wl [AV.agg (Ee f),.sl 1 (l.map int) sp] [cz f,ints l]:=.cons (.refl _) (.cons (gy 1 _ sp) .nil);refine bP Tryz.func113 rfl rfl v (Cf o j (λq=>absurd u q) λ_ b mb σ' d=>?_)
 have w:TF b 6 mb .u8 (kX f) σ':=by rw[d.eq];exact⟨aa.an _ _ _,[],(aa.ai _ _ (za d.ne)).trans (aa.an _ _ _),λn a h=>by simp[du]at h⟩
 apply rn;simp;refine cf Tryz.func201 rfl (Qi (D9 AN AO Su r d.ne) t w λk y z=>?_)
 apply rn;simp[g];refine .done (h b mb k d.ne y ⟨d.hb,d.CJ⟩ λc x i=>?_)
 have A:c≠b:=λe=>by subst e;rw[d.hb]at i;cases i
 have B:c≠mb:=λe=>by subst e;rw[d.CJ]at i;cases i
 exact z c x (d.le c x i) A (.inl B)
theorem Qk(j:m.solo=true){f:Fr}{x y:Int}(k:f.Fits)(o:check f=0)(d:0<=x/\x<f.aD.length)(p:0<=y/\y<f.aD.length)(a:aI f []≠[])(hlen:(aI f []).length<1152921504606846976)(h:KF (.val (.ck [int (iu (((aI f []).filter (gM x y)).length:Int) (aI f []).length),int 0])) σ):aA prog m 148 [cz f,int x,int y] σ KF:=by
 have q:=Fr.n8 k o;refine fs [] Tryz.func148 rfl (by kernel_rfl) ?_;simp[Tryz.f148];refine cf Tryz.func180 rfl (Ka (l:=[x,y]) (sp:=.exact) j k o (λn A=>by grind) (by simp) a λb mb r g s t i=>?_);apply rn;simp;refine cf Tryz.func181 rfl (Qj (D9 AN AO Su j g) q ⟨d.1,by omega⟩ ⟨p.1,by omega⟩ hlen s λu B v=>?_);apply rn;simp;refine .less (λc x d=>?_) (.done h);have w:c≠b:=λe=>by simp_all
 have z:c≠mb:=λe=>by simp_all
 exact v c x (i c x d) w (.inl z)
theorem NT(l:m.solo=true){f:Fr}(j:f.Fits)(k:check f=0)(hlen:(aI f [0,0]).length<1000000000/\(aI f [0,1]).length<1000000000)(h:KF (.val (.ck [int (iv f),int 0])) σ):aA prog m 74 [cz f] σ KF:=by
 have o:=Fr.n8 j k;have p:=vU k;refine fs [] Tryz.func74 rfl (by kernel_rfl) ?_
 simp[Tryz.f74];have r:Wl [AV.agg (Ee f),AV.lit (.slice none 0 0)] [cz f,ints []]:=.cons (.refl _) (.cons (fa 1) .nil);refine bP Tryz.func113 rfl rfl r (Cf j (by simp) (λq=>absurd p q) λ_ b mb i d=>?_)
 have s:TF b 6 mb .u8 (kX f) i:=by rw[d.eq];exact⟨aa.an _ _ _,[],(aa.ai _ _ (za d.ne)).trans (aa.an _ _ _),λn a h=>by simp[du]at h⟩
 apply rn;simp;refine cf Tryz.func114 rfl (NR l o hlen d.ne s λt y u=>?_)
 apply rn;simp;refine .less (λc x g=>?_) (.done h)
 have v:c≠b:=λe=>by subst e;rw[d.hb]at g;cases g
 have w:c≠mb:=λe=>by subst e;rw[d.CJ]at g;cases g
 exact u c x (d.le c x g) v (.inl w)
theorem Sv{f:Fr}{l:adG}(j:f.Fits)(k:check f=0)(c:Sm f l)(g:l.length<20)(h:KF (.val (.ck [bool (decide (jJ f l=0)),int 0])) σ):aA prog m 108 [cz f,ints l] σ KF:=by
 refine fs [] Tryz.func108 rfl (by kernel_rfl) ?_;simp[Tryz.f108];refine cf Tryz.func143 rfl (Jk j k c λb mb n o=>?_);apply rn;simp;refine cf Tryz.func144 rfl (MH (Fr.n8 j k) ⟨c.mem,c.ne,c.len⟩ g ?_);apply rn;simp;refine dU lay rfl Rf rfl (isNil:=decide (jJ f l=0)) ?_ (.inl ⟨rfl,rfl⟩) ?_
 . by_cases i:jJ f l=0
   . left
     refine⟨?_,by simp[i]⟩;simp[i];rfl
   . right
     obtain⟨d,a,e⟩:=En i
     simp_all
 apply rn;simp;exact .less o.le (.done h)
def bu(w:adG):Int:=w.foldl (λn k=>max n (k+1)) 0
theorem NU{l b:adL}(m:l.length=b.length)(f:∀(i:Nat) a a',l[i]?=some a->b[i]?=some a'->a.W a'):(AV.ck l).W (.ck b):=λk x g=>by
 cases g with
 | ck c _ n h=>
   refine .ck c b (by omega) λi v a' j d=>?_
   have e:i<l.length:=by grind
   exact f i l[i] a' (by simp[e]) d k v (h i v _ j (by simp[e]))
theorem H2:∀{es:adL},(∀a∈es,a.cells=[a])->flatten es=es
 |[],_=>rfl
 |a::es,h=>by rw[flatten_cons,h a (acy ..),H2 λx b=>h x (abD _ b)];rfl
theorem VU{es d:adL}{sp:cU}(n:es.length=d.length)(o:∀a∈es,a.cells=[a])(f:∀a∈d,a.cells=[a])(p:∀(i:Nat) a a',es[i]?=some a->d[i]?=some a'->a.W a'):(AV.sl 1 es sp).W (.sl 1 d .any):=λk x q=>by
 cases q with
 | sl b off cap v N E _ _ c h r s w t l y=>
   rw[H2 o]at t l;rw[n]at h ⊢;refine .sl b off cap 1 N E d .any c h r s (λe z=>by simp_all) (λj g=>?_) (λj a m=>?_) trivial
   . rw[H2 f]at g
     simp_all
   . rw[H2 f]at m
     have g:j<es.length:=by grind
     exact p j es[j] a (by simp[g]) m k _ (l j _ (by simp[g]))
 | slnil u=>
   have:d=[]:=by grind
   subst this;exact .slnil u 1 .any (.inl rfl)
theorem qy{l b:adL}(m:l.length=b.length)(f:∀(i:Nat) a a',l[i]?=some a->b[i]?=some a'->a.W a'):(AV.agg l).W (.agg b):=λk x g=>by
 cases g with
 | agg c _ n h=>
   refine .agg c b (by omega) λi v a' j d=>?_
   have e:i<l.length:=by grind
   exact f i l[i] a' (by simp[e]) d k v (h i v _ j (by simp[e]))
def bj(c:Nat)(nums:adG)(k:Nat)(σ:aa):Prop:=∃(n:Nat) (s:Int),n<=k/\σ c=some (.cells [ints nums,int n,.lit (.int .u64 s)])
theorem Kb{nums:adG}(h:∀c σ',σ c=none->bj c nums 0 σ'->(∀x,x≠c->σ' x=σ x)->KF (.val (.ref c 0)) σ'):aA prog m 10 [ints nums] σ KF:=by
 refine aA.start lay [5] [] 1 Tryz.func10 rfl rfl (by rfl) (by kernel_rfl) ?_;simp[Tryz.f10];refine bK.intro λc a=>?_
 simp;exact .done (h c _ a ⟨0,_,aaE _,aa.an _ _ _⟩ λx b=>aa.ai _ _ b)
theorem Ql(a b:Int):0<=IntKind.u64.wrap (((BitVec.ofInt 64 a ^^^ BitVec.ofInt 64 b).toNat:Nat):Int)/\IntKind.u64.wrap (((BitVec.ofInt 64 a ^^^ BitVec.ofInt 64 b).toNat:Nat):Int)<18446744073709551616:=by generalize (((BitVec.ofInt 64 a ^^^ BitVec.ofInt 64 b).toNat:Nat):Int)=x;simp only[IntKind.wrap,IntKind.signed,IntKind.bits];simp;omega
theorem NV{x:Int}(h:0<=x/\x<18446744073709551616):0<=x.fdiv (2 ^ min 11 IntKind.u64.bits)/\x.fdiv (2 ^ min 11 IntKind.u64.bits)<9007199254740992:=by
 have e:(2:Int) ^ min 11 IntKind.u64.bits=2048:=by decide
 grind
theorem Qm{c k:Nat}{nums:adG}(B:k<1000000)(C:nums.length<1152921504606846976)(hb:bj c nums k σ)(h:∀(x:Int) σ',0<=x/\x<9007199254740992->bj c nums (k+1) σ'->(∀y,y≠c->σ' y=σ y)->KF (.val (.lit (.int .u64 x))) σ'):aA prog m 53 [.ref c 0] σ KF:=by
 obtain⟨n,s,w,l⟩:=hb;have t:-9223372036854775808<=(n:Int)+1/\(n:Int)+1<=9223372036854775807:=by omega
 obtain⟨fm,d⟩:∃f:adk,∀a b,pL .mul .u64 a b=some (.int .u64 (f a b)):=⟨_,λ_ _=>rfl⟩;obtain⟨D,g,r⟩:∃f:adk,(∀a b,pL .xor .u64 a b=some (.int .u64 (f a b)))/\∀a b,0<=f a b/\f a b<18446744073709551616:=⟨_,λ_ _=>rfl,Ql⟩;refine aA.F8 lay [] Xu 27 1 Tryz.func53 rfl rfl (by rfl) (by kernel_rfl) ?_;simp[Tryz.f53,l,t.1,t.2,aK,d];refine af.gX (λe i=>e 0=.ref c 0/\(∃z,e 3=.lit (.int .u64 z))/\i c=some (.cells [ints nums,int ((n:Int)+1),.lit (.int .u64 s)])/\∀y,y≠c->i y=σ y) (by simp;intro y p;exact aa.ai _ _ p) ?_;clear l;rintro env i ⟨o,⟨z,q⟩,l,j⟩;refine af.runN lay [] 2 ?_;simp[o,l];refine af.runN lay [] 2 ?_;simp;refine aH.intro (λu=>?_) (λu=>?_)<;>simp[-Int.not_lt,-Int.not_le,-Nat.not_lt,-Nat.not_le]at u
 . have E:(n:Int)<nums.length:=by omega
   have A:n<nums.length:=by omega
   have v:-9223372036854775808<=(n:Int)/\(n:Int)<=9223372036854775807:=by omega
   simp[o,q,l,A,v.1,v.2,d,g];refine af.gX (λe i=>e 0=.ref c 0/\(∃z,e 3=.lit (.int .u64 z))/\i c=some (.cells [ints nums,int ((n:Int)+1),.lit (.int .u64 s)])/\∀y,y≠c->i y=σ y) (by simp_all) ?_;clear o q l j;rintro env i ⟨o,⟨z,q⟩,l,j⟩;apply rn;simp[o,q,l,d,g,aK];refine af.gX (λe i=>e 0=.ref c 0/\(∃s,i c=some (.cells [ints nums,int ((n:Int)+1),.lit (.int .u64 s)]))/\∀y,y≠c->i y=σ y) (by refine⟨by simp[o],⟨_,by simp;rfl⟩,λy p=>?_⟩;simp[aa.ai,p,j y p]) ?_;clear o q l j;rintro env i ⟨o,⟨z,l⟩,j⟩;apply rn;simp[o,l,d,g];refine .done (h _ i (NV (r _ _)) ⟨n+1,z,by omega,by simp_all⟩ j)
 . simp
   apply rn;simp[o,q,l,d,g,aK];refine af.gX (λe i=>e 0=.ref c 0/\(∃s,i c=some (.cells [ints nums,int ((n:Int)+1),.lit (.int .u64 s)]))/\∀y,y≠c->i y=σ y) (by refine⟨by simp[o],⟨_,by simp;rfl⟩,λy p=>?_⟩;simp[aa.ai,p,j y p]) ?_;clear o q l j;rintro env i ⟨o,⟨z,l⟩,j⟩;apply rn;simp[o,l,d,g];refine .done (h _ i (NV (r _ _)) ⟨n+1,z,by omega,by simp_all⟩ j)
def pP(c:Nat)(nums:adG)(k:Nat)(σ σ':aa):Prop:=bj c nums k σ'/\∀y,y≠c->σ' y=σ y
theorem pP.trans{c:Nat}{nums:adG}{k k':Nat}{σ σ' a:aa}(h:pP c nums k σ σ')(h':pP c nums k' σ' a):pP c nums k' σ a:=⟨h'.1,λy b=>(h'.2 y b).trans (h.2 y b)⟩
theorem bj.mono{c:Nat}{nums:adG}{k k':Nat}(h:bj c nums k σ)(b:k<=k'):bj c nums k' σ:=by obtain⟨n,s,d,a⟩:=h;exact⟨n,s,by omega,a⟩
theorem NW{n:Int}(h:0<=n/\n<18446744073709551616):IntKind.u64.wrap n=n:=by simp only[IntKind.wrap,IntKind.signed,IntKind.bits];simp;omega
theorem Sw{n:Int}(h:-9223372036854775808<=n/\n<=9223372036854775807):IntKind.i64.wrap n=n:=by simp[IntKind.wrap,IntKind.signed,IntKind.bits];omega
section
variable{c k:Nat}{nums:adG}
theorem fA{n:Int}(f:k<1000000)(g:nums.length<1152921504606846976)(i:-4611686018427387904<=n/\n<4611686018427387904)(hb:bj c nums k σ)(h:∀(x:Int) σ',0<=x/\(x<=n\/x=0)->pP c nums (k+1) σ σ'->KF (.val (int x)) σ'):aA prog m 18 [.ref c 0,int n] σ KF:=by
 refine fs [] Tryz.func18 rfl (by kernel_rfl) ?_;simp[Tryz.f18];refine cf Tryz.func53 rfl (Qm f g hb λx σ' j a b=>?_);apply rn;simp;refine aH.intro (λd=>?_) (λd=>?_)<;>simp[-Int.not_lt,-Int.not_le]at d
 . simp
   exact .done (h 0 σ' ⟨by omega,.inr rfl⟩ ⟨a,b⟩)
 . have l:IntKind.u64.wrap n=n:=NW (by omega)
   have o:pL .add .u64 n 1=some (.int .u64 (n+1)):=by show some (Value.int .u64 (IntKind.u64.wrap (n+1)))=_;rw[NW (by omega)]
   obtain⟨r,e,p⟩:∃r:Int,(0<=r/\r<=n)/\pL .rem .u64 x (n+1)=some (.int .u64 r):=by
    refine⟨x.tmod (n+1),⟨Int.tmod_nonneg _ j.1,?_⟩,by simp[pL];omega⟩;have:=Int.tmod_lt_of_pos x (show 0<n+1 by omega);omega
   have q:IntKind.i64.wrap r=r:=Sw (by omega);simp[l,o,p,q];exact .done (h r σ' ⟨e.1,.inl e.2⟩ ⟨a,b⟩)
theorem eQ{lo hi:Int}(d:k<1000000)(e:nums.length<1152921504606846976)(f:-1000000000<=lo/\lo<=1000000000)(g:-1000000000<=hi/\hi<=1000000000)(hb:bj c nums k σ)(h:∀(x:Int) σ',lo<=x/\(x<=hi\/x=lo)->pP c nums (k+1) σ σ'->KF (.val (int x)) σ'):aA prog m 19 [.ref c 0,int lo,int hi] σ KF:=by
 have a:-9223372036854775808<=hi-lo/\hi-lo<=9223372036854775807:=by omega
 refine fs [] Tryz.func19 rfl (by kernel_rfl) ?_;simp[Tryz.f19,a.1,a.2];refine cf Tryz.func18 rfl (fA d e ⟨by omega,by omega⟩ hb λx σ' i hd=>?_);have b:-9223372036854775808<=lo+x/\lo+x<=9223372036854775807:=by omega
 apply rn;simp[b.1,b.2];exact .done (h _ σ' ⟨by omega,by omega⟩ hd)
theorem m7{l:adG}{sp:cU}(d:k<1000000)(f:nums.length<1152921504606846976)(i:0<l.length/\l.length<1000000)(hb:bj c nums k σ)(h:∀(x:Int) σ',x∈l->pP c nums (k+1) σ σ'->KF (.val (int x)) σ'):aA prog m 54 [.ref c 0,.sl 1 (l.map int) sp] σ KF:=by
 have a:-9223372036854775808<=(l.length:Int)-1/\(l.length:Int)-1<=9223372036854775807:=by omega
 refine fs [] Tryz.func54 rfl (by kernel_rfl) ?_;simp[Tryz.f54,a.1,a.2];refine cf Tryz.func18 rfl (fA d f ⟨by omega,by omega⟩ hb λx σ' g hd=>?_);have b:x.toNat<l.length:=by omega
 have j:x<l.length:=by omega
 have e:(x.toNat:Int)=x:=by omega
 apply rn;simp[g.1,b];exact .done (h _ σ' (zG b) hd)
theorem wW{n:Int}(b:k<1000000)(d:nums.length<1152921504606846976)(e:0<=n/\n<1000000000)(hb:bj c nums k σ)(h:∀(x:Bool) σ',pP c nums (k+1) σ σ'->KF (.val (bool x)) σ'):aA prog m 20 [.ref c 0,int n] σ KF:=by
 have a:-9223372036854775808<=n-1/\n-1<=9223372036854775807:=by omega
 refine fs [] Tryz.func20 rfl (by kernel_rfl) ?_;simp[Tryz.f20,a.1,a.2];refine cf Tryz.func18 rfl (fA b d ⟨by omega,by omega⟩ hb λx σ' f hd=>?_);apply rn;simp;exact .done (h _ σ' hd)
end
structure yF(dW:Int)(e:m5):Prop where
 hour:0<=e.hour/\e.hour<=40
 place:0<=e.place/\e.place<dW
 cX:0<=e.cX/\e.cX<=1
 marks:e.marks.Sublist [0,1,2]
 br:14<=e.br/\e.br<=16
 jQ:0<=e.jQ/\e.jQ<=2
theorem lJ{l:adG}(h:l.Sublist [0,1,2]):tQ none l=0/\l.length<=3:=by cases h<;>(rename_i h;cases h<;>(rename_i h;cases h<;>(rename_i h;cases h;decide)))
theorem yF.check{dW:Int}{e:m5}(h:yF dW e):cL dW e=0:=by
 obtain⟨b,c,d,a,f,g⟩:=h;have a:=(lJ a).1;unfold cL bt
 grind
theorem rl{σ0 σ σ2:aa}{a:AV}{kk:Nat}{es:adL}{c:Nat}(h:Tok σ0 σ a kk es)(g:σ0 c=none)(i:∃l,σ c=some (.cells l))(d:∀y,y≠c->σ2 y=σ y):Tok σ0 σ2 a kk es:=by
 refine⟨λy x f=>?_,?_⟩
 . have:y≠c:=λe=>by simp_all
   rw[d y this];exact h.1 y x f
 rcases h.2 with q|q|⟨b,e,j,k,m⟩
 . exact .inl q
 . simp_all
 grind
section
variable{c k:Nat}{nums:adG}
theorem Er{dW:Int}(hk:k+11<1000000)(t:nums.length<1152921504606846976)(b3:0<=dW/\dW<=1000)(hb:bj c nums k σ)(h:∀(e:m5) σ',yF (max dW 1) e->pP c nums (k+11) σ σ'->KF (.val (bs e)) σ'):aA prog m 84 [.ref c 0,int dW] σ KF:=by
 have r1:-9223372036854775808<=dW-1/\dW-1<=9223372036854775807:=by omega
 obtain⟨n0,s0,_,a7⟩:=id hb;refine fs [] Tryz.func84 rfl (by kernel_rfl) ?_
 simp[Tryz.f84];refine bK.intro λc4 h4=>?_
 have n4:c≠c4:=λe=>by simp_all
 have u:∀x,bj c nums k (σ.set c4 x):=λx=>⟨n0,s0,by assumption,by rw[aa.ai _ _ n4];exact a7⟩
 simp;refine cf Tryz.func18 rfl (fA (by omega) t ⟨by omega,by omega⟩ (u _) λd b4 b5 H=>?_)
 apply rn;simp;refine cf Tryz.func18 rfl (fA (by omega) t ⟨by omega,by omega⟩ H.1 λg f b6 I=>?_)
 apply rn;simp;refine cf Tryz.func18 rfl (fA (by omega) t ⟨by omega,by omega⟩ I.1 λx3 w b7 J=>?_)
 apply rn;simp;refine cf Tryz.func54 rfl (m7 (l:=[d,g,x3]) (by omega) t (by simp) J.1 λE b8 a8 K=>?_)
 apply rn;simp[r1.1,r1.2];refine cf Tryz.func18 rfl (fA (by omega) t ⟨by omega,by omega⟩ K.1 λpl b9 bm L=>?_)
 apply rn;simp;refine cf Tryz.func54 rfl (m7 (l:=[0,0,0,1]) (by omega) t (by simp) L.1 λco bw a9 M=>?_)
 apply rn;simp;refine cf Tryz.func54 rfl (m7 (l:=[14,14,15,15,16]) (by omega) t (by simp) M.1 λF bA ab N=>?_)
 apply rn;simp;refine cf Tryz.func54 rfl (m7 (l:=[0,0,1,2]) (by omega) t (by simp) N.1 λsh O ad P=>?_)
 apply rn;simp;refine bK.intro λv h5=>?_
 simp;have o:pP c nums (k+8) (σ.set c4 (.cells [int 0,int 0,int 0,.lit (.slice none 0 0),int 0,int 0])) O:=H.trans (I.trans (J.trans (K.trans (L.trans (M.trans (N.trans P))))));have Q:c4≠c:=za n4;have al:O c4=some (.cells [int 0,int 0,int 0,.lit (.slice none 0 0),int 0,int 0]):=by rw[o.2 c4 Q,aa.an]
 have R:v≠c:=λe=>by subst e;obtain⟨_,_,_,q⟩:=P.1;simp_all
 have A:v≠c4:=λe=>by simp_all
 have av:σ v=none:=by rw[o.2 v R,aa.ai _ _ A]at h5;exact h5
 have ax:0<=E/\E<=40:=by simp at a8;omega
 have ay:0<=co/\co<=1:=by simp at a9;omega
 have aC:14<=F/\F<=16:=by simp at ab;omega
 have aE:0<=sh/\sh<=2:=by simp at ad;omega
 have aL:0<=pl/\pl<max dW 1:=by omega
 refine af.loop 3 (λj s=>∃env σ' a mk,s=⟨env,σ',[],.no⟩/\env 0=.ref c 0/\env 4=.ref c4 0/\env 5=.ref v 0/\env 6=int j/\bj c nums (k+8+j) σ'/\σ' c4=some (.cells [int 0,int 0,int 0,.lit (.slice none 0 0),int 0,int 0])/\σ' v=some (.cells [int E,int pl,int co,a,int F,int sh])/\Tok (σ.del c) σ' a 1 (mk.map int)/\mk.Sublist ((List.range j).map λi:Nat=>(i:Int))) ⟨_,_,.lit (.slice none 0 0),[],rfl,by simp,by simp,by simp,by simp,?_,?_,?_,?_,by simp⟩ ?_
 . obtain⟨n,z,h1,h2⟩:=o.1
   exact⟨n,z,by omega,by rw[aa.ai _ _ (za R)];exact h2⟩
 . rw[aa.ai _ _ (za A)];exact al
 . simp
 . refine⟨λy x r=>?_,.inl ⟨rfl,rfl⟩⟩
   have G:y≠c:=λe=>by subst e;simp[aa.del]at r
   have y0:σ y=some x:=by simpa[aa.del,G]using r
   have y5:y≠v:=λe=>by simp_all
   have y4:y≠c4:=λe=>by simp_all
   rw[aa.ai _ _ y5,o.2 y G,aa.ai _ _ y4];exact y0
 rintro c0 j _ hj ⟨env,σ',a,mk,rfl,e0,e4,S,T,B,q4,q5,p,aO⟩ ih
 have bB:mk.length<=j:=by grind
 rcases abe j 3 with g1|g1
 . have b0:(j:Int)<3:=by omega
   apply rn;simp[e0,T,b0];refine cf Tryz.func20 rfl (wW (by omega) t ⟨by omega,by omega⟩ B λx f hd=>?_)
   have b1:∃l,σ' c=some (.cells l):=by obtain⟨_,_,_,q⟩:=B;grind
   have b:Tok (σ.del c) f a 1 (mk.map int):=rl p (by simp[aa.del]) b1 hd.2
   have U:=b.cells;have s4:f c4=some (.cells [int 0,int 0,int 0,.lit (.slice none 0 0),int 0,int 0]):=by rw[hd.2 c4 Q];exact q4
   have s5:f v=some (.cells [int E,int pl,int co,a,int F,int sh]):=by rw[hd.2 v R];exact q5
   have c6:(List.range (j+1)).map (λi:Nat=>(i:Int))=(List.range j).map (λi:Nat=>(i:Int))++[(j:Int)]:=by rw[aaO,aaN];rfl
   have f1:-9223372036854775808<=(j:Int)+1/\(j:Int)+1<=9223372036854775807:=by omega
   apply rn;simp;cases x with
   | false=>
     simp[T,f1.1,f1.2];refine ih _ g1 ⟨_,_,a,mk,rfl,by simp[e0],by simp[e4],by simp[S],by simp,hd.1,s4,s5,b,?_⟩
     rw[c6];exact aO.trans (List.sublist_append_left _ _)
   | true=>
     simp[S,T,s5];refine aN lay rfl rfl rfl dD rfl dD rfl rD (by decide) (by simp;omega) (σ0:=f.off a) (es:=mk.map int) (xs:=[int j]) (by simpa using b.here.1) (.inr ⟨_,rfl⟩) λa' w C=>?_
     have V:=C.cells;have b2:∀y l,f y=some (.cells l)->bp a≠some y:=λy l r e=>by obtain⟨_,_,q⟩:=b.aY e;grind
     have k3:∀y l,f y=some (.cells l)->w y=some (.cells l):=λy l r=>C.1 _ _ (by rw[aa.dQ (b2 y l r)];exact r)
     have t5:=k3 _ _ s5;have t4:=k3 _ _ s4;apply rn;simp[S,T,f1.1,f1.2,t5,V.1,V.2,aK];obtain⟨Z,zb,u,D⟩:=hd.1;have tc:=k3 _ _ D
     have X:Tok (σ.del c) w a' 1 ((mk++[(j:Int)]).map int):=by
      have:=C.base b.here.2
      simpa using this
     refine ih _ g1 ⟨_,_,a',mk++[(j:Int)],rfl,by simp[e0],by simp[e4],by simp[S],by simp,⟨Z,zb,u,by rw[aa.ai _ _ (za R)];exact tc⟩,by rw[aa.ai _ _ (za A)];exact t4,aa.an _ _ _,X.beside (by simp[aa.del,R,av]) (λe=>by obtain⟨_,_,q⟩:=X.aY e;grind),?_⟩
     rw[c6];exact aO.append (List.Sublist.refl _)
 . have:j=3:=by omega
   subst this;have U:=p.cells;apply rn;simp[e4,S,T,q4,q5,U.2,aK];obtain⟨Z,zb,u,D⟩:=B;have Y:mk.Sublist [0,1,2]:=aO;refine .pM (a':=bs ⟨E,pl,co,mk,F,sh⟩) (qy rfl λi x y d g=>?_) (.less (σ':=σ.set c (.cells [ints nums,int Z,.lit (.int .u64 zb)])) (λy x r=>?_) (.done (h ⟨E,pl,co,mk,F,sh⟩ _ ⟨ax,aL,ay,Y,aC,aE⟩ ⟨⟨Z,zb,by omega,aa.an _ _ _⟩,λy r=>aa.ai _ _ r⟩)))
   . match i with
     |0=>simp at d g;subst d;subst g;exact .refl _
     |1=>simp at d g;subst d;subst g;exact .refl _
     |2=>simp at d g;subst d;subst g;exact .refl _
     |3=>simp at d g;subst d;subst g;exact p.W
     |4=>simp at d g;subst d;subst g;exact .refl _
     |5=>simp at d g;subst d;subst g;exact .refl _
     |i+6=>simp at d
   . by_cases G:y=c
     . subst G
       rw[aa.an]at r;rw[aa.ai _ _ n4,D];exact r
     . rw[aa.ai _ _ G]at r
       have y4:y≠c4:=λe=>by grind
       rw[aa.ai _ _ y4];exact p.1 y x (by simpa[aa.del,G]using r)
theorem pj{dW:Int}(b:k+11<1000000)(d:nums.length<1152921504606846976)(a:1<=dW/\dW<=1000)(hb:bj c nums k σ)(h:∀(e:m5) σ',yF dW e->pP c nums (k+11) σ σ'->KF (.val (bs e)) σ'):aA prog m 84 [.ref c 0,int dW] σ KF:=Er b d ⟨by omega,a.2⟩ hb λe σ' f hd=>h e σ' (by grind) hd
end
structure wX(n:Nat)(lo:Int)(r:acW):Prop where
 len:r.length=n
 row:∀l∈r,l.length=n
 diag:∀i,i<n->rd r i i=0
 sym:∀i j,i<n->j<n->rd r i j=rd r j i
 off:∀i j,i<n->j<n->i≠j->lo<=rd r i j/\rd r i j<=2*lo
structure ve(cnt:Int)(f:Fr):Prop where
 cP:1<=f.cP/\f.cP<=4
 aR:f.aR=1\/f.aR=2\/f.aR=3\/f.aR=6
 dW:1<=f.roads.length/\f.roads.length<=3
 KJ:∃lo:Int,(0<=lo/\lo<=4)/\wX f.roads.length lo f.roads
 fr:0<=f.aU/\f.aU<=2
 to:f.aU<=f.eZ/\f.eZ<=2
 len:(f.aD.length:Int)<=cnt
 sJ:∀e∈f.aD,yF f.roads.length e
theorem wX.err{n:Nat}{lo:Int}{r:acW}(h:wX n lo r)(v:1<=n/\n<=3)(s:0<=lo/\lo<=4):fX r=0:=by
 have t:=h.len
 have hb:∀i j,i<n->j<n->0<=rd r i j/\rd r i j<=9:=λi j a b=>by
  by_cases e:i=j
  . subst e;rw[h.diag i a];omega
  . have:=h.off i j a b e;omega
 have f:∀l∈r,mn n l=0:=λl g=>by
  have w:=h.row l g
  have y:l.all (bt · 0 9)=true:=by
   rw[aaD];intro x m;obtain⟨i,a,rfl⟩:=aaV.1 g;obtain⟨j,b,rfl⟩:=aaV.1 m;have:=hb i j (by omega) (by omega);have e:rd r i j=r[i][j]:=by simp[rd,zA,a,b]
   rw[e]at this;simp[bt,this.1,this.2]
  unfold mn
  simp_all
 have d:∀l:acW,(∀x∈l,x∈r)->iq n l=0:=λl=>by
  induction l with
  |nil=>intro _;rfl
  | cons x l z=>
    intro m;unfold iq
    simp_all
 have u:((List.range n).any λi=>(List.range n).any λj=>dR r i j)=false:=by
  rw[abP];intro i a;rw[Bool.not_eq_true,abP];intro j b;have a:=aax.1 a;have b:=aax.1 b;unfold dR;rw[h.diag i a,h.sym i j a b,t]
  have A : ((List.range n).any λk=>decide (rd r j i>rd r i k+rd r k j))=false:=by
   rw[abP];intro k c;have c:=aax.1 c;have B:=hb i k a c;have C:=hb k j c b;simp only[KD,Int.not_lt,gt_iff_lt];by_cases o:i=j
   . subst o;rw[h.diag i a];omega
   . by_cases p:i=k
     . subst p;rw[h.diag i a,h.sym i j a b];omega
     . by_cases q:k=j
       . subst q;rw[h.diag k c,h.sym i k a c];omega
       . have D:=h.off j i b a (za o)
         have E:=h.off i k a c p;have F:=h.off k j c b q;omega
  simp_all
 unfold fX
 grind
theorem NX{M:acW}{i k:Nat}{n:Int}(hi:i<M.length)(a:k<(M.getD i []).length)(x y:Nat):rd (M.set i ((M.getD i []).set k n)) x y=if x=i/\y=k then n else rd M x y:=by
 unfold rd
 grind
def zM(M:acW)(i k:Nat)(n:Int):acW:=(M.set i ((M.getD i []).set k n)).set k ((M.getD k []).set i n)
structure H3(n:Nat)(lo:Int)(i k:Nat)(M:acW):Prop where
 len:M.length=n
 row:∀j,j<n->(M.getD j []).length=n
 diag:∀x,x<n->rd M x x=0
 sym:∀x y,x<n->y<n->rd M x y=rd M y x
 off:∀x y,y<x->x<n->(x<i\/(x=i/\y<k))->lo<=rd M x y/\rd M x y<=2*lo
theorem AQ{M:acW}{i k:Nat}{v:Int}(hi:i<M.length)(b:k<M.length)(a:k≠i)(j:Nat):(zM M i k v).getD j []=if j=k then(M.getD k []).set i v else if j=i then(M.getD i []).set k v else M.getD j []:=by
 unfold zM
 grind
theorem Qn{n:Nat}{lo:Int}{i k a b:Nat}{M:acW}{v:Int}(h:H3 n lo a b M)(hi:i<n)(c:k<n)(d:k≠i)(x y:Nat):rd (zM M i k v) x y=if(x=i/\y=k)\/(x=k/\y=i)then v else rd M x y:=by
 have f:=h.len
 have e:rd (zM M i k v) x y=if x=k/\y=i then v else rd (M.set i ((M.getD i []).set k v)) x y:=by
  have q:M.getD k []=(M.set i ((M.getD i []).set k v)).getD k []:=by grind
  unfold zM;rw[q];exact NX (by grind) (by rw[<-q];rw[h.row k c];exact hi) x y
 rw[e,NX (by omega) (by rw[h.row i hi];exact c)];omega
theorem H3.next{n:Nat}{lo:Int}{i k:Nat}{M:acW}{v:Int}(h:H3 n lo i k M)(hi:i<n)(l:k<i)(m:lo<=v/\v<=2*lo):H3 n lo i (k+1) (zM M i k v):=by
 have e:=h.len;have a:=Qn (v:=v) h hi (show k<n by omega) (by omega);refine⟨by simp[zM,e],λj f=>?_,λx b=>?_,λx y b g=>?_,λx y d b hd=>?_⟩
 . rw[AQ (by omega) (by omega) (by omega)]
   split
   . rw[abW];exact h.row k (by omega)
   . split
     . rw[abW];exact h.row i hi
     . exact h.row j f
 . rw[a,aay (by omega)];exact h.diag x b
 . rw[a,a]
   by_cases c:(x=i/\y=k)\/(x=k/\y=i)
   . grind
   . rw[aay c,aay (λq=>c (q.elim (λq=>.inr ⟨q.2,q.1⟩) (λq=>.inl ⟨q.2,q.1⟩)))]
     exact h.sym x y b g
 . rw[a]
   by_cases c:(x=i/\y=k)\/(x=k/\y=i)
   . omega
   . rw[aay c]
     refine h.off x y d b ?_;omega
theorem H3.line{n:Nat}{lo:Int}{i:Nat}{M:acW}(h:H3 n lo i i M):H3 n lo (i+1) 0 M:=⟨h.len,h.row,h.diag,h.sym,λx y a b hd=>h.off x y a b (by omega)⟩
theorem H3.fin{n:Nat}{lo:Int}{M:acW}(h:H3 n lo n 0 M):wX n lo M:=by
 have e:=h.len;refine⟨h.len,λl c=>?_,h.diag,h.sym,λi j a b d=>?_⟩
 . obtain⟨i,a,rfl⟩:=aaV.1 c
   have:=h.row i (by omega)
   grind
 . rcases abe j i with q|q
   . exact h.off i j q a (.inl a)
   . rw[h.sym i j a b]
     exact h.off j i (by omega) b (.inl b)
theorem H3.start(n:Nat)(lo:Int):H3 n lo 0 0 (List.replicate n (List.replicate n 0)):=by
 have a:∀x y,rd (List.replicate n (List.replicate n 0)) x y=0:=λx y=>by
  unfold rd
  grind
 refine⟨by simp,λj b=>by simp_all,λx _=>a x x,λx y _ _=>by rw[a,a],λx y _ _ h=>by omega⟩
theorem pn{g:m5->Int}:∀{l:adR},(∀e∈l,g e=0)->fW g l=0
 |[],_=>rfl
 | a::l,h=>by
   unfold fW;rw[aaB (h a (by simp))];exact pn λe b=>h e (by simp[b])
theorem ve.check{aR:Int}{f:Fr}(h:ve aR f)(j:aR<=6):check f=0:=by
 obtain⟨lo,a,b⟩:=h.KJ;have c:=b.err h.dW a;have k:=h.fr;have l:=h.to;have m:=h.cP;have n:=h.aR;have o:=h.len
 have d:(bt f.aU 0 3 && bt f.eZ 0 3)=true:=by simp[bt];omega
 have g:(bt f.cP 1 6 && bt f.aR 1 6)=true:=by simp[bt];omega
 unfold Go.Proofs.YtkcceaplmgdnfaaGreatDoor.check;rw[c,aay (by simp),d,aay (by simp),aay (by omega),g,aay (by simp),aay (by omega)]
 exact pn λe i=>(h.sJ e i).check
theorem ve.fits{aR:Int}{f:Fr}(h:ve aR f)(g:aR<=1000):f.Fits:=by
 obtain⟨lo,a,b⟩:=h.KJ;have:=h.len;have i:=h.dW;refine⟨by omega,by omega,λl c=>?_,λe d=>?_⟩
 . have:=b.row l c;omega
 . have:=(lJ (h.sJ e d).marks).2;omega

import Derived.Test.YtkcceaplmgdnfaaGreatDoorC28
set_option linter.all false
set_option maxHeartbeats 1000000
set_option maxRecDepth 100000
namespace Go.Proofs.YtkcceaplmgdnfaaGreatDoor
open Go.Proofs.Tryz (prog)
section
open Go Go.bQ
abbrev nn:yV:=⟨93,94,131,132,166,168,119,120,133,118,165,167,190,191,193,194,196,265,210,21⟩
theorem LP:∀(a:Fl) b o kind,aP prog a [0,5] (LD prog nn b o kind) un=some (tZ prog nn b o kind):=by intro a b o kind;kernel_rfl
theorem LQ:∀(a:Fl) b o kind,aP prog a [0] (tZ prog nn b o kind) tt=some (PV prog nn b o kind):=by intro a b o kind;kernel_rfl
theorem LR:∀(a:Fl) b o kind,aP prog a [0,2,3,4,5,12] (tZ prog nn b o kind) ff=some (Vg prog nn b o kind):=by intro a b o kind;kernel_rfl
theorem LS:∀(a:Fl) b o kind,aP prog a [8] (PV prog nn b o kind) un=some (Sk prog nn b o kind):=by intro a b o kind;kernel_rfl
theorem LU:∀(a:Fl) b o kind,aP prog a [9] (Sk prog nn b o kind) (pt b o)=some (PW prog nn b o kind):=by intro a b o kind;kernel_rfl
theorem LV:∀(a:Fl) b o kind,aP prog a [] (PW prog nn b o kind) un=some (BK nn kind):=by intro a b o kind;kernel_rfl
theorem IA:∀(a:Fl) b o kind L K S aw sv it,pI prog a [0,2,3,4,5,6] (QU prog nn b o kind aw sv it) (.word L K S 0)=some (HD prog nn b o kind L K S aw sv it):=by intro a b o kind L K S aw sv it;kernel_rfl
theorem IB:∀(a:Fl) b o kind L K S aw sv it,pI prog a [0,2,3,4,5,6] (Gu prog nn b o kind aw sv it) (.word L K S 0)=some (HD prog nn b o kind L K S aw sv it):=by intro a b o kind L K S aw sv it;kernel_rfl
theorem IC:∀(a:Fl) b o kind L K S aw sv it,pI prog a [0,2,3,4,5,6] (QV prog nn b o kind aw sv it) (.word L K S 0)=some (HD prog nn b o kind L K S aw sv it):=by intro a b o kind L K S aw sv it;kernel_rfl
theorem LW:∀(a:Fl) b o kind K aw sv it,Tl prog a [0,2,3,4,5,6,17,18] (HD prog nn b o kind true K false aw sv it)=SQ prog nn b o kind K aw sv it:=by intro a b o kind K aw sv it;cases K<;>cases aw<;>cases sv<;>kernel_rfl
theorem LX:∀(a:Fl) b o kind L K S aw sv it,(L && !S)=false->(aw && !K)=false->Tl prog a [0,2,3,4,5,6,77,78,79] (HD prog nn b o kind L K S aw sv it)=CJ prog nn b o kind L K S aw sv it:=by intro a b o kind L K S aw sv it c d;cases L<;>cases K<;>cases S<;>cases aw<;>cases sv<;>first|exact absurd c (by decide)|exact absurd d (by decide)|kernel_rfl
theorem ID:∀(a:Fl) b o kind it,aP prog {a with n0:=false} [0,2,3,4,5,33,36,37,39] (SQ prog nn b o kind false false false it) tt=some (SW prog nn b o kind it):=by intro a b o kind it;kernel_rfl
theorem FF:∀(a:Fl) b o kind n0 K aw sv it,(!aw && !K && !n0)=false->aP prog {a with n0:=n0} [0,2,3,4,5] (SQ prog nn b o kind K aw sv it) tt=some (DS prog nn b o kind aw sv it):=by intro a b o kind n0 K aw sv it h;cases n0<;>cases K<;>cases aw<;>cases sv<;>first|exact absurd h (by decide)|kernel_rfl
theorem IE:∀(a:Fl) b o kind K aw sv it,(aw && !K)=false->aP prog a [0,2,3,4,5,6,77,78,79] (SQ prog nn b o kind K aw sv it) ff=some (CJ prog nn b o kind true K false aw sv it):=by intro a b o kind K aw sv it h;cases K<;>cases aw<;>cases sv<;>first|exact absurd h (by decide)|kernel_rfl
theorem IF:∀(a:Fl) b o kind r it,aP prog a [0,2,3,4,5] (SW prog nn b o kind it) (bl r)=some (DS prog nn b o kind r false it):=by intro a b o kind r it;cases r<;>kernel_rfl
theorem FG:∀(a:Fl) b o kind aw sv,aP prog a [0,2,3,4,5,47] (DS prog nn b o kind aw sv 0) un=some (Gu prog nn b o kind aw sv 1):=by intro a b o kind aw sv;kernel_rfl
theorem FH:∀(a:Fl) b o kind aw sv,aP prog a [0,2,3,4,5,47] (DS prog nn b o kind aw sv 1) un=some (Gu prog nn b o kind aw sv 2):=by intro a b o kind aw sv;kernel_rfl
theorem FI:∀(a:Fl) b o kind aw sv,aP prog a [0,2,3,4,5,47] (DS prog nn b o kind aw sv 2) un=some (Gu prog nn b o kind aw sv 3):=by intro a b o kind aw sv;kernel_rfl
theorem FJ:∀(a:Fl) b o kind aw sv,aP prog a [0,2,3,4,5,47] (DS prog nn b o kind aw sv 3) un=some (Gu prog nn b o kind aw sv 4):=by intro a b o kind aw sv;kernel_rfl
theorem IG:∀(a:Fl) b o kind K aw sv it,aP prog a [0] (CJ prog nn b o kind false K false aw sv it) tt=some (N1 prog nn b o kind):=by intro a b o kind K aw sv it;cases K<;>kernel_rfl
theorem FK:∀(a:Fl) b o kind L K S aw sv it,(L||S)=true->aP prog {a with wz:=true} [0,3] (CJ prog nn b o kind L K S aw sv it) tt=some (T1 prog nn b o kind sv):=by intro a b o kind L K S aw sv it h;cases L<;>cases K<;>cases S<;>first|exact absurd h (by decide)|kernel_rfl
theorem FL:∀(a:Fl) b o kind L K S aw sv it,(L||S)=true->aP prog {a with wz:=false} [0,2,3,91] (CJ prog nn b o kind L K S aw sv it) tt=some (PK prog nn b o kind sv):=by intro a b o kind L K S aw sv it h;cases L<;>cases K<;>cases S<;>first|exact absurd h (by decide)|kernel_rfl
theorem IH:∀(a:Fl) b o kind L K S aw sv it,aP prog a [0,2,3,4,5,133] (CJ prog nn b o kind L K S aw sv it) ff=some (QV prog nn b o kind aw sv it):=by intro a b o kind L K S aw sv it;kernel_rfl
theorem II:∀(a:Fl) b o kind sv,aP prog a [0,2,3,91] (T1 prog nn b o kind sv) .HL=some (PK prog nn b o kind sv):=by intro a b o kind sv;kernel_rfl
theorem FM:∀(a:Fl) b o kind,aP prog a [0,2,3,103] (PK prog nn b o kind true) un=some (UP prog nn b o kind true):=by intro a b o kind;kernel_rfl
theorem FN:∀(a:Fl) b o kind,aP prog a [0,2,95] (PK prog nn b o kind false) un=some (TQ prog nn b o kind):=by intro a b o kind;kernel_rfl
theorem IJ:∀(a:Fl) b o kind x,aP prog {a with tb:=x} [0,2,3,103] (TQ prog nn b o kind) .now=some (UP prog nn b o kind x):=by intro a b o kind x;cases x<;>kernel_rfl
theorem IK:∀(a:Fl) b o kind sv n1,aP prog {a with n0:=false,n1:=n1} [0,128,129] (UP prog nn b o kind sv) (.word false false true 0)=some (AD prog nn b o kind (if !sv||n1 then -11 else -7)):=by intro a b o kind sv n1;cases sv<;>cases n1<;>kernel_rfl
theorem IL:∀(a:Fl) b o kind L K sv,pI prog a [0,2,3,4,5,6] (UP prog nn b o kind sv) (.word L K false 0)=some (HD prog nn b o kind L K false true sv 0):=by intro a b o kind L K sv;cases L<;>cases K<;>kernel_rfl
theorem IM:∀(a:Fl) b o kind d,aP prog a [0] (AD prog nn b o kind d) .cE=some (N1 prog nn b o kind):=by intro a b o kind d;kernel_rfl
theorem IN:∀(a:Fl) b o kind,aP prog a [136] (N1 prog nn b o kind) un=some (Sl prog nn b o kind):=by intro a b o kind;kernel_rfl
theorem IP:∀(a:Fl) b o kind,aP prog a [137] (Sl prog nn b o kind) (pt b o)=some (PY prog nn b o kind):=by intro a b o kind;kernel_rfl
theorem IQ:∀(a:Fl) b o kind,aP prog a [] (PY prog nn b o kind) un=some (BK nn kind):=by intro a b o kind;kernel_rfl
theorem LY:∀(a:Fl) b o kind,aP prog a [0,7] (U0 prog nn b o kind) .cE=some (Sm prog nn b o kind):=by intro a b o kind;kernel_rfl
theorem LZ:∀(a:Fl) b o kind,aP prog a [0,8] (Sm prog nn b o kind) (pt b o)=some (UR prog nn b o kind):=by intro a b o kind;kernel_rfl
theorem L0:∀(a:Fl) b o kind,aP prog a [0] (UR prog nn b o kind) un=some (UD prog nn b o kind):=by intro a b o kind;kernel_rfl
theorem L1:∀(a:Fl) b o kind,aP prog a [0,13] (UD prog nn b o kind) un=some (rK prog nn b o kind):=by intro a b o kind;kernel_rfl
theorem L2:∀(a:Fl) b o kind n0 K,(n0||K)=true->aP prog {a with n0:=n0} [] (rK prog nn b o kind) (.word false K false 0)=some (UE prog nn b o kind):=by intro a b o kind n0 K h;cases n0<;>cases K<;>first|exact absurd h (by decide)|kernel_rfl
theorem IS:∀(a:Fl) b o kind n0 K,aP prog {a with n0:=n0} [41] (rK prog nn b o kind) (.word false K true 0)=some (G9 prog nn b o kind):=by intro a b o kind n0 K;cases n0<;>cases K<;>kernel_rfl
theorem IT:∀(a:Fl) b o kind,aP prog {a with n0:=false} [0,27,28,29] (rK prog nn b o kind) (.word false false false 0)=some (UC prog nn b o kind):=by intro a b o kind;kernel_rfl
theorem IU:∀(a:Fl) b o kind,aP prog a [33] (UC prog nn b o kind) tt=some (G7 prog nn b o kind):=by intro a b o kind;kernel_rfl
theorem IV:∀(a:Fl) b o kind,aP prog a [0,37] (UC prog nn b o kind) ff=some (N2 prog nn b o kind):=by intro a b o kind;kernel_rfl
theorem L3:∀(a:Fl) b o kind n0 L K S,(n0||L||K||S)=true->aP prog {a with n0:=n0} [] (N2 prog nn b o kind) (.word L K S 0)=some (UE prog nn b o kind):=by intro a b o kind n0 L K S h;cases n0<;>cases L<;>cases K<;>cases S<;>first|exact absurd h (by decide)|kernel_rfl
theorem IW:∀(a:Fl) b o kind,aP prog {a with n0:=false} [0,27,28,29] (N2 prog nn b o kind) (.word false false false 0)=some (UC prog nn b o kind):=by intro a b o kind;kernel_rfl
theorem L4:∀(a:Fl) b o kind,aP prog a [] (G7 prog nn b o kind) un=some (UE prog nn b o kind):=by intro a b o kind;kernel_rfl
theorem L5:∀(a:Fl) b o kind,aP prog a [] (G9 prog nn b o kind) un=some (UE prog nn b o kind):=by intro a b o kind;kernel_rfl
theorem IX:∀(a:Fl) b o kind,aP prog a [] (UE prog nn b o kind) un=some (Tu nn kind):=by intro a b o kind;kernel_rfl
theorem L6:∀b o kind,bb (LD prog nn b o kind).1=some (nn.jl,[])/\(LD prog nn b o kind).1.kind=.normal:=by intro b o kind;exact⟨by kernel_rfl,by kernel_rfl⟩
theorem L7:∀b o kind,bb (tZ prog nn b o kind).1=some (nn.ko,[pt b o,i32 0,i32 1]):=by intro b o kind;kernel_rfl
theorem L8:∀b o kind,bb (PV prog nn b o kind).1=some (nn.en,[]):=by intro b o kind;kernel_rfl
theorem L9:∀b o kind,kz (Sk prog nn b o kind).1=some (nn.tM,nn.tU,pt b o):=by intro b o kind;kernel_rfl
theorem Ma:∀b o kind,bb (PW prog nn b o kind).1=some (nn.acq,[pt b o]):=by intro b o kind;kernel_rfl
theorem IY:∀b o kind aw sv it,qL (QU prog nn b o kind aw sv it).1=some (nn.tI,pt b o):=by intro b o kind aw sv it;kernel_rfl
theorem IZ:∀b o kind aw sv it,qL (Gu prog nn b o kind aw sv it).1=some (nn.tI,pt b o):=by intro b o kind aw sv it;kernel_rfl
theorem I0:∀b o kind aw sv it,qL (QV prog nn b o kind aw sv it).1=some (nn.tI,pt b o):=by intro b o kind aw sv it;kernel_rfl
theorem Mb:∀b o kind K aw sv it,bb (SQ prog nn b o kind K aw sv it).1=some (nn.HN,[i64 it]):=by intro b o kind K aw sv it;kernel_rfl
theorem Mc:∀b o kind it,bb (SW prog nn b o kind it).1=some (nn.ko,[pt b o,.word true false false 0,.word true true false 0]):=by intro b o kind it;kernel_rfl
theorem Me:∀b o kind aw sv it,bb (DS prog nn b o kind aw sv it).1=some (nn.tY,[]):=by intro b o kind aw sv it;kernel_rfl
theorem I1:∀b o kind L K S aw sv it,bb (CJ prog nn b o kind L K S aw sv it).1=some (nn.ko,[pt b o,.word L K S 0,Ot L K S aw sv]):=by intro b o kind L K S aw sv it;kernel_rfl
theorem I2:∀b o kind sv,bb (T1 prog nn b o kind sv).1=some (nn.nano,[]):=by intro b o kind sv;kernel_rfl
theorem I3:∀b o kind sv,bb (PK prog nn b o kind sv).1=some (nn.ER,[pt b (o+1),.cE,i64 2]):=by intro b o kind sv;kernel_rfl
theorem I4:∀b o kind,bb (TQ prog nn b o kind).1=some (nn.nano,[]):=by intro b o kind;kernel_rfl
theorem I5:∀b o kind sv,qL (UP prog nn b o kind sv).1=some (nn.tI,pt b o):=by intro b o kind sv;kernel_rfl
theorem I6:∀b o kind d,bb (AD prog nn b o kind d).1=some (nn.add,[pt b o,i32 d]):=by intro b o kind d;kernel_rfl
theorem I7:∀b o kind,bb (N1 prog nn b o kind).1=some (nn.en,[]):=by intro b o kind;kernel_rfl
theorem I8:∀b o kind,kz (Sl prog nn b o kind).1=some (nn.tM,nn.tU,pt b o):=by intro b o kind;kernel_rfl
theorem I9:∀b o kind,bb (PY prog nn b o kind).1=some (nn.acq,[pt b o]):=by intro b o kind;kernel_rfl
theorem I':∀b o kind,qL (U0 prog nn b o kind).1=some (nn.tI,pt b o)/\(U0 prog nn b o kind).1.kind=.normal/\(U0 prog nn b o kind).1.fn=nn.vN:=by intro b o kind;exact⟨by kernel_rfl,by kernel_rfl,by kernel_rfl⟩
theorem Ja:∀b o kind,kz (Sm prog nn b o kind).1=some (nn.tM,nn.tU,pt b o):=by intro b o kind;kernel_rfl
theorem Jb:∀b o kind,bb (UR prog nn b o kind).1=some (nn.rel,[pt b o]):=by intro b o kind;kernel_rfl
theorem Jc:∀b o kind,bb (UD prog nn b o kind).1=some (nn.jl,[]):=by intro b o kind;kernel_rfl
theorem Jd:∀b o kind,bb (rK prog nn b o kind).1=some (nn.add,[pt b o,i32 (-1)]):=by intro b o kind;kernel_rfl
theorem Je:∀b o kind,bb (UC prog nn b o kind).1=some (nn.ko,[pt b o,wf,.word false true false (-1)]):=by intro b o kind;kernel_rfl
theorem Jf:∀b o kind,bb (G7 prog nn b o kind).1=some (nn.oh,[pt b (o+1),ff,i64 2]):=by intro b o kind;kernel_rfl
theorem Jg:∀b o kind,bb (G9 prog nn b o kind).1=some (nn.oh,[pt b (o+1),tt,i64 2]):=by intro b o kind;kernel_rfl
theorem Jh:∀b o kind,qL (N2 prog nn b o kind).1=some (nn.tI,pt b o):=by intro b o kind;kernel_rfl
theorem Ji:∀b o kind,bb (UE prog nn b o kind).1=some (nn.en,[]):=by intro b o kind;kernel_rfl
theorem Mf:∀b o kind,(Tr prog nn b o kind).all (·.env.all plain)=true/\(LD prog nn b o kind).1.env.all plain=true/\(LD prog nn b o kind).2=Tr prog nn b o kind:=by intro b o kind;exact⟨by kernel_rfl,by kernel_rfl,by kernel_rfl⟩
theorem Mg:∀b o kind,(Vf prog nn b o kind).all (·.env.all plain)=true:=by intro b o kind;kernel_rfl
theorem Mh:∀b o kind,(Tt prog nn b o kind).all (·.env.all plain)=true/\(U0 prog nn b o kind).1.env.all plain=true/\(U0 prog nn b o kind).2=Tt prog nn b o kind:=by intro b o kind;exact⟨by kernel_rfl,by kernel_rfl,by kernel_rfl⟩
theorem Mi:∀b o kind,(VD prog nn b o kind).all (·.env.all plain)=true:=by intro b o kind;kernel_rfl
theorem Al:gn prog nn where
 e1:=LP
 e2:=LQ
 e3:=LR
 e4:=LS
 e5:=LU
 e6:=LV
 WJ:=IA
 QW:=IB
 WK:=IC
 e8:=LW
 e9:=LX
 bK:=ID
 Tv:=FF
 bG:=IE
 cD:=IF
 ET:=FG
 EU:=FH
 Tw:=FI
 Tx:=FJ
 JL:=IG
 Ty:=FK
 Tz:=FL
 Bi:=IH
 xj:=II
 TA:=FM
 TB:=FN
 tF:=IJ
 Ou:=IK
 yW:=IL
 vO:=IM
 vP:=IN
 JM:=IP
 HO:=IQ
 u1:=LY
 u2:=LZ
 u3:=L0
 u4:=L1
 u5:=L2
 WL:=IS
 WM:=IT
 WN:=IU
 WO:=IV
 u7:=L3
 WQ:=IW
 u8:=L4
 u9:=L5
 WR:=IX
 o1:=L6
 o2:=L7
 o3:=L8
 o4:=L9
 o5:=Ma
 WT:=IY
 WU:=IZ
 WV:=I0
 o7:=Mb
 o8:=Mc
 o9:=Me
 VE:=I1
 WW:=I2
 VF:=I3
 WX:=I4
 WZ:=I5
 W2:=I6
 W6:=I7
 W7:=I8
 W8:=I9
 VG:=I'
 W9:=Ja
 Xa:=Jb
 Xb:=Jc
 VH:=Jd
 VI:=Je
 VJ:=Jf
 VK:=Jg
 Xc:=Jh
 Xd:=Ji
 p1:=Mf
 p2:=Mg
 p3:=Mh
 p4:=Mi
theorem Am:gq prog nn where
 jl:=⟨_,rfl,rfl,rfl,rfl,rfl⟩
 en:=⟨_,rfl,rfl,rfl,rfl,rfl⟩
 acq:=⟨_,rfl,rfl,rfl,rfl,rfl⟩
 rel:=⟨_,rfl,rfl,rfl,rfl,rfl⟩
 ko:=⟨_,rfl,rfl,rfl,rfl,rfl⟩
 add:=⟨_,rfl,rfl,rfl,rfl,rfl⟩
 HN:=⟨_,rfl,rfl,rfl,rfl,rfl⟩
 tY:=⟨_,rfl,rfl,rfl,rfl,rfl⟩
 nano:=⟨_,rfl,rfl,rfl,rfl,rfl⟩
 KC:=⟨_,rfl,rfl⟩
 ER:=⟨_,rfl,rfl,rfl,rfl,rfl⟩
 oh:=⟨_,rfl,rfl,rfl,rfl,rfl⟩
 TC:=by kernel_rfl
 Xe:=⟨_,rfl,rfl,rfl⟩
 nS:=⟨_,rfl,rfl⟩
 nU:=⟨_,rfl,rfl⟩
 nV:=⟨_,rfl,rfl⟩
end
open Go.bQ Go.Conc
set_option maxRecDepth 4000
variable{m:Mo}{σ:aa}{KF:abT}
def jM(f:Fr)(x:Int):Bool:=decide (me f (aB x)=0)
def kL(f:Fr)(l:abI):Prop:=∀n a,Gp l n=some a->a=bool (jM f n)
theorem UO:Ke prog 255 291 4 5 .u8:=.of (by kernel_rfl) (by kernel_rfl) (by kernel_rfl) (by kernel_rfl)
theorem Ph(f:Fr)(l:acp):me f l=0\/me f l=1\/me f l=2\/me f l=3:=by unfold me;omega
theorem Mj{f:Fr}{l:acp}(h:me f l≠0):∃d a,UN (me f l)=.lZ d a:=by
 rcases Ph f l with e|e|e|e
 . omega
 all_goals rw[e];exact⟨_,_,rfl⟩
theorem Jj{f:Fr}{l:abI}{x n:Int}{a:AV}(b:kL f l)(h:Gp (l++[(x,bool (jM f x))]) n=some a):a=bool (jM f n):=by
 unfold Gp dp at h;rw[List.find?_append]at h;cases e:l.find? (λp=>n==p.1)with
 |some p=>rw[e]at h;simp only[Option.some_or,ZR,kn]at h;subst h;exact b n p.2 (by unfold Gp dp;rw[e];rfl)
 |none=>grind
theorem Rn{b mb:Nat}{f:Fr}{x:Int}{Un:acu}{Ld:aa->abI->Prop}(j:Lw prog m nn b 6 mb .u8 (kL f) Un Ld)(E:f.Good)(F:N6 f (aB x))(p:(aB x).length<20)(G:Un σ)(h:∀σ',Un σ'->o0 b mb σ σ'->KF (.val (bool (jM f x))) σ'):aA prog m 188 [lR b mb f 0,xZ x] σ KF:=by
 refine fs Uy 2 Tryz.func188 rfl rfl (by rfl) (by kernel_rfl) ?_;simp[Tryz.f188];refine cf Tryz.func93 rfl (j.lock (qA _ _ _ _) G λH l o q r A=>?_);refine rn ?_;simp;refine ab.defer rfl rfl rfl rfl (by simp) rfl ?_;refine rn ?_;simp;refine wZ lay (UO.key lay Xq rfl) rfl YS rfl rfl (j.map o) ?_;refine pg ?_;simp
 have i:∀(env:Env) (g:aa) s,env 4=bool (jM f x)->Ld g s->kL f s->(∀c,c≠b->c≠mb->g c=σ c)->qS prog m (.func 94) [] [AV.kp b [jw f.aD,rows f.roads,int f.aR,int f.eS,int f.cQ,int f.aX,.lit (.int .i32 0),.lit (.int .u32 0),.map mb] [6,7] 6] .ret g (λt σ'=>JJ lay m [ResultVar.tmp 4] env (ny KF) [] t σ'):=λenv g s I u v J=>by
  refine qS.func Tryz.func94 rfl rfl (j.unlock (qA _ _ _ _) u v λw z K=>?_);refine⟨[env 4],rfl,.done ?_⟩;rw[show oneOf [env 4]=env 4 from rfl,I];refine h w z λc y O L B=>?_
  grind
 cases k:dp l x with
 |some a=>have M:=q x a k;subst M;simp;refine rn ?_;simp;exact i _ _ _ (by simp) o q r
 | none=>
   simp;refine rn ?_;simp;refine cf Tryz.func205 rfl (LM ?_);refine rn ?_;simp;refine cf Tryz.func144 rfl (Rm E F p ?_);refine rn ?_;simp;have C:decide (me f (aB x)=0)=jM f x:=rfl;refine gJ lay rfl Um rfl (isNil:=jM f x) ?_ (.inl ⟨rfl,rfl⟩) ?_
   . by_cases D:me f (aB x)=0
     . left
       refine⟨?_,by simp_all⟩;simp[D];rfl
     . right
       obtain⟨d,a,e⟩:=Mj D
       simp_all
   refine rn ?_;simp;refine qV (UO.key lay Xq rfl) rfl rfl rfl rfl (j.map o) k ?_;refine pg ?_;simp;refine rn ?_;simp;refine i _ _ _ (by simp) (j.put o) (λn a N=>?_) (λc L B=>by rw[aa.ai _ _ B];simp_all);exact Jj q (by simpa using N)
def fU(f:Fr)(begun:acp):Nat->acp->Int->acp->abG
 |0,cS,_,_=>[cS]
 | fuel+1,cS,many,a=>(List.range (min (many+1) f.aX).toNat).flatMap λk:Nat=>
    if cS.length<begun.length/\begun.getD cS.length 0≠(k:Int)then[]
    else if jM f (bU (a.getD k 0) cS.length)=true then fU f begun fuel (cS++[(k:Int)]) (max many ((k:Int)+1)) (a.set k (bU (a.getD k 0) cS.length))else[]
def aH(f:Fr)(begun:acp):abG:=fU f begun f.aD.length [] 0 [0,0,0,0,0,0]
def Mv(b mb:Nat)(F a:ack)(σ σ':aa):Prop:=∀c x,σ c=some x -> ¬F c->c≠b->(c≠mb\/x.plain=true)->σ' c=some x/\¬a c
theorem Mv.refl(b mb:Nat)(F:ack)(σ:aa):Mv b mb F F σ σ:=λ_ _ h a _ _=>⟨h,a⟩
theorem Mv.trans{b mb:Nat}{F g d:ack}{σ σ' a:aa}(h:Mv b mb F g σ σ')(k:Mv b mb g d σ' a):Mv b mb F d σ a:=λc x i j e f=>k c x (h c x i j e f).1 (h c x i j e f).2 e f
structure SA(m:Mo)(y:AV)(W:abG)(I:Nat->ack->acu)(E:ack->acu):Prop where
 step:∀(k:Nat) (F:ack) (σ:aa) (KF:abT) (hk:k<W.length),I k F σ->(∀F' σ',Gm F F' σ σ'->I (k+1) F' σ'->KF (.val (bool true)) σ')->(∀F' σ',Gm F F' σ σ'->E F' σ'->KF (.val (bool false)) σ')->bZ prog m y [ints W[k]] σ KF
 frame:∀(k:Nat) (F:ack) (σ σ':aa),(∀c,F c->σ' c=σ c)->I k F σ->I k F σ'
 Ro:∀(F:ack) (σ σ':aa),(∀c,F c->σ' c=σ c)->E F σ->E F σ'
 N5:∀(k:Nat) (F:ack) (σ:aa) (c:Nat),I k F σ->F c->∃x,σ c=some x/\x.plain=true
theorem DH{b mb:Nat}{F a:ack}{σ σ':aa}(h:Gm F a σ σ'):Mv b mb F a σ σ':=λc x d e _ _=>h c x e d
theorem pR{b mb:Nat}{GI:abI->Prop}{Un:acu}{Ld:aa->abI->Prop}(a:Lw prog m nn b 6 mb .u8 GI Un Ld){d:Nat}{y:ga}(f:Un σ)(hd:∀x,σ d=some x->x.plain=true):Un (σ.set d y):=a.un (λc _ ⟨x,g,h⟩=>aa.ai _ _ (λe=>by simp_all)) f
theorem ya{b mb:Nat}{GI:abI->Prop}{Un:acu}{Ld:aa->abI->Prop}(e:Lw prog m nn b 6 mb .u8 GI Un Ld){F f:ack}{σ':aa}(g:Un σ)(h:Gm F f σ σ')(hd:∀c,F c->∃x,σ c=some x/\x.plain=true):Un σ':=
 e.un (λc _ ⟨x,a,i⟩=>by
  have d:¬F c:=λd=>by grind
  rw[(h c x d a).1,a]) g
abbrev yb(a y:AV)(begun:acp)(cp:Nat):AV:=.fn (.func 189) [] [.cp a 0,.cp y 0,.cp (ints begun) 0,.ref cp 0]
abbrev bc(a:AV)(c4 cg:Nat):AV:=.fn (.func 185) [] [.ref c4 0,.cp a 0,.ref cg 0]
structure WS(b mb:Nat)(f:Fr)(y:AV)(begun:acp)(c4 cg cp:Nat)(hs:acp)(F:ack)(σ:aa):Prop where
 arr:σ c4=some (.cells (hs.map u8))
 UQ:σ cg=some (.cells [yb (lR b mb f 0) y begun cp])
 pt:σ cp=some (.cells [bc (lR b mb f 0) c4 cg])
 out:¬F c4/\¬F cg/\¬F cp
 ne:c4≠cg/\c4≠cp
theorem WS.mv{b mb:Nat}{f:Fr}{y:AV}{begun:acp}{c4 cg cp:Nat}{d:acp}{F g:ack}{σ σ':aa}(h:WS b mb f y begun c4 cg cp d F σ)(hb:∃x,σ b=some x/\x.plain=false)(a:Mv b mb F g σ σ'):WS b mb f y begun c4 cg cp d g σ':=by
 obtain⟨x,j,k⟩:=hb;have ne:∀c l,σ c=some (.cells l)->c≠b:=λc l i e=>by subst e;rw[j]at i;cases i;cases k
 obtain⟨m,n⟩:=a c4 _ h.arr h.out.1 (ne _ _ h.arr) (.inr rfl);obtain⟨o,p⟩:=a cg _ h.UQ h.out.2.1 (ne _ _ h.UQ) (.inr rfl);obtain⟨q,r⟩:=a cp _ h.pt h.out.2.2 (ne _ _ h.pt) (.inr rfl);exact⟨m,o,q,⟨n,p,r⟩,h.ne⟩
structure Hs(f:Fr)(n:Nat)(hs:acp):Prop where
 qB:hs.length=6
 bits:∀x∈hs,∀e∈aB x,e<n
 small:∀x∈hs,0<=x/\x<64
section
variable{b mb:Nat}{f:Fr}{begun:acp}{y:AV}{W:abG}{I:Nat->ack->acu}{E:ack->acu}{Un:acu}{Ld:aa->abI->Prop}{c4 cg cp:Nat}
def Qm(b mb:Nat)(Un:acu)(I:Nat->ack->acu)(E:ack->acu)(a n:Nat)(F:ack)(σ:aa)(KF:abT):Prop:=(∀d c,Mv b mb F d σ c->Un c->I (a+n) d c->KF (.val (bool true)) c)/\(∀d c,Mv b mb F d σ c->Un c->E d c->KF (.val (bool false)) c)
def Mk(m:Mo)(b mb:Nat)(f:Fr)(begun:acp)(y:AV)(W:abG)(I:Nat->ack->acu)(E:ack->acu)(Un:acu)(c4 cg cp:Nat)(fuel:Nat):Prop:=
 ∀ (cS:acp) (many:Int) (a:acp) (sp:cT) (F:ack) (σ:aa) (pre post:abG) (KF:abT),cS.length+fuel=f.aD.length->0<=many/\many<=6->Hs f cS.length a->WS b mb f y begun c4 cg cp a F σ->Un σ ->
   W=pre++fU f begun fuel cS many a++post->I pre.length F σ->Qm b mb Un I E pre.length (fU f begun fuel cS many a).length F σ KF ->
   aA prog m 189 [.sl 1 (cS.map int) sp,int many,.cp (lR b mb f 0) 0,.cp y 0,.cp (ints begun) 0,.ref cp 0] σ KF
theorem Pj:∀x:Fin 64,∀n:Fin 6,(0<=bU (x.val:Int) (n.val:Int)/\bU (x.val:Int) (n.val:Int)<64)/\(∀e∈aB (bU (x.val:Int) (n.val:Int)),e=(n.val:Int)\/e∈aB (x.val:Int))/\(n.val:Int)∈aB (bU (x.val:Int) (n.val:Int)):=by decide +kernel
theorem FO{x:Int}{n:Nat}(b:0<=x/\x<64)(a:n<6):(0<=bU x n/\bU x n<64)/\(∀e∈aB (bU x n),e=(n:Int)\/e∈aB x)/\(n:Int)∈aB (bU x n):=by
 have:=Pj ⟨x.toNat,by omega⟩ ⟨n,a⟩
 grind
theorem Ml{x e:Int}(h:e∈aB x):0<=e/\e<6:=by
 unfold aB at h
 grind
theorem nL(x:Int):(aB x).length<20:=by
 unfold aB
 grind
theorem Hs.set{n:Nat}{b:acp}(h:Hs f n b)(d:n<6){k:Nat}(c:k<b.length):Hs f (n+1) (b.set k (bU b[k] n)):=by
 have g:=FO (h.small _ (zD c)) d;refine⟨by rw[aaI];exact h.qB,λx a e he=>?_,λx a=>?_⟩
 . rcases aaF a with a|rfl
   . have:=h.bits x a e he;omega
   . rcases g.2.1 e he with rfl|he
     . omega
     . have:=h.bits _ (zD c) e he;omega
 . rcases aaF a with a|rfl
   . exact h.small x a
   omega
theorem Hs.vd{n:Nat}{a:acp}(h:Hs f n a)(d:n<f.aD.length)(g:f.aD.length<=6){k:Nat}(b:k<a.length):N6 f (aB (bU a[k] n)):=by
 have c:=FO (h.small _ (zD b)) (n:=n) (by omega);refine⟨λe he=>⟨(Ml he).1,?_⟩,λq=>?_,by have:=nL (bU a[k] n);omega⟩
 . rcases c.2.1 e he with rfl|he
   . omega
   . have:=h.bits _ (zD b) e he;omega
 simp_all
theorem Pk{d:Nat}{k:Nat}{x:Int}{l:acp}(i:k<6)(c:l.length=6)(hd:σ d=some (.cells [u8 x]))(e:σ c4=some (.cells (l.map u8)))(h:KF (.val (.cB [])) (σ.set c4 (.cells ((l.set k x).map u8)))):aA prog m 186 [.ref d 0,.ref c4 0,.cp (int k) 0] σ KF:=by
 have a:(k:Int)<6:=by omega
 have b:k<=5:=by omega
 have g:k<l.length:=by omega
 refine fs [] 3 Tryz.func186 rfl rfl (by rfl) (by kernel_rfl) ?_;simp[Tryz.f186,hd,e,a,c,b];rw[EK (by simp_all),<-List.map_set (f:=u8)];exact .done h
theorem Rq(N : Lw prog m nn b 6 mb .u8 (kL f) Un Ld)(hf:f.Good)(dj:begun.length<1152921504606846976)(Y:SA m y W I E){fuel:Nat}(hG:Mk m b mb f begun y W I E Un c4 cg cp fuel){cS:acp}{many:Int}{k:Nat}{n:acp}{sp:cT}{F:ack}{pre post:abG}(hlen:cS.length+(fuel+1)=f.aD.length)(b3:0<=many/\many<=6)(hk:k<6)
 (hh:Hs f cS.length n) (w:WS b mb f y begun c4 cg cp n F σ) (hu:Un σ){L:abG}(U:L=if jM f (bU (n.getD k 0) cS.length)=true then fU f begun fuel (cS++[(k:Int)]) (max many ((k:Int)+1)) (n.set k (bU (n.getD k 0) cS.length))else[]) (hW:W=pre++L++post)
 (hI:I pre.length F σ) (hR:Qm b mb Un I E pre.length L.length F σ KF):aA prog m 185 [.sl 1 (cS.map int) sp,int many,int k,.ref c4 0,.cp (lR b mb f 0) 0,.ref cg 0] σ KF:=by
 have h6:=hf.qB;have V:k<n.length:=by rw[hh.qB];exact hk
 have b4:n.getD k 0=n[k]:=by simp_all
 rw[b4]at U;have X:(k:Int)<6:=by omega
 have s:=w.arr;have av:=hh.qB;have Z:k<=5:=by omega
 have e1:List.take 1 (List.drop k (List.map u8 n))=[u8 n[k]]:=by rw[<-List.map_drop,ZW V];rfl
 refine fs Uw 6 Tryz.func185 rfl rfl (by rfl) (by kernel_rfl) ?_
 simp[Tryz.f185,s,X,av,Z,e1];refine bR.intro λd hd=>?_
 have d4:d≠c4:=λe=>by simp_all
 have ax:=za d4;simp;refine ab.defer rfl rfl rfl rfl (by simp) rfl ?_
 refine rn ?_;simp[X];obtain⟨z,hz⟩:∃z,z=bU n[k] cS.length:=⟨_,rfl⟩;obtain⟨i,O⟩:∃i,i=n.set k z:=⟨_,rfl⟩;have b5:k<i.length:=by simp_all
 have ay:i[k]=z:=by simp_all
 have e2:List.take 1 (List.drop k (List.map u8 i))=[u8 z]:=by rw[<-List.map_drop,ZW b5,ay];rfl
 have e3:aJ (List.map u8 n) k [u8 z]=List.map u8 i:=by simp_all
 have P:i.length=6:=by simp_all
 refine cf Tryz.func187 rfl (Pe (by omega) ?_)
 rw[<-hz];refine pg ?_;simp[ax,aa.ai,s,av,Z,e3];refine rn ?_;simp[X,P,Z,e2];have b6:cS.length<6:=by omega
 have b7:cS.length<f.aD.length:=by omega
 have b8:N6 f (aB z):=by rw[hz];exact hh.vd b7 h6 V
 obtain⟨xb,b9,bm⟩:=N.Sv hu;have cb:∀c l,σ c=some (.cells l)->c≠b:=λc l t e=>by subst e;rw[b9]at t;cases t;cases bm
 have db:d≠b:=λe=>by simp_all
 have aC:Un ((σ.set d (.cells [u8 n[k]])).set c4 (.cells (i.map u8))):=pR N (pR N hu (λx A=>by simp_all)) (λx A=>by rw[aa.ai _ _ ax,s]at A;cases A;rfl)
 have aE:((σ.set d (.cells [u8 n[k]])).set c4 (.cells (i.map u8))) c4=some (.cells (i.map u8)):=aa.ak _ _ _;have aL:((σ.set d (.cells [u8 n[k]])).set c4 (.cells (i.map u8))) d=some (.cells [u8 n[k]]):=by rw[aa.ai _ _ d4,aa.ak]
 have H:∀c,c≠d->c≠c4->((σ.set d (.cells [u8 n[k]])).set c4 (.cells (i.map u8))) c=σ c:=λc r D=>by rw[aa.ai _ _ D,aa.ai _ _ r]
 have aO:¬F d:=λhF=>by
  obtain⟨x,A,_⟩:=Y.N5 _ _ _ _ hI hF
  simp_all
 have a7:I pre.length F ((σ.set d (.cells [u8 n[k]])).set c4 (.cells (i.map u8))):=Y.frame _ _ _ _ (λc t=>H c (λe=>aO (e ▸ t)) (λe=>w.out.1 (e ▸ t))) hI
 generalize (σ.set d (.cells [u8 n[k]])).set c4 (.cells (i.map u8))=dm at aC aE aL H a7;refine cf Tryz.func188 rfl (Rn N hf b8 (nL _) aC λo b0 p=>?_)
 have B:o c4=some (.cells (i.map u8)):=p _ _ aE (cb _ _ s) (.inr rfl);have a8:o d=some (.cells [u8 n[k]]):=p _ _ aL db (.inr rfl);have gd:cg≠d:=λe=>by have:=w.UQ;simp_all
 have J:o cg=some (.cells [yb (lR b mb f 0) y begun cp]):=p _ _ (by rw[H cg gd (za w.ne.1)];exact w.UQ) (cb _ _ w.UQ) (.inr rfl)
 have bw:i.set k n[k]=n:=by simp_all
 have Q:∀(env:Env) (j:aa) (v:Bool),env 9=bool v->j d=some (.cells [u8 n[k]])->j c4=some (.cells (i.map u8))->KF (.val (bool v)) (j.set c4 (.cells (n.map u8)))->qS prog m (.func 186) [.ref d 0,.ref c4 0,.cp (int k) 0] [] .ret j (λbx g=>JJ lay m [ResultVar.tmp 9] env (ny KF) [] bx g):=λenv j v he bA bB hK=>by
  refine qS.func Tryz.func186 rfl rfl (Pk hk P bA bB ?_);refine⟨[env 9],rfl,.done ?_⟩
  simp_all
 have b1:Mv b mb F F σ (o.set c4 (.cells (n.map u8))):=λc x r D K h4=>by
  refine⟨?_,D⟩
  by_cases e:c=c4
  . simp_all
  . have e':c≠d:=λe'=>by simp_all
    rw[aa.ai _ _ e];exact p c x (by simp_all) K h4
 have a9:I pre.length F o:=Y.frame _ _ _ _ (λc t=>by
  obtain⟨x,r,D⟩:=Y.N5 _ _ _ _ a7 t
  have c5:c≠b:=λe=>by grind
  rw[r];exact p c x r c5 (.inr D)) a7
 rw[<-hz,<-O]at U;cases R:jM f z with
 | false=>
   rw[R]at U;simp only[zR,if_false]at U;subst U;refine pg ?_;simp
   repeat' apply And.intro
   all_goals
    refine rn ?_;simp;refine Q _ o true (by simp) a8 B (hR.1 F _ b1 (pR N b0 (λx A=>by rw[B]at A;cases A;rfl)) ?_)
    exact Y.frame _ _ _ _ (λc t=>aa.ai _ _ (λe=>w.out.1 (e ▸ t))) a9
 | true=>
   rw[R,if_pos rfl]at U
   have ad:∀(j:aa) (C:cT) (M:abT),o.Le j->(∀(v:Bool) g,g d=some (.cells [u8 n[k]])->g c4=some (.cells (i.map u8))->KF (.val (bool v)) (g.set c4 (.cells (n.map u8)))->M (.val (bool v)) g) ->
    aA prog m 189 [.sl 1 ((cS++[(k:Int)]).map int) C,int (max many ((k:Int)+1)),.cp (lR b mb f 0) 0,.cp y 0,.cp (ints begun) 0,.ref cp 0] j M:=λj C M q hK=>by
    have c6:o cp=some (.cells [bc (lR b mb f 0) c4 cg]):=by
     have pd:cp≠d:=λe=>by have:=w.pt;simp_all
     exact p _ _ (by rw[H cp pd (za w.ne.2)];exact w.pt) (cb _ _ w.pt) (.inr rfl)
    have c7:Un j:=N.un (λc _ ⟨x,r,_⟩=>by rw[r];exact q _ _ r) b0
    have c9:WS b mb f y begun c4 cg cp i F j:=⟨q _ _ B,q _ _ J,q _ _ c6,w.out,w.ne⟩
    have ca:I pre.length F j:=Y.frame _ _ _ _ (λc t=>by obtain⟨x,r,_⟩:=Y.N5 _ _ _ _ a9 t;rw[r];exact q _ _ r) a9
    have S:∀(u:ack) (g:aa),Mv b mb F u j g->Mv b mb F u σ (g.set c4 (.cells (n.map u8))):=λu g hm c x r D K h4=>by
     by_cases e:c=c4
     . subst e
       obtain⟨q1,T⟩:=hm c _ (q _ _ B) D K (.inr rfl)
       simp_all
     . have e':c≠d:=λe'=>by simp_all
       rw[aa.ai _ _ e];exact hm c x (q _ _ (p c x (by simp_all) K h4)) D K h4
    have Eu:∀(u:ack) (g:aa),Mv b mb F u j g->g d=some (.cells [u8 n[k]])/\(g c4=some (.cells (i.map u8))/\¬u c4):=λu g hm=>⟨(hm d _ (q _ _ a8) aO db (.inr rfl)).1,hm c4 _ (q _ _ B) w.out.1 (cb _ _ s) (.inr rfl)⟩
    subst U;refine hG _ _ _ _ F j pre post M (by simp;omega) (by omega) (by rw[Rp,O,hz];exact hh.set b6 V) c9 c7 hW ca ⟨λu g r D K=>?_,λu g r D K=>?_⟩
    . obtain⟨q1,T,q3⟩:=Eu u g r
      exact hK true g q1 T (hR.1 u _ (S u g r) (pR N D (λx A=>by rw[T]at A;cases A;rfl)) (Y.frame _ _ _ _ (λc t=>aa.ai _ _ (λe=>q3 (e ▸ t))) K))
    . obtain⟨q1,T,q3⟩:=Eu u g r
      exact hK false g q1 T (hR.2 u _ (S u g r) (pR N D (λx A=>by rw[T]at A;cases A;rfl)) (Y.Ro _ _ _ (λc t=>aa.ai _ _ (λe=>q3 (e ▸ t))) K))
   have k1:-9223372036854775808<=(k:Int)+1/\(k:Int)+1<=9223372036854775807:=by omega
   have G:(if many<(k:Int)+1 then(k:Int)+1 else many)=max many ((k:Int)+1):=by omega
   refine pg ?_;simp[J,k1.1,k1.2,G]
   repeat' (first
             |apply And.intro
             | (refine uT lay rfl dh rfl qM (es:=cS.map int) (sp:=sp) (l:=0) (h:=cS.length) (by simp) (λcap b2=>⟨⟨⟨.i64,by simp⟩,by simpa using b2⟩,⟨⟨.i64,by simp⟩,ZF _⟩,rfl⟩) (by simp) λa ha=>?_
                have cm:Tok o o a 1 (cS.map int):=by
                 rcases ha with rfl|⟨e,rfl⟩
                 . have:List.take (cS.length-0) (List.drop 0 (cS.map int))=cS.map int:=by rw[List.drop_zero,aag (by simp)]
                   rw[this];exact .exact _ _ _
                 . rw[e];exact .nil _ _
                clear ha;refine pg ?_;simp[B,a8,J,k1.1,k1.2,G])
             | (refine aK lay rfl rfl rfl dh rfl dh rfl qM (by decide) (by simp;omega) (σ0:=o) (es:=cS.map int) (xs:=[int k]) (by simpa using cm) (.inr ⟨_,by simp;rfl⟩) λa' j al=>?_
                obtain⟨C,rfl⟩:∃C,a'=.sl 1 (cS.map int++[int k]) C:=by
                 rcases al.2 with⟨_,e⟩|e|⟨_,_,_,e,_⟩
                 . simp at e
                 . exact⟨_,e⟩
                 . exact⟨_,e⟩
                have cv:=al.1 _ _ J;refine pg ?_;simp[cv,k1.1,k1.2,G])
             | (refine dZ Tryz.func189 rfl rfl (by simp) (ad j C _ al.1 λv g q1 T q3=>?_)
                refine pg ?_;simp;refine rn ?_;simp;exact Q _ _ v (by simp) q1 T q3))
end
section
variable{b mb:Nat}{f:Fr}{begun:acp}{y:AV}{W:abG}{I:Nat->ack->acu}{E:ack->acu}{Un:acu}{Ld:aa->abI->Prop}{c4 cg cp:Nat}
def pe(f:Fr)(begun:acp)(fuel:Nat)(cS:acp)(many:Int)(a:acp)(k:Nat):abG:=
 if cS.length<begun.length/\begun.getD cS.length 0≠(k:Int)then[]
 else if jM f (bU (a.getD k 0) cS.length)=true then fU f begun fuel (cS++[(k:Int)]) (max many ((k:Int)+1)) (a.set k (bU (a.getD k 0) cS.length))else[]
theorem rR(f:Fr)(begun:acp)(fuel:Nat)(cS:acp)(many:Int)(a:acp):fU f begun (fuel+1) cS many a=(List.range (min (many+1) f.aX).toNat).flatMap (pe f begun fuel cS many a):=rfl
theorem DI(K:Nat->abG){k cnt:Nat}(h:k<cnt):∃rest,(List.range cnt).flatMap K=(List.range k).flatMap K++(K k++rest):=by
 obtain⟨n,rfl⟩:∃n,cnt=k+1+n:=⟨cnt-(k+1),by omega⟩;induction n with
 |zero=>exact⟨[],by rw[Nat.add_zero,ZN,aay];simp⟩
 | succ n a=>
   obtain⟨rest,b⟩:=a (by omega);refine⟨rest++K (k+1+n),?_⟩;rw[show k+1+(n+1)=(k+1+n)+1 by omega,ZN,aay,b];simp
theorem Pl(P:Lw prog m nn b 6 mb .u8 (kL f) Un Ld)(R:f.Good)(S:begun.length<1152921504606846976)(Y:SA m y W I E)(T:y.cells=[y]):∀fuel:Nat,Mk m b mb f begun y W I E Un c4 cg cp fuel:=by
 have h6:=R.qB;have ad:=R.aX;intro fuel
 induction fuel with
 | zero=>
   intro cS many h sp F σ pre post KF hlen l hh U G H J u;have V:(cS.length:Int)=f.aD.length:=by omega
   refine fs [] 6 Tryz.func189 rfl rfl (by rfl) (by kernel_rfl) ?_
   simp[Tryz.f189,V,T];have hk:pre.length<W.length:=by rw[H];simp[fU]
   have X:W[pre.length]=cS:=by subst H;simp[fU]
   refine bZ.weaken (args':=[ints cS]) ?_ ⟨ik 1 _ sp,trivial⟩;rw[<-X];refine Y.step pre.length F σ _ hk J (λq d n x=>?_) (λq d n x=>?_)
   . refine rn ?_
     simp;exact .done (u.1 q d (DH n) (ya P G n (λc Z=>Y.N5 _ _ _ c J Z)) x)
   . refine rn ?_
     simp;exact .done (u.2 q d (DH n) (ya P G n (λc Z=>Y.N5 _ _ _ c J Z)) x)
 | succ fuel a7=>
   intro cS many h sp F σ pre post KF hlen l hh U G H J u;have V:((cS.length:Int)==f.aD.length)=false:=by grind
   have al:=U.pt;rw[rR]at H u;obtain⟨cnt,K⟩:∃cnt:Nat,cnt=(min (many+1) f.aX).toNat:=⟨_,rfl⟩;rw[<-K]at H u;have L:(if f.aX<many+1 then f.aX else many+1)=(cnt:Int):=by omega
   have av:cnt<=6:=by omega
   have m1:-9223372036854775808<=many+1/\many+1<=9223372036854775807:=by omega
   refine fs [] 6 Tryz.func189 rfl rfl (by rfl) (by kernel_rfl) ?_
   simp[Tryz.f189,V,m1.1,m1.2,L];refine ab.loop cnt (λk s=>∃env d q,s=⟨env,d,[],.no⟩/\env 0=.sl 1 (cS.map int) sp/\env 1=int many/\env 2=.cp (lR b mb f 0) 0/\env 4=.cp (ints begun) 0/\env 5=.ref cp 0/\env 29=int cnt/\env 30=int k/\Mv b mb F q σ d/\Un d/\I (pre.length+((List.range k).flatMap (pe f begun fuel cS many h)).length) q d) ⟨_,_,F,rfl,by simp,by simp,by simp,by simp,by simp,by simp,by simp,Mv.refl b mb F σ,G,J⟩ ?_
   rintro c0 k _ hk ⟨env,d,q,rfl,B,n,x,C,M,g,i,o,z,a8⟩ ih
   rcases ZU k cnt with g1|g1
   . have N:=U.mv (P.Sv G) o
     have w:=N.pt;obtain⟨rest,Q⟩:=DI (pe f begun fuel cS many h) g1
     have a9:((List.range (k+1)).flatMap (pe f begun fuel cS many h)).length=((List.range k).flatMap (pe f begun fuel cS many h)).length+(pe f begun fuel cS many h k).length:=by rw[ZN,aay,Rp];simp
     by_cases g2:cS.length<begun.length/\begun.getD cS.length 0≠(k:Int)
     . have hK:pe f begun fuel cS many h k=[]:=if_pos g2
       have e1:begun.getD cS.length 0=begun[cS.length]:=by grind
       have e2:(begun[cS.length] !=(k:Int))=true:=by grind
       refine rn ?_;simp[B,C,g,i,g1,g2.1,e2];refine⟨by omega,ih _ g1 ⟨_,_,q,rfl,by simp[B],by simp[n],by simp[x],by simp[C],by simp[M],by simp[g],by simp,o,z,?_⟩⟩
       grind
     . have hK:pe f begun fuel cS many h k=if jM f (bU (h.getD k 0) cS.length)=true then fU f begun fuel (cS++[(k:Int)]) (max many ((k:Int)+1)) (h.set k (bU (h.getD k 0) cS.length))else[]:=if_neg g2
       have p:∀A:abT,(∀(v:Bool) a j,Mv b mb F j σ a->Un a->(v=true->I (pre.length+((List.range (k+1)).flatMap (pe f begun fuel cS many h)).length) j a)->(v=false->E j a)->A (.val (bool v)) a)->aA prog m 185 [.sl 1 (cS.map int) sp,int many,int k,.ref c4 0,.cp (lR b mb f 0) 0,.ref cg 0] d A:=λA O=>by
        refine Rq P R S Y a7 (pre:=pre++(List.range k).flatMap (pe f begun fuel cS many h)) (post:=rest++post) hlen l (by omega) hh N z hK (by grind) (by grind) ⟨λj a r t D=>?_,λj a r t D=>?_⟩
        . refine O true a j (o.trans r) t (λ_=>?_) (λe=>by cases e)
          grind
        . exact O false a j (o.trans r) t (λe=>by cases e) (λ_=>D)
       by_cases g3:cS.length<begun.length
       . have e1:begun.getD cS.length 0=begun[cS.length]:=by grind
         have e2:(begun[cS.length] !=(k:Int))=false:=by grind
         refine rn ?_;simp[B,n,C,M,g,i,g1,g3,e2,w];refine dZ Tryz.func185 rfl rfl (by simp) (p _ λv a j r t D q4=>?_)
         cases v
         . refine rn ?_
           simp;exact .done (u.2 j a r t (q4 rfl))
         . refine rn ?_
           simp[i];exact⟨by omega,ih _ g1 ⟨_,_,j,rfl,by simp[B],by simp[n],by simp[x],by simp[C],by simp[M],by simp[g],by simp,r,t,D rfl⟩⟩
       . refine rn ?_
         simp[B,n,C,M,g,i,g1,g3,w];refine dZ Tryz.func185 rfl rfl (by simp) (p _ λv a j r t D q4=>?_)
         cases v
         . refine rn ?_
           simp;exact .done (u.2 j a r t (q4 rfl))
         . refine rn ?_
           simp[i];exact⟨by omega,ih _ g1 ⟨_,_,j,rfl,by simp[B],by simp[n],by simp[x],by simp[C],by simp[M],by simp[g],by simp,r,t,D rfl⟩⟩
   . have:k=cnt:=by omega
     subst this;refine rn ?_;simp[g,i];exact .done (u.1 q d o z a8)
end
section
variable{b mb:Nat}{f:Fr}{begun:acp}{y:AV}{I:Nat->ack->acu}{E:ack->acu}{Un:acu}{Ld:aa->abI->Prop}
theorem BQ{sp:cT}(h:KF (.val (.fn (.func 184) [] [.cp (lR b mb f 0) 0,.cp (.sl 1 (begun.map int) sp) 0])) σ):aA prog m 159 [lR b mb f 0,.sl 1 (begun.map int) sp] σ KF:=by
 refine fs [] 2 Tryz.func159 rfl rfl (by rfl) (by kernel_rfl) ?_;simp[Tryz.f159];exact .done h
theorem YB(f:Fr):Hs f 0 [0,0,0,0,0,0]:=by
 refine⟨rfl,λx a e b=>?_,λx a=>?_⟩
 . have hb:aB 0=[]:=by decide +kernel
   simp_all
 simp_all
theorem Mv.le{F d:ack}{σ0 σ':aa}(h:Mv b mb F d σ σ')(a:σ0.Le σ):Mv b mb F d σ0 σ':=λc x e f g i=>h c x (a c x e) f g i
theorem yc(r:Lw prog m nn b 6 mb .u8 (kL f) Un Ld)(w:f.Good)(j:begun.length<1152921504606846976)(Y:SA m y (aH f begun) I E)(d:y.cells=[y]/\y.flat=true){F:ack}(z:Un σ)(k:I 0 F σ)
 (h:∀e σ',Mv b mb F e σ σ'->Un σ'->(I (aH f begun).length e σ'\/E e σ')->KF (.val (.cB [])) σ'):aA prog m 184 [y,.cp (lR b mb f 0) 0,.cp (ints begun) 0] σ KF:=by
 refine fs [] 3 Tryz.func184 rfl rfl (by rfl) (by kernel_rfl) ?_;simp[Tryz.f184,d.1,d.2];refine bR.intro λc4 A=>?_
 simp;refine bR.intro λcg l=>?_
 obtain⟨J,s,l⟩:=aa.aN l;simp;refine bR.intro λcp i=>?_
 obtain⟨B,C,i⟩:=aa.aN i;obtain⟨K,t,i⟩:=aa.aN i;simp[C,aa.ai];have a:σ.Le ((((σ.set c4 (.cells [u8 0,u8 0,u8 0,u8 0,u8 0,u8 0])).set cg (.cells [.lit .nilFunc])).set cp (.cells [bc (lR b mb f 0) c4 cg])).set cg (.cells [yb (lR b mb f 0) y begun cp])):=(by repeat (first|exact aa.le_refl _|assumption|refine aa.fj ?_ (by assumption)|refine aa.lD ?_ (by assumption)));have D:((((σ.set c4 (.cells [u8 0,u8 0,u8 0,u8 0,u8 0,u8 0])).set cg (.cells [.lit .nilFunc])).set cp (.cells [bc (lR b mb f 0) c4 cg])).set cg (.cells [yb (lR b mb f 0) y begun cp])) c4=some (.cells (([0,0,0,0,0,0]:acp).map u8)):=by simp[s,t,aa.ai]
 have G:((((σ.set c4 (.cells [u8 0,u8 0,u8 0,u8 0,u8 0,u8 0])).set cg (.cells [.lit .nilFunc])).set cp (.cells [bc (lR b mb f 0) c4 cg])).set cg (.cells [yb (lR b mb f 0) y begun cp])) cg=some (.cells [yb (lR b mb f 0) y begun cp]):=by simp
 have sp:((((σ.set c4 (.cells [u8 0,u8 0,u8 0,u8 0,u8 0,u8 0])).set cg (.cells [.lit .nilFunc])).set cp (.cells [bc (lR b mb f 0) c4 cg])).set cg (.cells [yb (lR b mb f 0) y begun cp])) cp=some (.cells [bc (lR b mb f 0) c4 cg]):=by simp[B,aa.ai]
 have g:∀c,σ c=none -> ¬F c:=λc u H=>by
  obtain⟨x,n,_⟩:=Y.N5 _ _ _ _ k H
  simp_all
 refine bZ.weaken (args':=[.sl 1 (([]:acp).map int) .any,int 0]) ?_ ⟨fQ 1,.refl _,trivial⟩;refine dZ Tryz.func189 rfl rfl rfl (Pl (y:=y) r w j Y d.1 f.aD.length [] 0 [0,0,0,0,0,0] .any F _ [] [] _ (by simp) (by omega) (YB f) ⟨D,G,sp,⟨g _ A,g _ l,g _ i⟩,⟨s,t⟩⟩ (r.un (λc _ ⟨x,v,_⟩=>by rw[v];exact a _ _ v) z) (by simp[aH]) (Y.frame _ _ _ _ (λc u=>by obtain⟨x,n,_⟩:=Y.N5 _ _ _ _ k u;rw[n];exact a _ _ n) k) ⟨λe σ' o p q=>?_,λe σ' o p q=>?_⟩)
 . refine rn ?_
   simp;refine .done (h e σ' (o.le a) p (.inl ?_));simpa[aH]using q
 . refine rn ?_
   simp;exact .done (h e σ' (o.le a) p (.inr q))
end
section
variable{b mb:Nat}{f:Fr}{Un:acu}{Ld:aa->abI->Prop}
theorem Pm(E:Lw prog m nn b 6 mb .u8 (kL f) Un Ld)(U:f.Good)(R:Un σ)(h:∀σ',Un σ'->o0 b mb σ σ'->KF (.val (bool (decide (aH f []≠[])))) σ'):aA prog m 201 [lR b mb f 0] σ KF:=by
 refine fs [] 1 Tryz.func201 rfl rfl (by rfl) (by kernel_rfl) ?_
 simp[Tryz.f201];refine bR.intro λd h3=>?_
 simp;have V:Wl [lR b mb f 0,AV.lit (.slice none 0 0)] [lR b mb f 0,ints []]:=.cons (.refl _) (.cons (fQ 1) .nil);refine cu Tryz.func159 rfl rfl V (BQ (begun:=[]) ?_);refine rn ?_;simp;refine ab.rangeFunc rfl λI r l J S o=>?_
 obtain⟨r1,W,J⟩:=aa.aN J;obtain⟨X,z,S⟩:=aa.aN S;generalize p:oU.mk _ _ _ _ _ _ _ _ _=G
 have Y:SA m (.fn (.yield l) [] []) (aH f []) (λk F σ'=>k=0/\(∀c,F c↔c=l\/c=d)/\σ' l=some (.loop G)/\σ' d=some (.cells [bool false])) (λF σ'=>aH f []≠[]/\(∀c,F c↔c=l\/c=d)/\σ' l=some (.loop {G with state:=.done,pending:=some (.exit 0)})/\σ' d=some (.cells [bool true])):=by
  refine⟨λk F σ' Z hk A hT hF=>?_,λk F K a he A=>?_,λF K a he A=>?_,λk F σ' c A v=>?_⟩
  . obtain⟨rfl,i,H,L⟩:=A
    have e3:∀x,(σ'.set l x) d=some (.cells [bool false]):=λx=>by rw[aa.ai _ _ z];exact L
    subst p;refine bZ.wX (hold:=[]) I Tryz.func201 H rfl ?_;refine rn ?_;simp[mX];refine ab.beginRound H rfl ?_;refine rn ?_;simp[e3];have M:aH f []≠[]:=λe=>by simp_all
    refine⟨rfl,rfl,_,((aa.ai _ _ X).trans (aa.ak _ _ _)),?_⟩;refine hF F _ (λc x v hx=>⟨?_,v⟩) ⟨M,i,aa.ak _ _ _,(aa.ai _ _ z).trans (aa.ak _ _ _)⟩
    have w:c≠l:=λe=>v ((i c).2 (.inl e))
    have B:c≠d:=λe=>v ((i c).2 (.inr e))
    exact(aa.ai _ _ w).trans ((aa.ai _ _ B).trans ((aa.ai _ _ w).trans hx))
  . simp_all
  . simp_all
  . obtain⟨rfl,i,H,L⟩:=A
    rcases(i c).1 v with rfl|rfl
    . exact⟨_,H,rfl⟩
    . exact⟨_,L,rfl⟩
 obtain⟨xb,a7,a8⟩:=E.Sv R;have nb:∀c,σ c=none->c≠b:=λc v e=>by simp_all
 have C:σ.Le (((σ.set d (.cells [bool false])).set r (.raw (.deferred (some [])))).set l (.loop G)):=(by repeat (first|exact aa.le_refl _|assumption|refine aa.fj ?_ (by assumption)|refine aa.lD ?_ (by assumption)))
 have sr:(((σ.set d (.cells [bool false])).set r (.raw (.deferred (some [])))).set l (.loop G)) r=some (.raw (.deferred (some []))):=by rw[aa.ai _ _ o,aa.ak]
 refine dZ Tryz.func184 rfl rfl rfl (yc (F:=λc=>c=l\/c=d) E U (by simp) Y ⟨rfl,rfl⟩ (E.un (λc _ ⟨x,j,_⟩=>(C _ _ j).trans j.symm) R) ⟨rfl,λc=>ZL,aa.ak _ _ _,(aa.ai _ _ z).trans ((aa.ai _ _ W).trans (aa.ak _ _ _))⟩ λF' σ' D N n=>?_)
 have q:=(D r _ sr (λe=>by omega) (nb r J) (.inr rfl)).1
 have s:o0 b mb σ σ':=λc x j y t=>(D c x (C c x j) (λe=>by grind) y t).1
 have O:∀a,a=(σ'.del l).set r (.raw (.deferred none))->Un a/\o0 b mb σ a:=λa e=>by
  subst e;refine⟨E.un (σ:=σ') (λc _ ⟨x,j,y⟩=>?_) N,λc x j y t=>?_⟩
  . have w:c≠r:=λe=>by subst e;rw[q]at j;cases j;cases y
    have B:c≠l:=λe=>by
     subst e
     rcases n with⟨_,_,g,_⟩|⟨_,_,g,_⟩<;>rw[g]at j<;>cases j<;>cases y
    rw[aa.ai _ _ w];simp[aa.del,B]
  . have w:c≠r:=λe=>by simp_all
    have B:c≠l:=λe=>by simp_all
    rw[aa.ai _ _ w];simp only[aa.del,B,if_false];exact s c x j y t
 rcases n with⟨T,_,P,q2⟩|⟨T,_,P,q2⟩
 . have Q:decide (aH f []≠[])=false:=by simp_all
   rw[Q]at h;subst p;refine⟨_,P,by simp,rfl,?_⟩
   have u:(σ'.del l) d=some (.cells [bool false]):=by simp only[aa.del,z,if_false];omega
   refine rn ?_;simp[u];refine⟨by simp only[aa.del,o,if_false];exact q,.done ?_⟩
   simp_all
 . have Q:decide (aH f []≠[])=true:=by simp[T]
   rw[Q]at h;subst p;refine⟨_,P,by simp,rfl,?_⟩
   have u:(σ'.del l) d=some (.cells [bool true]):=by simp only[aa.del,z,if_false];omega
   refine rn ?_;simp[u];refine⟨by simp only[aa.del,o,if_false];exact q,.done ?_⟩
   simp_all
end

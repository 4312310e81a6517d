import Derived.Test.YtebcbkhnlnkolaaGreatDoorC16
set_option linter.all false
set_option maxHeartbeats 1000000
set_option maxRecDepth 100000
namespace Go.Proofs.YtebcbkhnlnkolaaGreatDoor
open Go.Proofs.Tryz (prog)
section
open Go Go.cE
abbrev nn:C7:=⟨104,105,142,143,174,176,130,131,144,129,173,175,190,191,193,194,196,270,222,21⟩
theorem Mx:∀(a:Fl) b o kind,aQ prog a [0,5] (LD prog nn b o kind) un=some (uG prog nn b o kind):=by intro a b o kind;kernel_rfl
theorem My:∀(a:Fl) b o kind,aQ prog a [0] (uG prog nn b o kind) tt=some (QL prog nn b o kind):=by intro a b o kind;kernel_rfl
theorem Mz:∀(a:Fl) b o kind,aQ prog a [0,2,3,4,5,12] (uG prog nn b o kind) ff=some (V7 prog nn b o kind):=by intro a b o kind;kernel_rfl
theorem MA:∀(a:Fl) b o kind,aQ prog a [8] (QL prog nn b o kind) un=some (Tg prog nn b o kind):=by intro a b o kind;kernel_rfl
theorem MB:∀(a:Fl) b o kind,aQ prog a [9] (Tg prog nn b o kind) (pt b o)=some (QM prog nn b o kind):=by intro a b o kind;kernel_rfl
theorem MC:∀(a:Fl) b o kind,aQ prog a [] (QM prog nn b o kind) un=some (BK nn kind):=by intro a b o kind;kernel_rfl
theorem Je:∀(a:Fl) b o kind L K S aw sv it,pY prog a [0,2,3,4,5,6] (RI prog nn b o kind aw sv it) (.word L K S 0)=some (HD prog nn b o kind L K S aw sv it):=by intro a b o kind L K S aw sv it;kernel_rfl
theorem Jf:∀(a:Fl) b o kind L K S aw sv it,pY prog a [0,2,3,4,5,6] (Hf prog nn b o kind aw sv it) (.word L K S 0)=some (HD prog nn b o kind L K S aw sv it):=by intro a b o kind L K S aw sv it;kernel_rfl
theorem Jg:∀(a:Fl) b o kind L K S aw sv it,pY prog a [0,2,3,4,5,6] (RJ prog nn b o kind aw sv it) (.word L K S 0)=some (HD prog nn b o kind L K S aw sv it):=by intro a b o kind L K S aw sv it;kernel_rfl
theorem MD:∀(a:Fl) b o kind K aw sv it,Uc prog a [0,2,3,4,5,6,17,18] (HD prog nn b o kind true K false aw sv it)=SQ prog nn b o kind K aw sv it:=by intro a b o kind K aw sv it;cases K<;>cases aw<;>cases sv<;>kernel_rfl
theorem ME:∀(a:Fl) b o kind L K S aw sv it,(L && !S)=false->(aw && !K)=false->Uc prog a [0,2,3,4,5,6,77,78,79] (HD prog nn b o kind L K S aw sv it)=C9 prog nn b o kind L K S aw sv it:=by intro a b o kind L K S aw sv it c d;cases L<;>cases K<;>cases S<;>cases aw<;>cases sv<;>first|exact absurd c (by decide)|exact absurd d (by decide)|kernel_rfl
theorem Jh:∀(a:Fl) b o kind it,aQ prog {a with n0:=false} [0,2,3,4,5,33,36,37,39] (SQ prog nn b o kind false false false it) tt=some (SW prog nn b o kind it):=by intro a b o kind it;kernel_rfl
theorem Gh:∀(a:Fl) b o kind n0 K aw sv it,(!aw && !K && !n0)=false->aQ prog {a with n0:=n0} [0,2,3,4,5] (SQ prog nn b o kind K aw sv it) tt=some (DS prog nn b o kind aw sv it):=by intro a b o kind n0 K aw sv it h;cases n0<;>cases K<;>cases aw<;>cases sv<;>first|exact absurd h (by decide)|kernel_rfl
theorem Ji:∀(a:Fl) b o kind K aw sv it,(aw && !K)=false->aQ prog a [0,2,3,4,5,6,77,78,79] (SQ prog nn b o kind K aw sv it) ff=some (C9 prog nn b o kind true K false aw sv it):=by intro a b o kind K aw sv it h;cases K<;>cases aw<;>cases sv<;>first|exact absurd h (by decide)|kernel_rfl
theorem Jj:∀(a:Fl) b o kind r it,aQ prog a [0,2,3,4,5] (SW prog nn b o kind it) (bl r)=some (DS prog nn b o kind r false it):=by intro a b o kind r it;cases r<;>kernel_rfl
theorem Gi:∀(a:Fl) b o kind aw sv,aQ prog a [0,2,3,4,5,47] (DS prog nn b o kind aw sv 0) un=some (Hf prog nn b o kind aw sv 1):=by intro a b o kind aw sv;kernel_rfl
theorem Gj:∀(a:Fl) b o kind aw sv,aQ prog a [0,2,3,4,5,47] (DS prog nn b o kind aw sv 1) un=some (Hf prog nn b o kind aw sv 2):=by intro a b o kind aw sv;kernel_rfl
theorem Gk:∀(a:Fl) b o kind aw sv,aQ prog a [0,2,3,4,5,47] (DS prog nn b o kind aw sv 2) un=some (Hf prog nn b o kind aw sv 3):=by intro a b o kind aw sv;kernel_rfl
theorem Gl:∀(a:Fl) b o kind aw sv,aQ prog a [0,2,3,4,5,47] (DS prog nn b o kind aw sv 3) un=some (Hf prog nn b o kind aw sv 4):=by intro a b o kind aw sv;kernel_rfl
theorem Jk:∀(a:Fl) b o kind K aw sv it,aQ prog a [0] (C9 prog nn b o kind false K false aw sv it) tt=some (OK prog nn b o kind):=by intro a b o kind K aw sv it;cases K<;>kernel_rfl
theorem Gm:∀(a:Fl) b o kind L K S aw sv it,(L||S)=true->aQ prog {a with wz:=true} [0,3] (C9 prog nn b o kind L K S aw sv it) tt=some (T1 prog nn b o kind sv):=by intro a b o kind L K S aw sv it h;cases L<;>cases K<;>cases S<;>first|exact absurd h (by decide)|kernel_rfl
theorem Gn:∀(a:Fl) b o kind L K S aw sv it,(L||S)=true->aQ prog {a with wz:=false} [0,2,3,91] (C9 prog nn b o kind L K S aw sv it) tt=some (PK prog nn b o kind sv):=by intro a b o kind L K S aw sv it h;cases L<;>cases K<;>cases S<;>first|exact absurd h (by decide)|kernel_rfl
theorem Jl:∀(a:Fl) b o kind L K S aw sv it,aQ prog a [0,2,3,4,5,133] (C9 prog nn b o kind L K S aw sv it) ff=some (RJ prog nn b o kind aw sv it):=by intro a b o kind L K S aw sv it;kernel_rfl
theorem Jm:∀(a:Fl) b o kind sv,aQ prog a [0,2,3,91] (T1 prog nn b o kind sv) .Is=some (PK prog nn b o kind sv):=by intro a b o kind sv;kernel_rfl
theorem Gp:∀(a:Fl) b o kind,aQ prog a [0,2,3,103] (PK prog nn b o kind true) un=some (UP prog nn b o kind true):=by intro a b o kind;kernel_rfl
theorem Gq:∀(a:Fl) b o kind,aQ prog a [0,2,95] (PK prog nn b o kind false) un=some (TQ prog nn b o kind):=by intro a b o kind;kernel_rfl
theorem Jn:∀(a:Fl) b o kind x,aQ prog {a with tb:=x} [0,2,3,103] (TQ prog nn b o kind) .now=some (UP prog nn b o kind x):=by intro a b o kind x;cases x<;>kernel_rfl
theorem Jo:∀(a:Fl) b o kind sv n1,aQ prog {a with n0:=false,n1:=n1} [0,128,129] (UP prog nn b o kind sv) (.word false false true 0)=some (AD prog nn b o kind (if !sv||n1 then -11 else -7)):=by intro a b o kind sv n1;cases sv<;>cases n1<;>kernel_rfl
theorem Jp:∀(a:Fl) b o kind L K sv,pY prog a [0,2,3,4,5,6] (UP prog nn b o kind sv) (.word L K false 0)=some (HD prog nn b o kind L K false true sv 0):=by intro a b o kind L K sv;cases L<;>cases K<;>kernel_rfl
theorem Jq:∀(a:Fl) b o kind d,aQ prog a [0] (AD prog nn b o kind d) .cC=some (OK prog nn b o kind):=by intro a b o kind d;kernel_rfl
theorem Jr:∀(a:Fl) b o kind,aQ prog a [136] (OK prog nn b o kind) un=some (Ti prog nn b o kind):=by intro a b o kind;kernel_rfl
theorem Js:∀(a:Fl) b o kind,aQ prog a [137] (Ti prog nn b o kind) (pt b o)=some (QO prog nn b o kind):=by intro a b o kind;kernel_rfl
theorem Jt:∀(a:Fl) b o kind,aQ prog a [] (QO prog nn b o kind) un=some (BK nn kind):=by intro a b o kind;kernel_rfl
theorem MF:∀(a:Fl) b o kind,aQ prog a [0,7] (U0 prog nn b o kind) .cC=some (Tj prog nn b o kind):=by intro a b o kind;kernel_rfl
theorem MG:∀(a:Fl) b o kind,aQ prog a [0,8] (Tj prog nn b o kind) (pt b o)=some (UR prog nn b o kind):=by intro a b o kind;kernel_rfl
theorem MH:∀(a:Fl) b o kind,aQ prog a [0] (UR prog nn b o kind) un=some (UD prog nn b o kind):=by intro a b o kind;kernel_rfl
theorem MI:∀(a:Fl) b o kind,aQ prog a [0,13] (UD prog nn b o kind) un=some (r6 prog nn b o kind):=by intro a b o kind;kernel_rfl
theorem MJ:∀(a:Fl) b o kind n0 K,(n0||K)=true->aQ prog {a with n0:=n0} [] (r6 prog nn b o kind) (.word false K false 0)=some (UE prog nn b o kind):=by intro a b o kind n0 K h;cases n0<;>cases K<;>first|exact absurd h (by decide)|kernel_rfl
theorem Ju:∀(a:Fl) b o kind n0 K,aQ prog {a with n0:=n0} [41] (r6 prog nn b o kind) (.word false K true 0)=some (G9 prog nn b o kind):=by intro a b o kind n0 K;cases n0<;>cases K<;>kernel_rfl
theorem Jv:∀(a:Fl) b o kind,aQ prog {a with n0:=false} [0,27,28,29] (r6 prog nn b o kind) (.word false false false 0)=some (UC prog nn b o kind):=by intro a b o kind;kernel_rfl
theorem Jw:∀(a:Fl) b o kind,aQ prog a [33] (UC prog nn b o kind) tt=some (G7 prog nn b o kind):=by intro a b o kind;kernel_rfl
theorem Jx:∀(a:Fl) b o kind,aQ prog a [0,37] (UC prog nn b o kind) ff=some (OL prog nn b o kind):=by intro a b o kind;kernel_rfl
theorem MK:∀(a:Fl) b o kind n0 L K S,(n0||L||K||S)=true->aQ prog {a with n0:=n0} [] (OL prog nn b o kind) (.word L K S 0)=some (UE prog nn b o kind):=by intro a b o kind n0 L K S h;cases n0<;>cases L<;>cases K<;>cases S<;>first|exact absurd h (by decide)|kernel_rfl
theorem Jy:∀(a:Fl) b o kind,aQ prog {a with n0:=false} [0,27,28,29] (OL prog nn b o kind) (.word false false false 0)=some (UC prog nn b o kind):=by intro a b o kind;kernel_rfl
theorem ML:∀(a:Fl) b o kind,aQ prog a [] (G7 prog nn b o kind) un=some (UE prog nn b o kind):=by intro a b o kind;kernel_rfl
theorem MM:∀(a:Fl) b o kind,aQ prog a [] (G9 prog nn b o kind) un=some (UE prog nn b o kind):=by intro a b o kind;kernel_rfl
theorem Jz:∀(a:Fl) b o kind,aQ prog a [] (UE prog nn b o kind) un=some (Uk nn kind):=by intro a b o kind;kernel_rfl
theorem MN:∀b o kind,bc (LD prog nn b o kind).1=some (nn.jv,[])/\(LD prog nn b o kind).1.kind=.normal:=by intro b o kind;exact⟨by kernel_rfl,by kernel_rfl⟩
theorem MO:∀b o kind,bc (uG prog nn b o kind).1=some (nn.kB,[pt b o,i32 0,i32 1]):=by intro b o kind;kernel_rfl
theorem MP:∀b o kind,bc (QL prog nn b o kind).1=some (nn.en,[]):=by intro b o kind;kernel_rfl
theorem MQ:∀b o kind,kG (Tg prog nn b o kind).1=some (nn.tM,nn.tU,pt b o):=by intro b o kind;kernel_rfl
theorem MR:∀b o kind,bc (QM prog nn b o kind).1=some (nn.acq,[pt b o]):=by intro b o kind;kernel_rfl
theorem JA:∀b o kind aw sv it,rl (RI prog nn b o kind aw sv it).1=some (nn.tI,pt b o):=by intro b o kind aw sv it;kernel_rfl
theorem JB:∀b o kind aw sv it,rl (Hf prog nn b o kind aw sv it).1=some (nn.tI,pt b o):=by intro b o kind aw sv it;kernel_rfl
theorem JC:∀b o kind aw sv it,rl (RJ prog nn b o kind aw sv it).1=some (nn.tI,pt b o):=by intro b o kind aw sv it;kernel_rfl
theorem MT:∀b o kind K aw sv it,bc (SQ prog nn b o kind K aw sv it).1=some (nn.Iu,[i64 it]):=by intro b o kind K aw sv it;kernel_rfl
theorem MU:∀b o kind it,bc (SW prog nn b o kind it).1=some (nn.kB,[pt b o,.word true false false 0,.word true true false 0]):=by intro b o kind it;kernel_rfl
theorem MV:∀b o kind aw sv it,bc (DS prog nn b o kind aw sv it).1=some (nn.uF,[]):=by intro b o kind aw sv it;kernel_rfl
theorem JD:∀b o kind L K S aw sv it,bc (C9 prog nn b o kind L K S aw sv it).1=some (nn.kB,[pt b o,.word L K S 0,Pb L K S aw sv]):=by intro b o kind L K S aw sv it;kernel_rfl
theorem JE:∀b o kind sv,bc (T1 prog nn b o kind sv).1=some (nn.nano,[]):=by intro b o kind sv;kernel_rfl
theorem JF:∀b o kind sv,bc (PK prog nn b o kind sv).1=some (nn.Fu,[pt b (o+1),.cC,i64 2]):=by intro b o kind sv;kernel_rfl
theorem JG:∀b o kind,bc (TQ prog nn b o kind).1=some (nn.nano,[]):=by intro b o kind;kernel_rfl
theorem JH:∀b o kind sv,rl (UP prog nn b o kind sv).1=some (nn.tI,pt b o):=by intro b o kind sv;kernel_rfl
theorem JI:∀b o kind d,bc (AD prog nn b o kind d).1=some (nn.add,[pt b o,i32 d]):=by intro b o kind d;kernel_rfl
theorem JJ:∀b o kind,bc (OK prog nn b o kind).1=some (nn.en,[]):=by intro b o kind;kernel_rfl
theorem JK:∀b o kind,kG (Ti prog nn b o kind).1=some (nn.tM,nn.tU,pt b o):=by intro b o kind;kernel_rfl
theorem JL:∀b o kind,bc (QO prog nn b o kind).1=some (nn.acq,[pt b o]):=by intro b o kind;kernel_rfl
theorem JM:∀b o kind,rl (U0 prog nn b o kind).1=some (nn.tI,pt b o)/\(U0 prog nn b o kind).1.kind=.normal/\(U0 prog nn b o kind).1.fn=nn.wv:=by intro b o kind;exact⟨by kernel_rfl,by kernel_rfl,by kernel_rfl⟩
theorem JN:∀b o kind,kG (Tj prog nn b o kind).1=some (nn.tM,nn.tU,pt b o):=by intro b o kind;kernel_rfl
theorem JO:∀b o kind,bc (UR prog nn b o kind).1=some (nn.rel,[pt b o]):=by intro b o kind;kernel_rfl
theorem JP:∀b o kind,bc (UD prog nn b o kind).1=some (nn.jv,[]):=by intro b o kind;kernel_rfl
theorem JQ:∀b o kind,bc (r6 prog nn b o kind).1=some (nn.add,[pt b o,i32 (-1)]):=by intro b o kind;kernel_rfl
theorem JR:∀b o kind,bc (UC prog nn b o kind).1=some (nn.kB,[pt b o,wf,.word false true false (-1)]):=by intro b o kind;kernel_rfl
theorem JS:∀b o kind,bc (G7 prog nn b o kind).1=some (nn.oC,[pt b (o+1),ff,i64 2]):=by intro b o kind;kernel_rfl
theorem JU:∀b o kind,bc (G9 prog nn b o kind).1=some (nn.oC,[pt b (o+1),tt,i64 2]):=by intro b o kind;kernel_rfl
theorem JV:∀b o kind,rl (OL prog nn b o kind).1=some (nn.tI,pt b o):=by intro b o kind;kernel_rfl
theorem JW:∀b o kind,bc (UE prog nn b o kind).1=some (nn.en,[]):=by intro b o kind;kernel_rfl
theorem MX:∀b o kind,(Uh prog nn b o kind).all (·.env.all plain)=true/\(LD prog nn b o kind).1.env.all plain=true/\(LD prog nn b o kind).2=Uh prog nn b o kind:=by intro b o kind;exact⟨by kernel_rfl,by kernel_rfl,by kernel_rfl⟩
theorem MY:∀b o kind,(V6 prog nn b o kind).all (·.env.all plain)=true:=by intro b o kind;kernel_rfl
theorem MZ:∀b o kind,(Uj prog nn b o kind).all (·.env.all plain)=true/\(U0 prog nn b o kind).1.env.all plain=true/\(U0 prog nn b o kind).2=Uj prog nn b o kind:=by intro b o kind;exact⟨by kernel_rfl,by kernel_rfl,by kernel_rfl⟩
theorem M0:∀b o kind,(Ww prog nn b o kind).all (·.env.all plain)=true:=by intro b o kind;kernel_rfl
theorem Ax:gq prog nn where
 e1:=Mx
 e2:=My
 e3:=Mz
 e4:=MA
 e5:=MB
 e6:=MC
 XK:=Je
 RK:=Jf
 XL:=Jg
 e8:=MD
 e9:=ME
 aZ:=Jh
 Ul:=Gh
 bd:=Ji
 bs:=Jj
 Fw:=Gi
 Fx:=Gj
 Um:=Gk
 Uo:=Gl
 iO:=Jk
 Up:=Gm
 Uq:=Gn
 Bz:=Jl
 xC:=Jm
 Ur:=Gp
 Us:=Gq
 ui:=Jn
 Pd:=Jo
 zk:=Jp
 wx:=Jq
 wy:=Jr
 Ku:=Js
 wA:=Jt
 u1:=MF
 u2:=MG
 u3:=MH
 u4:=MI
 u5:=MJ
 XN:=Ju
 XO:=Jv
 XP:=Jw
 XQ:=Jx
 u7:=MK
 XR:=Jy
 u8:=ML
 u9:=MM
 XS:=Jz
 o1:=MN
 o2:=MO
 o3:=MP
 o4:=MQ
 o5:=MR
 XT:=JA
 XU:=JB
 XV:=JC
 o7:=MT
 o8:=MU
 o9:=MV
 Wx:=JD
 XW:=JE
 Wy:=JF
 XX:=JG
 XY:=JH
 XZ:=JI
 X1:=JJ
 X2:=JK
 X3:=JL
 Wz:=JM
 X4:=JN
 X5:=JO
 X6:=JP
 WG:=JQ
 WH:=JR
 WI:=JS
 WJ:=JU
 X7:=JV
 X8:=JW
 p1:=MX
 p2:=MY
 p3:=MZ
 p4:=M0
theorem Ay:gu prog nn where
 jv:=⟨_,rfl,rfl,rfl,rfl,rfl⟩
 en:=⟨_,rfl,rfl,rfl,rfl,rfl⟩
 acq:=⟨_,rfl,rfl,rfl,rfl,rfl⟩
 rel:=⟨_,rfl,rfl,rfl,rfl,rfl⟩
 kB:=⟨_,rfl,rfl,rfl,rfl,rfl⟩
 add:=⟨_,rfl,rfl,rfl,rfl,rfl⟩
 Iu:=⟨_,rfl,rfl,rfl,rfl,rfl⟩
 uF:=⟨_,rfl,rfl,rfl,rfl,rfl⟩
 nano:=⟨_,rfl,rfl,rfl,rfl,rfl⟩
 Lj:=⟨_,rfl,rfl⟩
 Fu:=⟨_,rfl,rfl,rfl,rfl,rfl⟩
 oC:=⟨_,rfl,rfl,rfl,rfl,rfl⟩
 Ut:=by kernel_rfl
 X9:=⟨_,rfl,rfl,rfl⟩
 nS:=⟨_,rfl,rfl⟩
 nU:=⟨_,rfl,rfl⟩
 nV:=⟨_,rfl,rfl⟩
end
section
open Go.cE Go.Conc
set_option maxRecDepth 4000
variable{m:Mo}{σ:af}{KF:acJ}
def jN(f:Fr)(x:Int):Bool:=decide (jD f (aB x)=0)
def kR(f:Fr)(l:acE):Prop:=∀n a,Hb l n=some a->a=bool (jN f n)
theorem VI:KY prog 244 248 4 5 .u8:=.of (by kernel_rfl) (by kernel_rfl) (by kernel_rfl) (by kernel_rfl)
theorem P5  f   l :jD f l=0\/jD f l=1\/jD f l=2\/jD f l=3:=by unfold jD;omega
theorem Ee{f l}(h:jD f l≠0):∃d a,VH (jD f l)=.lE d a:=by
 rcases P5 f l with e|e|e|e
 . omega
 all_goals rw[e];exact⟨_,_,rfl⟩
theorem JX{f l x n a}(b:kR f l)(h:Hb (l++[(x,bool (jN f x))]) n=some a):a=bool (jN f n):=by
 unfold Hb dq at h;rw[List.find?_append]at h;cases e:l.find? (λp=>n==p.1)with
 |some p=>rw[e]at h;simp only[Option.some_or,aaJ,kn]at h;subst h;exact b n p.2 (by unfold Hb dq;rw[e];rfl)
 |none=>grind
theorem Se{b mb f x Un Ld}(j:Mg prog m nn b 6 mb .u8 (kR f) Un Ld)(E:f.Good)(F:OQ f (aB x))(p:(aB x).length<20)(G:Un σ)(h:∀σ',Un σ'->pw b mb σ σ'->KF (.val (bool (jN f x))) σ'):aA prog m 159 [kQ b mb f 0,yr x] σ KF:=by
 refine fs Vw Tryz.func159 rfl (by kernel_rfl) ?_;simp[Tryz.f159];refine cf Tryz.func104 rfl (j.lock (qT _ _ _ _) G λH l o q r A=>?_);apply rn;simp;refine aa.defer rfl rfl rfl rfl (by simp) rfl ?_;apply rn;simp;refine xu lay (VI.key lay Yl rfl) rfl ZH rfl rfl (j.map o) ?_;apply pg;simp
 have i:∀(env:Env) (g:af) s,env 4=bool (jN f x)->Ld g s->kR f s->(∀c,c≠b->c≠mb->g c=σ c)->rv prog m (.func 105) [] [AV.kp b [jC f.aD,rows f.roads,int f.aU,int f.eT,int f.cP,int f.aR,.lit (.int .i32 0),.lit (.int .u32 0),.map mb] [6,7] 6] .ret g (λt σ'=>Ks lay m [ResultVar.tmp 4] env (nD KF) [] t σ'):=λenv g s I u v J=>by
  refine rv.func Tryz.func105 rfl rfl (j.unlock (qT _ _ _ _) u v λw z K=>?_);refine⟨[env 4],rfl,.done ?_⟩;rw[show oneOf [env 4]=env 4 from rfl,I];refine h w z λc y O L B=>?_
  grind
 cases k:dq l x with
 |some a=>have M:=q x a k;subst M;simp;apply rn;simp;exact i _ _ _ (by simp) o q r
 | none=>
   simp;apply rn;simp;refine cf Tryz.func186 rfl (Mr ?_);apply rn;simp;refine cf Tryz.func126 rfl (Mw E F p ?_);apply rn;simp;have C:decide (jD f (aB x)=0)=jN f x:=rfl;refine dT lay rfl Q6 rfl (isNil:=jN f x) ?_ (.inl ⟨rfl,rfl⟩) ?_
   . by_cases D:jD f (aB x)=0
     . left
       refine⟨?_,by simp_all⟩;simp[D];rfl
     . right
       obtain⟨d,a,e⟩:=Ee D
       simp_all
   apply rn;simp;refine rA (VI.key lay Yl rfl) rfl rfl rfl rfl (j.map o) k ?_;apply pg;simp;apply rn;simp;refine i _ _ _ (by simp) (j.put o) (λn a N=>?_) (λc L B=>by rw[af.ai _ _ B];simp_all);exact JX q (by simpa using N)
def fW(f:Fr)(begun:acX):Nat->acX->Int->acX->acD
 |0,way,_,_=>[way]
 | fuel+1,way,many,a=>(List.range (min (many+1) f.aR).toNat).flatMap λk:Nat=>
    if way.length<begun.length/\begun.getD way.length 0≠(k:Int)then[]
    else if jN f (bV (a.getD k 0) way.length)=true then fW f begun fuel (way++[(k:Int)]) (max many ((k:Int)+1)) (a.set k (bV (a.getD k 0) way.length))else[]
def aI(f:Fr)(begun:acX):acD:=fW f begun f.aD.length [] 0 [0,0,0,0,0,0]
def Mv(b mb:Nat)(F a:acT)(σ σ':af):Prop:=∀c x,σ c=some x -> ¬F c->c≠b->(c≠mb\/x.plain=true)->σ' c=some x/\¬a c
theorem Mv.refl  b mb   F   σ :Mv b mb F F σ σ:=λ_ _ h a _ _=>⟨h,a⟩
theorem Mv.trans{b mb F g d σ σ' a}(h:Mv b mb F g σ σ')(k:Mv b mb g d σ' a):Mv b mb F d σ a:=λc x i j e f=>k c x (h c x i j e f).1 (h c x i j e f).2 e f
structure Tx  m   y  (W:acD) (I:Nat->acT->ada) (E:acT->ada):Prop where
 step:∀  k   F   σ   KF   hk ,I k F σ->(∀F' σ',G8 F F' σ σ'->I (k+1) F' σ'->KF (.val (bool true)) σ')->(∀F' σ',G8 F F' σ σ'->E F' σ'->KF (.val (bool false)) σ')->bK prog m y [ints W[k]] σ KF
 frame:∀  k   F   σ σ' ,(∀c,F c->σ' c=σ c)->I k F σ->I k F σ'
 Sf:∀  F   σ σ' ,(∀c,F c->σ' c=σ c)->E F σ->E F σ'
 OP:∀  k   F   σ   c ,I k F σ->F c->∃x,σ c=some x/\x.plain=true
theorem Ef{b mb F a σ σ'}(h:G8 F a σ σ'):Mv b mb F a σ σ':=λc x d e _ _=>h c x e d
theorem qk{b mb GI Un Ld}(a:Mg prog m nn b 6 mb .u8 GI Un Ld){d y}(f:Un σ)(hd:∀x,σ d=some x->x.plain=true):Un (σ.set d y):=a.un (λc _ ⟨x,g,h⟩=>af.ai _ _ (λe=>by simp_all)) f
theorem ys{b mb GI Un Ld}(e:Mg prog m nn b 6 mb .u8 GI Un Ld){F f σ'}(g:Un σ)(h:G8 F f σ σ')(hd:∀c,F c->∃x,σ c=some x/\x.plain=true):Un σ':=
 e.un (λc _ ⟨x,a,i⟩=>by
  have d:¬F c:=λd=>by grind
  rw[(h c x d a).1,a]) g
abbrev yt(a y:AV)(begun:acX)(cp:Nat):AV:=.fn (.func 160) [] [.cp a 0,.cp y 0,.cp (ints begun) 0,.ref cp 0]
abbrev bg(a:AV)(c4 cg:Nat):AV:=.fn (.func 156) [] [.ref c4 0,.cp a 0,.ref cg 0]
structure WS  b mb   f   y   begun   c4 cg cp  (hs:acX) (F:acT) (σ:af):Prop where
 arr:σ c4=some (.cells (hs.map u8))
 VJ:σ cg=some (.cells [yt (kQ b mb f 0) y begun cp])
 pt:σ cp=some (.cells [bg (kQ b mb f 0) c4 cg])
 out:¬F c4/\¬F cg/\¬F cp
 ne:c4≠cg/\c4≠cp
theorem WS.mv{b mb f y begun c4 cg cp d F g σ σ'}(h:WS b mb f y begun c4 cg cp d F σ)(hb:∃x,σ b=some x/\x.plain=false)(a:Mv b mb F g σ σ'):WS b mb f y begun c4 cg cp d g σ':=by
 obtain⟨x,j,k⟩:=hb;have ne:∀c l,σ c=some (.cells l)->c≠b:=λc l i e=>by subst e;rw[j]at i;cases i;cases k
 obtain⟨m,n⟩:=a c4 _ h.arr h.out.1 (ne _ _ h.arr) (.inr rfl);obtain⟨o,p⟩:=a cg _ h.VJ h.out.2.1 (ne _ _ h.VJ) (.inr rfl);obtain⟨q,r⟩:=a cp _ h.pt h.out.2.2 (ne _ _ h.pt) (.inr rfl);exact⟨m,o,q,⟨n,p,r⟩,h.ne⟩
structure Hs(f:Fr)(n:Nat)(hs:acX):Prop where
 px:hs.length=6
 bits:∀x∈hs,∀e∈aB x,e<n
 small:∀x∈hs,0<=x/\x<64
section
variable{b mb:Nat}{f:Fr}{begun:acX}{y:AV}{W:acD}{I:Nat->acT->ada}{E:acT->ada}{Un:ada}{Ld:af->acE->Prop}{c4 cg cp:Nat}
def Q'(b mb:Nat)(Un:ada)(I:Nat->acT->ada)(E:acT->ada)(a n:Nat)(F:acT)(σ:af)(KF:acJ):Prop:=(∀d c,Mv b mb F d σ c->Un c->I (a+n) d c->KF (.val (bool true)) c)/\(∀d c,Mv b mb F d σ c->Un c->E d c->KF (.val (bool false)) c)
def M3(m:Mo)(b mb:Nat)(f:Fr)(begun:acX)(y:AV)(W:acD)(I:Nat->acT->ada)(E:acT->ada)(Un:ada)(c4 cg cp:Nat)(fuel:Nat):Prop:=
 ∀ (way:acX) (many:Int) (a:acX) (sp:nz) (F:acT) (σ:af) (pre post:acD) (KF:acJ),way.length+fuel=f.aD.length->0<=many/\many<=6->Hs f way.length a->WS b mb f y begun c4 cg cp a F σ->Un σ ->
   W=pre++fW f begun fuel way many a++post->I pre.length F σ->Q' b mb Un I E pre.length (fW f begun fuel way many a).length F σ KF ->
   aA prog m 160 [.sl 1 (way.map int) sp,int many,.cp (kQ b mb f 0) 0,.cp y 0,.cp (ints begun) 0,.ref cp 0] σ KF
theorem P6:∀x:Fin 64,∀n:Fin 6,(0<=bV (x.val:Int) (n.val:Int)/\bV (x.val:Int) (n.val:Int)<64)/\(∀e∈aB (bV (x.val:Int) (n.val:Int)),e=(n.val:Int)\/e∈aB (x.val:Int))/\(n.val:Int)∈aB (bV (x.val:Int) (n.val:Int)):=by decide +kernel
theorem Gr{x}{n:Nat}(b:0<=x/\x<64)(a:n<6):(0<=bV x n/\bV x n<64)/\(∀e∈aB (bV x n),e=(n:Int)\/e∈aB x)/\(n:Int)∈aB (bV x n):=by
 have:=P6 ⟨x.toNat,by omega⟩ ⟨n,a⟩
 grind
theorem M4{x e}(h:e∈aB x):0<=e/\e<6:=by
 unfold aB at h
 grind
theorem l8  x :(aB x).length<20:=by
 unfold aB
 grind
theorem Hs.set{n b}(h:Hs f n b)(d:n<6){k}  c :Hs f (n+1) (b.set k (bV b[k] n)):=by
 have g:=Gr (h.small _ (zD c)) d;refine⟨by rw[abH];exact h.px,λx a e he=>?_,λx a=>?_⟩
 . rcases abF a with a|rfl
   . have:=h.bits x a e he;omega
   . rcases g.2.1 e he with rfl|he
     . omega
     . have:=h.bits _ (zD c) e he;omega
 . rcases abF a with a|rfl
   . exact h.small x a
   omega
theorem Hs.vD{n a}(h:Hs f n a)(d:n<f.aD.length)(g:f.aD.length<=6){k}(b:k<a.length):OQ f (aB (bV a[k] n)):=by
 have c:=Gr (h.small _ (zD b)) (n:=n) (by omega);refine⟨λe he=>⟨(M4 he).1,?_⟩,λq=>?_,by have:=l8 (bV a[k] n);omega⟩
 . rcases c.2.1 e he with rfl|he
   . omega
   . have:=h.bits _ (zD b) e he;omega
 simp_all
theorem P7{d k x}{l:acX}(i:k<6)(c:l.length=6)(hd:σ d=some (.cells [u8 x]))(e:σ c4=some (.cells (l.map u8)))(h:KF (.val (.cq [])) (σ.set c4 (.cells ((l.set k x).map u8)))):aA prog m 157 [.ref d 0,.ref c4 0,.cp (int k) 0] σ KF:=by
 have a:(k:Int)<6:=by omega
 have b:k<=5:=by omega
 have g:k<l.length:=by omega
 refine fs [] Tryz.func157 rfl (by kernel_rfl) ?_;simp[Tryz.f157,hd,e,a,c,b];rw[Fj (by simp_all),<-List.map_set (f:=u8)];exact .done h
theorem Sg(N : Mg prog m nn b 6 mb .u8 (kR f) Un Ld)(hf:f.Good)(cv:begun.length<1152921504606846976)(Y:Tx m y W I E){fuel}(hG:M3 m b mb f begun y W I E Un c4 cg cp fuel){way many k n sp F pre post}(hlen:way.length+(fuel+1)=f.aD.length)(b2:0<=many/\many<=6)(hk:k<6)
 (hh:Hs f way.length n) (w:WS b mb f y begun c4 cg cp n F σ) (hu:Un σ){L}(U:L=if jN f (bV (n.getD k 0) way.length)=true then fW f begun fuel (way++[(k:Int)]) (max many ((k:Int)+1)) (n.set k (bV (n.getD k 0) way.length))else[]) (hW:W=pre++L++post)
 (hI:I pre.length F σ) (hR:Q' b mb Un I E pre.length L.length F σ KF):aA prog m 156 [.sl 1 (way.map int) sp,int many,int k,.ref c4 0,.cp (kQ b mb f 0) 0,.ref cg 0] σ KF:=by
 have h6:=hf.px;have V:k<n.length:=by rw[hh.px];exact hk
 have b3:n.getD k 0=n[k]:=by simp_all
 rw[b3]at U;have X:(k:Int)<6:=by omega
 have s:=w.arr;have al:=hh.px;have Z:k<=5:=by omega
 have e1:List.take 1 (List.drop k (List.map u8 n))=[u8 n[k]]:=by rw[<-List.map_drop,aaM V];rfl
 refine fs Vu Tryz.func156 rfl (by kernel_rfl) ?_
 simp[Tryz.f156,s,X,al,Z,e1];refine bM.intro λd hd=>?_
 have d4:d≠c4:=λe=>by simp_all
 have av:=za d4;simp;refine aa.defer rfl rfl rfl rfl (by simp) rfl ?_
 apply rn;simp[X];obtain⟨z,hz⟩:∃z,z=bV n[k] way.length:=⟨_,rfl⟩;obtain⟨i,O⟩:∃i,i=n.set k z:=⟨_,rfl⟩;have b4:k<i.length:=by simp_all
 have ax:i[k]=z:=by simp_all
 have e2:List.take 1 (List.drop k (List.map u8 i))=[u8 z]:=by rw[<-List.map_drop,aaM b4,ax];rfl
 have e3:aK (List.map u8 n) k [u8 z]=List.map u8 i:=by simp_all
 have P:i.length=6:=by simp_all
 refine cf Tryz.func158 rfl (PZ (by omega) ?_)
 rw[<-hz];apply pg;simp[av,af.ai,s,al,Z,e3];apply rn;simp[X,P,Z,e2];have b5:way.length<6:=by omega
 have b6:way.length<f.aD.length:=by omega
 have b7:OQ f (aB z):=by rw[hz];exact hh.vD b6 h6 V
 obtain⟨xb,b8,b9⟩:=N.Tt hu;have cb:∀c l,σ c=some (.cells l)->c≠b:=λc l t e=>by subst e;rw[b8]at t;cases t;cases b9
 have db:d≠b:=λe=>by simp_all
 have ay:Un ((σ.set d (.cells [u8 n[k]])).set c4 (.cells (i.map u8))):=qk N (qk N hu (λx A=>by simp_all)) (λx A=>by rw[af.ai _ _ av,s]at A;cases A;rfl)
 have aC:((σ.set d (.cells [u8 n[k]])).set c4 (.cells (i.map u8))) c4=some (.cells (i.map u8)):=af.aj _ _ _;have aE:((σ.set d (.cells [u8 n[k]])).set c4 (.cells (i.map u8))) d=some (.cells [u8 n[k]]):=by rw[af.ai _ _ d4,af.aj]
 have H:∀c,c≠d->c≠c4->((σ.set d (.cells [u8 n[k]])).set c4 (.cells (i.map u8))) c=σ c:=λc r D=>by rw[af.ai _ _ D,af.ai _ _ r]
 have aL:¬F d:=λhF=>by
  obtain⟨x,A,_⟩:=Y.OP _ _ _ _ hI hF
  simp_all
 have a7:I pre.length F ((σ.set d (.cells [u8 n[k]])).set c4 (.cells (i.map u8))):=Y.frame _ _ _ _ (λc t=>H c (λe=>aL (e ▸ t)) (λe=>w.out.1 (e ▸ t))) hI
 generalize (σ.set d (.cells [u8 n[k]])).set c4 (.cells (i.map u8))=dj at ay aC aE H a7;refine cf Tryz.func159 rfl (Se N hf b7 (l8 _) ay λo aO p=>?_)
 have B:o c4=some (.cells (i.map u8)):=p _ _ aC (cb _ _ s) (.inr rfl);have a8:o d=some (.cells [u8 n[k]]):=p _ _ aE db (.inr rfl);have gd:cg≠d:=λe=>by have:=w.VJ;simp_all
 have J:o cg=some (.cells [yt (kQ b mb f 0) y begun cp]):=p _ _ (by rw[H cg gd (za w.ne.1)];exact w.VJ) (cb _ _ w.VJ) (.inr rfl)
 have bm:i.set k n[k]=n:=by simp_all
 have Q:∀(env:Env) (j:af) (v:Bool),env 9=bool v->j d=some (.cells [u8 n[k]])->j c4=some (.cells (i.map u8))->KF (.val (bool v)) (j.set c4 (.cells (n.map u8)))->rv prog m (.func 157) [.ref d 0,.ref c4 0,.cp (int k) 0] [] .ret j (λbw g=>Ks lay m [ResultVar.tmp 9] env (nD KF) [] bw g):=λenv j v he bA bB hK=>by
  refine rv.func Tryz.func157 rfl rfl (P7 hk P bA bB ?_);refine⟨[env 9],rfl,.done ?_⟩
  simp_all
 have b0:Mv b mb F F σ (o.set c4 (.cells (n.map u8))):=λc x r D K h4=>by
  refine⟨?_,D⟩
  by_cases e:c=c4
  . simp_all
  . have e':c≠d:=λe'=>by simp_all
    rw[af.ai _ _ e];exact p c x (by simp_all) K h4
 have a9:I pre.length F o:=Y.frame _ _ _ _ (λc t=>by
  obtain⟨x,r,D⟩:=Y.OP _ _ _ _ a7 t
  have c5:c≠b:=λe=>by grind
  rw[r];exact p c x r c5 (.inr D)) a7
 rw[<-hz,<-O]at U;cases R:jN f z with
 | false=>
   rw[R]at U;simp only[LK,Rp]at U;subst U;apply pg;simp
   repeat' apply And.intro
   all_goals
    apply rn;simp;refine Q _ o true (by simp) a8 B (hR.1 F _ b0 (qk N aO (λx A=>by rw[B]at A;cases A;rfl)) ?_)
    exact Y.frame _ _ _ _ (λc t=>af.ai _ _ (λe=>w.out.1 (e ▸ t))) a9
 | true=>
   rw[R,aal rfl]at U
   have ab:∀(j:af) (C:nz) (M:acJ),o.Le j->(∀(v:Bool) g,g d=some (.cells [u8 n[k]])->g c4=some (.cells (i.map u8))->KF (.val (bool v)) (g.set c4 (.cells (n.map u8)))->M (.val (bool v)) g) ->
    aA prog m 160 [.sl 1 ((way++[(k:Int)]).map int) C,int (max many ((k:Int)+1)),.cp (kQ b mb f 0) 0,.cp y 0,.cp (ints begun) 0,.ref cp 0] j M:=λj C M q hK=>by
    have c6:o cp=some (.cells [bg (kQ b mb f 0) c4 cg]):=by
     have pd:cp≠d:=λe=>by have:=w.pt;simp_all
     exact p _ _ (by rw[H cp pd (za w.ne.2)];exact w.pt) (cb _ _ w.pt) (.inr rfl)
    have c7:Un j:=N.un (λc _ ⟨x,r,_⟩=>by rw[r];exact q _ _ r) aO
    have c9:WS b mb f y begun c4 cg cp i F j:=⟨q _ _ B,q _ _ J,q _ _ c6,w.out,w.ne⟩
    have ca:I pre.length F j:=Y.frame _ _ _ _ (λc t=>by obtain⟨x,r,_⟩:=Y.OP _ _ _ _ a9 t;rw[r];exact q _ _ r) a9
    have S:∀(u:acT) (g:af),Mv b mb F u j g->Mv b mb F u σ (g.set c4 (.cells (n.map u8))):=λu g hm c x r D K h4=>by
     by_cases e:c=c4
     . subst e
       obtain⟨q1,T⟩:=hm c _ (q _ _ B) D K (.inr rfl)
       simp_all
     . have e':c≠d:=λe'=>by simp_all
       rw[af.ai _ _ e];exact hm c x (q _ _ (p c x (by simp_all) K h4)) D K h4
    have E5:∀(u:acT) (g:af),Mv b mb F u j g->g d=some (.cells [u8 n[k]])/\(g c4=some (.cells (i.map u8))/\¬u c4):=λu g hm=>⟨(hm d _ (q _ _ a8) aL db (.inr rfl)).1,hm c4 _ (q _ _ B) w.out.1 (cb _ _ s) (.inr rfl)⟩
    subst U;refine hG _ _ _ _ F j pre post M (by simp;omega) (by omega) (by rw[aas,O,hz];exact hh.set b5 V) c9 c7 hW ca ⟨λu g r D K=>?_,λu g r D K=>?_⟩
    . obtain⟨q1,T,q3⟩:=E5 u g r
      exact hK true g q1 T (hR.1 u _ (S u g r) (qk N D (λx A=>by rw[T]at A;cases A;rfl)) (Y.frame _ _ _ _ (λc t=>af.ai _ _ (λe=>q3 (e ▸ t))) K))
    . obtain⟨q1,T,q3⟩:=E5 u g r
      exact hK false g q1 T (hR.2 u _ (S u g r) (qk N D (λx A=>by rw[T]at A;cases A;rfl)) (Y.Sf _ _ _ (λc t=>af.ai _ _ (λe=>q3 (e ▸ t))) K))
   have k1:-9223372036854775808<=(k:Int)+1/\(k:Int)+1<=9223372036854775807:=by omega
   have G:(if many<(k:Int)+1 then(k:Int)+1 else many)=max many ((k:Int)+1):=by omega
   apply pg;simp[J,k1.1,k1.2,G]
   repeat' (first
             |apply And.intro
             | (refine pQ lay rfl dC rfl rp (es:=way.map int) (sp:=sp) (l:=0) (h:=way.length) (by simp) (λcap b1=>⟨⟨⟨.i64,by simp⟩,by simpa using b1⟩,⟨⟨.i64,by simp⟩,aao _⟩,rfl⟩) (by simp) λa ha=>?_
                have cm:Tok o o a 1 (way.map int):=by
                 rcases ha with rfl|⟨e,rfl⟩
                 . have:List.take (way.length-0) (List.drop 0 (way.map int))=way.map int:=by rw[abQ,abe (by simp)]
                   rw[this];exact .exact _ _ _
                 . rw[e];exact .nil _ _
                clear ha;apply pg;simp[B,a8,J,k1.1,k1.2,G])
             | (refine aN lay rfl rfl rfl dC rfl dC rfl rp (by decide) (by simp;omega) (σ0:=o) (es:=way.map int) (xs:=[int k]) (by simpa using cm) (.inr ⟨_,by simp;rfl⟩) λa' j ad=>?_
                obtain⟨C,rfl⟩:∃C,a'=.sl 1 (way.map int++[int k]) C:=by
                 rcases ad.2 with⟨_,e⟩|e|⟨_,_,_,e,_⟩
                 . simp at e
                 . exact⟨_,e⟩
                 . exact⟨_,e⟩
                have cr:=ad.1 _ _ J;apply pg;simp[cr,k1.1,k1.2,G])
             | (refine dh Tryz.func160 rfl rfl (by simp) (ab j C _ ad.1 λv g q1 T q3=>?_)
                apply pg;simp;apply rn;simp;exact Q _ _ v (by simp) q1 T q3))
end
section
variable{b mb:Nat}{f:Fr}{begun:acX}{y:AV}{W:acD}{I:Nat->acT->ada}{E:acT->ada}{Un:ada}{Ld:af->acE->Prop}{c4 cg cp:Nat}
def py(f:Fr)(begun:acX)(fuel:Nat)(way:acX)(many:Int)(a:acX)(k:Nat):acD:=
 if way.length<begun.length/\begun.getD way.length 0≠(k:Int)then[]
 else if jN f (bV (a.getD k 0) way.length)=true then fW f begun fuel (way++[(k:Int)]) (max many ((k:Int)+1)) (a.set k (bV (a.getD k 0) way.length))else[]
theorem sd  f   begun   fuel   way   many   a :fW f begun (fuel+1) way many a=(List.range (min (many+1) f.aR).toNat).flatMap (py f begun fuel way many a):=rfl
theorem Eg(K:Nat->acD){k cnt}(h:k<cnt):∃rest,(List.range cnt).flatMap K=(List.range k).flatMap K++(K k++rest):=by
 obtain⟨n,rfl⟩:∃n,cnt=k+1+n:=⟨cnt-(k+1),by omega⟩;induction n with
 |zero=>exact⟨[],by rw[Nat.add_zero,aaz,aby];simp⟩
 | succ n a=>
   obtain⟨rest,b⟩:=a (by omega);refine⟨rest++K (k+1+n),?_⟩;rw[show k+1+(n+1)=(k+1+n)+1 by omega,aaz,aby,b];simp
theorem P8(P:Mg prog m nn b 6 mb .u8 (kR f) Un Ld)(R:f.Good)(S:begun.length<1152921504606846976)(Y:Tx m y W I E)(T:y.cells=[y]):∀fuel ,M3 m b mb f begun y W I E Un c4 cg cp fuel:=by
 have h6:=R.px;have ab:=R.aR;intro fuel
 induction fuel with
 | zero=>
   intro way many h sp F σ pre post KF hlen l hh U G H J u;have V:(way.length:Int)=f.aD.length:=by omega
   refine fs [] Tryz.func160 rfl (by kernel_rfl) ?_
   simp[Tryz.f160,V,T];have hk:pre.length<W.length:=by rw[H];simp[fW]
   have X:W[pre.length]=way:=by subst H;simp[fW]
   refine bK.weaken (args':=[ints way]) ?_ ⟨fS 1 _ sp,trivial⟩;rw[<-X];refine Y.step pre.length F σ _ hk J (λq d n x=>?_) (λq d n x=>?_)
   . apply rn
     simp;exact .done (u.1 q d (Ef n) (ys P G n (λc Z=>Y.OP _ _ _ c J Z)) x)
   . apply rn
     simp;exact .done (u.2 q d (Ef n) (ys P G n (λc Z=>Y.OP _ _ _ c J Z)) x)
 | succ fuel a7=>
   intro way many h sp F σ pre post KF hlen l hh U G H J u;have V:((way.length:Int)==f.aD.length)=false:=by grind
   have ad:=U.pt;rw[sd]at H u;obtain⟨cnt,K⟩:∃cnt:Nat,cnt=(min (many+1) f.aR).toNat:=⟨_,rfl⟩;rw[<-K]at H u;have L:(if f.aR<many+1 then f.aR else many+1)=(cnt:Int):=by omega
   have al:cnt<=6:=by omega
   have m1:-9223372036854775808<=many+1/\many+1<=9223372036854775807:=by omega
   refine fs [] Tryz.func160 rfl (by kernel_rfl) ?_
   simp[Tryz.f160,V,m1.1,m1.2,L];refine aa.loop cnt (λk s=>∃env d q,s=⟨env,d,[],.no⟩/\env 0=.sl 1 (way.map int) sp/\env 1=int many/\env 2=.cp (kQ b mb f 0) 0/\env 4=.cp (ints begun) 0/\env 5=.ref cp 0/\env 29=int cnt/\env 30=int k/\Mv b mb F q σ d/\Un d/\I (pre.length+((List.range k).flatMap (py f begun fuel way many h)).length) q d) ⟨_,_,F,rfl,by simp,by simp,by simp,by simp,by simp,by simp,by simp,Mv.refl b mb F σ,G,J⟩ ?_
   rintro c0 k _ hk ⟨env,d,q,rfl,B,n,x,C,M,g,i,o,z,a8⟩ ih
   rcases aaP k cnt with g1|g1
   . have N:=U.mv (P.Tt G) o
     have w:=N.pt;obtain⟨rest,Q⟩:=Eg (py f begun fuel way many h) g1
     have a9:((List.range (k+1)).flatMap (py f begun fuel way many h)).length=((List.range k).flatMap (py f begun fuel way many h)).length+(py f begun fuel way many h k).length:=by rw[aaz,aby,aas];simp
     by_cases g2:way.length<begun.length/\begun.getD way.length 0≠(k:Int)
     . have hK:py f begun fuel way many h k=[]:=aal g2
       have e1:begun.getD way.length 0=begun[way.length]:=by grind
       have e2:(begun[way.length] !=(k:Int))=true:=by grind
       apply rn;simp[B,C,g,i,g1,g2.1,e2];refine⟨by omega,ih _ g1 ⟨_,_,q,rfl,by simp[B],by simp[n],by simp[x],by simp[C],by simp[M],by simp[g],by simp,o,z,?_⟩⟩
       grind
     . have hK:py f begun fuel way many h k=if jN f (bV (h.getD k 0) way.length)=true then fW f begun fuel (way++[(k:Int)]) (max many ((k:Int)+1)) (h.set k (bV (h.getD k 0) way.length))else[]:=aaj g2
       have p:∀A:acJ,(∀(v:Bool) a j,Mv b mb F j σ a->Un a->(v=true->I (pre.length+((List.range (k+1)).flatMap (py f begun fuel way many h)).length) j a)->(v=false->E j a)->A (.val (bool v)) a)->aA prog m 156 [.sl 1 (way.map int) sp,int many,int k,.ref c4 0,.cp (kQ b mb f 0) 0,.ref cg 0] d A:=λA O=>by
        refine Sg P R S Y a7 (pre:=pre++(List.range k).flatMap (py f begun fuel way many h)) (post:=rest++post) hlen l (by omega) hh N z hK (by grind) (by grind) ⟨λj a r t D=>?_,λj a r t D=>?_⟩
        . refine O true a j (o.trans r) t (λ_=>?_) (λe=>by cases e)
          grind
        . exact O false a j (o.trans r) t (λe=>by cases e) (λ_=>D)
       by_cases g3:way.length<begun.length
       . have e1:begun.getD way.length 0=begun[way.length]:=by grind
         have e2:(begun[way.length] !=(k:Int))=false:=by grind
         apply rn;simp[B,n,C,M,g,i,g1,g3,e2,w];refine dh Tryz.func156 rfl rfl (by simp) (p _ λv a j r t D q4=>?_)
         cases v
         . apply rn
           simp;exact .done (u.2 j a r t (q4 rfl))
         . apply rn
           simp[i];refine⟨by omega,ih _ g1 ⟨_,_,j,rfl,?_,?_,?_,?_,?_,?_,?_,r,t,D rfl⟩⟩<;>simp[B,n,x,C,M,g]
       . apply rn
         simp[B,n,C,M,g,i,g1,g3,w];refine dh Tryz.func156 rfl rfl (by simp) (p _ λv a j r t D q4=>?_)
         cases v
         . apply rn
           simp;exact .done (u.2 j a r t (q4 rfl))
         . apply rn
           simp[i];refine⟨by omega,ih _ g1 ⟨_,_,j,rfl,?_,?_,?_,?_,?_,?_,?_,r,t,D rfl⟩⟩<;>simp[B,n,x,C,M,g]
   . have:k=cnt:=by omega
     subst this;apply rn;simp[g,i];exact .done (u.1 q d o z a8)
end
section
variable{b mb:Nat}{f:Fr}{begun:acX}{y:AV}{I:Nat->acT->ada}{E:acT->ada}{Un:ada}{Ld:af->acE->Prop}
theorem B9{sp}(h:KF (.val (.fn (.func 155) [] [.cp (kQ b mb f 0) 0,.cp (.sl 1 (begun.map int) sp) 0])) σ):aA prog m 119 [kQ b mb f 0,.sl 1 (begun.map int) sp] σ KF:=by
 refine fs [] Tryz.func119 rfl (by kernel_rfl) ?_;simp[Tryz.f119];exact .done h
theorem Zu  f :Hs f 0 [0,0,0,0,0,0]:=by
 refine⟨rfl,λx a e b=>?_,λx a=>?_⟩
 . have hb:aB 0=[]:=by decide +kernel
   simp_all
 simp_all
theorem Mv.le{F d σ0 σ'}(h:Mv b mb F d σ σ')(a:σ0.Le σ):Mv b mb F d σ0 σ':=λc x e f g i=>h c x (a c x e) f g i
theorem yu(r:Mg prog m nn b 6 mb .u8 (kR f) Un Ld)(w:f.Good)(j:begun.length<1152921504606846976)(Y:Tx m y (aI f begun) I E)(d:y.cells=[y]/\y.flat=true){F}(z:Un σ)(k:I 0 F σ)
 (h:∀e σ',Mv b mb F e σ σ'->Un σ'->(I (aI f begun).length e σ'\/E e σ')->KF (.val (.cq [])) σ'):aA prog m 155 [y,.cp (kQ b mb f 0) 0,.cp (ints begun) 0] σ KF:=by
 refine fs [] Tryz.func155 rfl (by kernel_rfl) ?_;simp[Tryz.f155,d.1,d.2];refine bM.intro λc4 A=>?_
 simp;refine bM.intro λcg l=>?_
 obtain⟨J,s,l⟩:=af.aP l;simp;refine bM.intro λcp i=>?_
 obtain⟨B,C,i⟩:=af.aP i;obtain⟨K,t,i⟩:=af.aP i;simp[C,af.ai];have a:σ.Le ((((σ.set c4 (.cells [u8 0,u8 0,u8 0,u8 0,u8 0,u8 0])).set cg (.cells [.lit .nilFunc])).set cp (.cells [bg (kQ b mb f 0) c4 cg])).set cg (.cells [yt (kQ b mb f 0) y begun cp])):=(by repeat (first|exact af.le_refl _|assumption|refine af.fj ?_ (by assumption)|refine af.lJ ?_ (by assumption)));have D:((((σ.set c4 (.cells [u8 0,u8 0,u8 0,u8 0,u8 0,u8 0])).set cg (.cells [.lit .nilFunc])).set cp (.cells [bg (kQ b mb f 0) c4 cg])).set cg (.cells [yt (kQ b mb f 0) y begun cp])) c4=some (.cells (([0,0,0,0,0,0]:acX).map u8)):=by simp[s,t,af.ai]
 have G:((((σ.set c4 (.cells [u8 0,u8 0,u8 0,u8 0,u8 0,u8 0])).set cg (.cells [.lit .nilFunc])).set cp (.cells [bg (kQ b mb f 0) c4 cg])).set cg (.cells [yt (kQ b mb f 0) y begun cp])) cg=some (.cells [yt (kQ b mb f 0) y begun cp]):=by simp
 have sp:((((σ.set c4 (.cells [u8 0,u8 0,u8 0,u8 0,u8 0,u8 0])).set cg (.cells [.lit .nilFunc])).set cp (.cells [bg (kQ b mb f 0) c4 cg])).set cg (.cells [yt (kQ b mb f 0) y begun cp])) cp=some (.cells [bg (kQ b mb f 0) c4 cg]):=by simp[B,af.ai]
 have g:∀c,σ c=none -> ¬F c:=λc u H=>by
  obtain⟨x,n,_⟩:=Y.OP _ _ _ _ k H
  simp_all
 refine bK.weaken (args':=[.sl 1 (([]:acX).map int) .any,int 0]) ?_ ⟨eU 1,.refl _,trivial⟩;refine dh Tryz.func160 rfl rfl rfl (P8 (y:=y) r w j Y d.1 f.aD.length [] 0 [0,0,0,0,0,0] .any F _ [] [] _ (by simp) (by omega) (Zu f) ⟨D,G,sp,⟨g _ A,g _ l,g _ i⟩,⟨s,t⟩⟩ (r.un (λc _ ⟨x,v,_⟩=>by rw[v];exact a _ _ v) z) (by simp[aI]) (Y.frame _ _ _ _ (λc u=>by obtain⟨x,n,_⟩:=Y.OP _ _ _ _ k u;rw[n];exact a _ _ n) k) ⟨λe σ' o p q=>?_,λe σ' o p q=>?_⟩)
 . apply rn
   simp;refine .done (h e σ' (o.le a) p (.inl ?_));simpa[aI]using q
 . apply rn
   simp;exact .done (h e σ' (o.le a) p (.inr q))
end
section
variable{b mb:Nat}{f:Fr}{Un:ada}{Ld:af->acE->Prop}
theorem P9(E:Mg prog m nn b 6 mb .u8 (kR f) Un Ld)(U:f.Good)(R:Un σ)(h:∀σ',Un σ'->pw b mb σ σ'->KF (.val (bool (decide (aI f []≠[])))) σ'):aA prog m 83 [kQ b mb f 0] σ KF:=by
 refine fs [] Tryz.func83 rfl (by kernel_rfl) ?_
 simp[Tryz.f83];refine bM.intro λd h3=>?_
 simp;have V:Wl [kQ b mb f 0,AV.lit (.slice none 0 0)] [kQ b mb f 0,ints []]:=.cons (.refl _) (.cons (eU 1) .nil);refine bS Tryz.func119 rfl rfl V (B9 (begun:=[]) ?_);apply rn;simp;refine aa.rangeFunc rfl λI r l J S o=>?_
 obtain⟨r1,W,J⟩:=af.aP J;obtain⟨X,z,S⟩:=af.aP S;generalize p:vh.mk _ _ _ _ _ _ _ _ _=G
 have Y:Tx m (.fn (.yield l) [] []) (aI f []) (λk F σ'=>k=0/\(∀c,F c↔c=l\/c=d)/\σ' l=some (.loop G)/\σ' d=some (.cells [bool false])) (λF σ'=>aI f []≠[]/\(∀c,F c↔c=l\/c=d)/\σ' l=some (.loop {G with state:=.done,pending:=some (.exit 0)})/\σ' d=some (.cells [bool true])):=by
  refine⟨λk F σ' Z hk A hT hF=>?_,λk F K a he A=>?_,λF K a he A=>?_,λk F σ' c A v=>?_⟩
  . obtain⟨rfl,i,H,L⟩:=A
    have e3:∀x,(σ'.set l x) d=some (.cells [bool false]):=λx=>by rw[af.ai _ _ z];exact L
    subst p;refine bK.uy (hold:=[]) I Tryz.func83 H rfl ?_;apply rn;simp[lG];refine aa.beginRound H rfl ?_;apply rn;simp[e3];have M:aI f []≠[]:=λe=>by simp_all
    refine⟨rfl,rfl,_,((af.ai _ _ X).trans (af.aj _ _ _)),?_⟩;refine hF F _ (λc x v hx=>⟨?_,v⟩) ⟨M,i,af.aj _ _ _,(af.ai _ _ z).trans (af.aj _ _ _)⟩
    have w:c≠l:=λe=>v ((i c).2 (.inl e))
    have B:c≠d:=λe=>v ((i c).2 (.inr e))
    exact(af.ai _ _ w).trans ((af.ai _ _ B).trans ((af.ai _ _ w).trans hx))
  . simp_all
  . simp_all
  . obtain⟨rfl,i,H,L⟩:=A
    rcases(i c).1 v with rfl|rfl
    . exact⟨_,H,rfl⟩
    . exact⟨_,L,rfl⟩
 obtain⟨xb,a7,a8⟩:=E.Tt R;have nb:∀c,σ c=none->c≠b:=λc v e=>by simp_all
 have C:σ.Le (((σ.set d (.cells [bool false])).set r (.raw (.deferred (some [])))).set l (.loop G)):=(by repeat (first|exact af.le_refl _|assumption|refine af.fj ?_ (by assumption)|refine af.lJ ?_ (by assumption)))
 have sr:(((σ.set d (.cells [bool false])).set r (.raw (.deferred (some [])))).set l (.loop G)) r=some (.raw (.deferred (some []))):=by rw[af.ai _ _ o,af.aj]
 refine dh Tryz.func155 rfl rfl rfl (yu (F:=λc=>c=l\/c=d) E U (by simp) Y ⟨rfl,rfl⟩ (E.un (λc _ ⟨x,j,_⟩=>(C _ _ j).trans j.symm) R) ⟨rfl,λc=>aaE,af.aj _ _ _,(af.ai _ _ z).trans ((af.ai _ _ W).trans (af.aj _ _ _))⟩ λF' σ' D N n=>?_)
 have q:=(D r _ sr (λe=>by omega) (nb r J) (.inr rfl)).1
 have s:pw b mb σ σ':=λc x j y t=>(D c x (C c x j) (λe=>by grind) y t).1
 have O:∀a,a=(σ'.del l).set r (.raw (.deferred none))->Un a/\pw b mb σ a:=λa e=>by
  subst e;refine⟨E.un (σ:=σ') (λc _ ⟨x,j,y⟩=>?_) N,λc x j y t=>?_⟩
  . have w:c≠r:=λe=>by subst e;rw[q]at j;cases j;cases y
    have B:c≠l:=λe=>by
     subst e
     rcases n with⟨_,_,g,_⟩|⟨_,_,g,_⟩<;>rw[g]at j<;>cases j<;>cases y
    rw[af.ai _ _ w];simp[af.del,B]
  . have w:c≠r:=λe=>by simp_all
    have B:c≠l:=λe=>by simp_all
    rw[af.ai _ _ w];simp only[af.del,B,Rp];exact s c x j y t
 rcases n with⟨T,_,P,q2⟩|⟨T,_,P,q2⟩
 . have Q:decide (aI f []≠[])=false:=by simp_all
   rw[Q]at h;subst p;refine⟨_,P,by simp,rfl,?_⟩
   have u:(σ'.del l) d=some (.cells [bool false]):=by simp only[af.del,z,Rp];omega
   apply rn;simp[u];refine⟨by simp only[af.del,o,Rp];exact q,.done ?_⟩
   simp_all
 . have Q:decide (aI f []≠[])=true:=by simp[T]
   rw[Q]at h;subst p;refine⟨_,P,by simp,rfl,?_⟩
   have u:(σ'.del l) d=some (.cells [bool true]):=by simp only[af.del,z,Rp];omega
   apply rn;simp[u];refine⟨by simp only[af.del,o,Rp];exact q,.done ?_⟩
   simp_all
end
end
section
open Go Go.cE
abbrev ng:Pm:=⟨100,102,106,130,131,144,129,137,147,132,170,171,172,177,148,141,220,222,227⟩
theorem M5:∀(b:Nat) (kind:adb),bc (A0 prog ng b kind).1=some (ng.jv,[])/\(A0 prog ng b kind).1.env.all plain=true/\(A0 prog ng b kind).2=[]/\(A0 prog ng b kind).1.kind=kind:=by intro b kind;exact⟨by kernel_rfl,by kernel_rfl,by kernel_rfl,by kernel_rfl⟩
theorem M6:∀(b:Nat) (kind:adb),bc (A1 prog ng b kind).1=some (ng.Pn,[])/\(A1 prog ng b kind).1.env.all plain=true/\(A1 prog ng b kind).2=[]/\(A1 prog ng b kind).1.kind=kind:=by intro b kind;exact⟨by kernel_rfl,by kernel_rfl,by kernel_rfl,by kernel_rfl⟩
theorem M7:∀(b:Nat) (kind:adb),bc (A2 prog ng b kind).1=some (ng.sY,[pt b 0,u64 4294967296])/\wC (A2 prog ng b kind)=true/\(A2 prog ng b kind).1.env.all plain=true/\(A2 prog ng b kind).2.all (·.env.all plain)=true:=by intro b kind;exact⟨by kernel_rfl,by kernel_rfl,by kernel_rfl,by kernel_rfl⟩
theorem M8:∀(b:Nat) (kind:adb) (a:Fl),kG (A3 prog ng b kind (f1 a true)).1=some (ng.tS,ng.tU,pt b 1):=by intro b kind a;kernel_rfl
theorem M9:∀(b:Nat) (kind:adb) (a:Fl),bc (A4 prog ng b kind (f1 a true)).1=some (ng.rd,[pt b 1])/\(A4 prog ng b kind (f1 a true)).1.kind=kind:=by intro b kind a;exact⟨by kernel_rfl,by kernel_rfl⟩
theorem Na:∀(b:Nat) (kind:adb) (a:Fl),r7 (A5 prog ng b kind (f0 (f1 a true) false)).1=some ng.en/\(A5 prog ng b kind (f0 (f1 a true) false)).2=[]/\(A5 prog ng b kind (f0 (f1 a true) false)).1.kind=kind/\(A5 prog ng b kind (f0 (f1 a true) false)).1.fn=ng.add:=by intro b kind a;exact⟨by kernel_rfl,by kernel_rfl,by kernel_rfl,by kernel_rfl⟩
theorem Nb:∀(b:Nat) (kind:adb) (a:Fl),r7 (A3 prog ng b kind (f0 (f1 a false) false)).1=some ng.en/\(A3 prog ng b kind (f0 (f1 a false) false)).2=[]/\(A3 prog ng b kind (f0 (f1 a false) false)).1.kind=kind/\(A3 prog ng b kind (f0 (f1 a false) false)).1.fn=ng.add:=by intro b kind a;exact⟨by kernel_rfl,by kernel_rfl,by kernel_rfl,by kernel_rfl⟩
theorem Nc:∀(b:Nat),kG (D0 prog ng b).1=some (ng.tG,ng.tU,pt b 0)/\(D0 prog ng b).1.env.all plain=true/\(D0 prog ng b).2.all (·.env.all plain)=true:=by intro b;exact⟨by kernel_rfl,by kernel_rfl,by kernel_rfl⟩
theorem Nd:∀(b:Nat),bc (D1 prog ng b).1=some (ng.rel,[pt b 0])/\wC (D1 prog ng b)=true/\(D1 prog ng b).1.env.all plain=true/\(D1 prog ng b).2.all (·.env.all plain)=true:=by intro b;exact⟨by kernel_rfl,by kernel_rfl,by kernel_rfl,by kernel_rfl⟩
theorem Nf:∀(b:Nat),bc (D2 prog ng b).1=some (ng.jv,[])/\wC (D2 prog ng b)=true/\(D2 prog ng b).1.env.all plain=true/\(D2 prog ng b).2.all (·.env.all plain)=true:=by intro b;exact⟨by kernel_rfl,by kernel_rfl,by kernel_rfl,by kernel_rfl⟩
theorem Ng:∀(b:Nat),bc (D3 prog ng b).1=some (ng.Pn,[])/\wC (D3 prog ng b)=true/\(D3 prog ng b).1.env.all plain=true/\(D3 prog ng b).2.all (·.env.all plain)=true:=by intro b;exact⟨by kernel_rfl,by kernel_rfl,by kernel_rfl,by kernel_rfl⟩
theorem Nh:∀(b:Nat),bc (D4 prog ng b).1=some (ng.sY,[pt b 0,u64 18446744069414584320])/\wC (D4 prog ng b)=true/\(D4 prog ng b).1.env.all plain=true/\(D4 prog ng b).2.all (·.env.all plain)=true:=by intro b;exact⟨by kernel_rfl,by kernel_rfl,by kernel_rfl,by kernel_rfl⟩
theorem Ni:∀(b:Nat) (a:Fl) (x:Bool),r7 (DE prog ng b (f0 a x) 0).1=some ng.en:=by intro b a x;cases x<;>kernel_rfl
theorem JY:∀(b:Nat) (a:Fl) (x:Bool),kg (my prog (f0 a x) (DE prog ng b (f0 a x) 0)).1 ng.done=true/\(my prog (f0 a x) (DE prog ng b (f0 a x) 0)).2=[]/\(my prog (f0 a x) (DE prog ng b (f0 a x) 0)).1.kind=.deferred:=by intro b a x;cases x<;>exact⟨by kernel_rfl,by kernel_rfl,by kernel_rfl⟩
theorem Nj:∀(b:Nat) (a:Fl),r7 (DE prog ng b (f0 a false) 1).1=some ng.en:=by intro b a;kernel_rfl
theorem JZ:∀(b:Nat) (a:Fl),kg (my prog (f0 a false) (DE prog ng b (f0 a false) 1)).1 ng.done=true/\(my prog (f0 a false) (DE prog ng b (f0 a false) 1)).2=[]/\(my prog (f0 a false) (DE prog ng b (f0 a false) 1)).1.kind=.deferred:=by intro b a;exact⟨by kernel_rfl,by kernel_rfl,by kernel_rfl⟩
theorem Nk:∀(b:Nat) (a:Fl),bc (DE prog ng b (f0 a true) 1).1=some (ng.v7,[pt b 0])/\wC (DE prog ng b (f0 a true) 1)=true:=by intro b a;exact⟨by kernel_rfl,by kernel_rfl⟩
theorem Nl:∀(b:Nat) (a:Fl),bc (D6 prog ng b (f0 a true)).1=some (ng.IB,[pt b 0,u64 0])/\wC (D6 prog ng b (f0 a true))=true:=by intro b a;exact⟨by kernel_rfl,by kernel_rfl⟩
theorem Nm:∀(b:Nat) (a:Fl),bc (D7 prog ng b (f0 a true)).1=some (ng.oC,[pt b 1,ff,i64 0])/\wC (D7 prog ng b (f0 a true))=true:=by intro b a;exact⟨by kernel_rfl,by kernel_rfl⟩
theorem Nn:∀(b:Nat) (a:Fl),r7 (D8 prog ng b (f0 a true)).1=some ng.en:=by intro b a;kernel_rfl
theorem No:∀(b:Nat) (a:Fl),kg (my prog (f0 a true) (D8 prog ng b (f0 a true))).1 ng.done=true/\(my prog (f0 a true) (D8 prog ng b (f0 a true))).2=[]/\(my prog (f0 a true) (D8 prog ng b (f0 a true))).1.kind=.deferred:=by intro b a;exact⟨by kernel_rfl,by kernel_rfl,by kernel_rfl⟩
theorem Np:∀(b:Nat) (kind:adb),bc (W0 prog ng b kind).1=some (ng.jv,[])/\(W0 prog ng b kind).1.env.all plain=true/\(W0 prog ng b kind).2=[]/\(W0 prog ng b kind).1.kind=kind:=by intro b kind;exact⟨by kernel_rfl,by kernel_rfl,by kernel_rfl,by kernel_rfl⟩
theorem Nq:∀(b:Nat) (kind:adb),bc (W1 prog ng b kind).1=some (ng.v7,[pt b 0])/\wC (W1 prog ng b kind)=true/\(W1 prog ng b kind).1.env.all plain=true/\(W1 prog ng b kind).2.all (·.env.all plain)=true:=by intro b kind;exact⟨by kernel_rfl,by kernel_rfl,by kernel_rfl,by kernel_rfl⟩
theorem Nr:∀(b:Nat) (kind:adb) (a:Fl),bc (WE prog ng b kind (f0 a true)).1=some (ng.en,[])/\(WE prog ng b kind (f0 a true)).1.kind=kind:=by intro b kind a;exact⟨by kernel_rfl,by kernel_rfl⟩
theorem Ns:∀(b:Nat) (kind:adb) (a:Fl),kG (WC prog ng b kind (f0 a true)).1=some (ng.tG,ng.tU,pt b 0):=by intro b kind a;kernel_rfl
theorem Nt:∀(b:Nat) (kind:adb) (a:Fl),bc (WA prog ng b kind (f0 a true)).1=some (ng.acq,[pt b 0])/\(WA prog ng b kind (f0 a true)).1.kind=kind:=by intro b kind a;exact⟨by kernel_rfl,by kernel_rfl⟩
theorem Nu:∀(b:Nat) (kind:adb) (a:Fl),kg (WB prog ng b kind (f0 a true)).1 ng.wait=true/\(WB prog ng b kind (f0 a true)).2=[]/\(WB prog ng b kind (f0 a true)).1.kind=kind:=by intro b kind a;exact⟨by kernel_rfl,by kernel_rfl,by kernel_rfl⟩
theorem Nv:∀(b:Nat) (kind:adb) (a:Fl),bc (WE prog ng b kind (f0 a false)).1=some (ng.xE,[pt b 0,.eE 0,.eE 1])/\wC (WE prog ng b kind (f0 a false))=true:=by intro b kind a;exact⟨by kernel_rfl,by kernel_rfl⟩
theorem Nw:∀(b:Nat) (kind:adb) (a:Fl),Hu [5] [[0]] (next prog (f0 a false) (WE prog ng b kind (f0 a false)) ff)=W1 prog ng b kind:=by intro b kind a;kernel_rfl
theorem Nx:∀(b:Nat) (kind:adb) (a:Fl),kG (W3 prog ng b kind (f0 a false)).1=some (ng.tS,ng.tU,pt b 1):=by intro b kind a;kernel_rfl
theorem Ny:∀(b:Nat) (kind:adb) (a:Fl),bc (Tm prog ng b kind (f0 a false)).1=some (ng.wr,[pt b 1])/\(Tm prog ng b kind (f0 a false)).1.kind=kind:=by intro b kind a;exact⟨by kernel_rfl,by kernel_rfl⟩
theorem Nz:∀(b:Nat) (kind:adb) (a:Fl),bc (W4 prog ng b kind (f0 a false)).1=some (ng.Fu,[pt b 1,ff])/\(W4 prog ng b kind (f0 a false)).1.kind=kind:=by intro b kind a;exact⟨by kernel_rfl,by kernel_rfl⟩
theorem NA:∀(b:Nat) (kind:adb) (a:Fl),bc (W5 prog ng b kind (f0 a false)).1=some (ng.v7,[pt b 0])/\wC (W5 prog ng b kind (f0 a false))=true:=by intro b kind a;exact⟨by kernel_rfl,by kernel_rfl⟩
theorem NB:∀(b:Nat) (kind:adb) (a:Fl),bc (Tn prog ng b kind (f0 a false)).1=some (ng.en,[])/\(Tn prog ng b kind (f0 a false)).1.kind=kind:=by intro b kind a;exact⟨by kernel_rfl,by kernel_rfl⟩
theorem NC:∀(b:Nat) (kind:adb) (a:Fl),kG (Ux prog ng b kind (f0 a false)).1=some (ng.tG,ng.tU,pt b 0):=by intro b kind a;kernel_rfl
theorem ND:∀(b:Nat) (kind:adb) (a:Fl),bc (Tp prog ng b kind (f0 a false)).1=some (ng.acq,[pt b 0])/\(Tp prog ng b kind (f0 a false)).1.kind=kind:=by intro b kind a;exact⟨by kernel_rfl,by kernel_rfl⟩
theorem NF:∀(b:Nat) (kind:adb) (a:Fl),kg (QT prog ng b kind (f0 a false)).1 ng.wait=true/\(QT prog ng b kind (f0 a false)).2=[]/\(QT prog ng b kind (f0 a false)).1.kind=kind:=by intro b kind a;exact⟨by kernel_rfl,by kernel_rfl,by kernel_rfl⟩
theorem Ra:gL prog ng where
 a0:=M5
 a1:=M6
 a2:=M7
 a3:=M8
 a4:=M9
 a5:=Na
 a6:=Nb
 d0:=Nc
 d1:=Nd
 d2:=Nf
 d3:=Ng
 d4:=Nh
 d5:=Ni
 Ya:=JY
 d6:=Nj
 Yb:=JZ
 d7:=Nk
 d8:=Nl
 d9:=Nm
 da:=Nn
 db:=No
 w0:=Np
 w1:=Nq
 w2:=Nr
 w3:=Ns
 w4:=Nt
 w5:=Nu
 w6:=Nv
 w7:=Nw
 w8:=Nx
 w9:=Ny
 wa:=Nz
 wb:=NA
 wc:=NB
 wd:=NC
 we:=ND
 wf:=NF
theorem Rb:iF prog ng where
 jv:=⟨_,rfl,rfl,rfl,rfl,rfl⟩
 en:=⟨_,rfl,rfl,rfl,rfl,rfl⟩
 acq:=⟨_,rfl,rfl,rfl,rfl,rfl⟩
 rel:=⟨_,rfl,rfl,rfl,rfl,rfl⟩
 rd:=⟨_,rfl,rfl,rfl,rfl,rfl⟩
 wr:=⟨_,rfl,rfl,rfl,rfl,rfl⟩
 Pn:=⟨_,rfl,rfl,rfl,rfl,rfl⟩
 sY:=⟨_,rfl,rfl,rfl,rfl,rfl⟩
 v7:=⟨_,rfl,rfl,rfl,rfl,rfl⟩
 IB:=⟨_,rfl,rfl,rfl,rfl,rfl⟩
 xE:=⟨_,rfl,rfl,rfl,rfl,rfl⟩
 Fu:=⟨_,rfl,rfl,rfl,rfl,rfl⟩
 oC:=⟨_,rfl,rfl,rfl,rfl,rfl⟩
 Yc:=⟨_,rfl,rfl,rfl⟩
 Yd:=⟨_,rfl,rfl,rfl⟩
 RN:=⟨_,_,rfl,rfl,rfl,rfl⟩
 Lu:=⟨_,_,rfl,rfl,rfl,rfl⟩
 Lv:=⟨_,_,rfl,rfl,rfl,rfl⟩
end
open Go.cE Go.Conc
set_option maxRecDepth 4000
variable{m:Mo}{σ:af}{KF:acJ}
theorem Si:mC prog nn:=⟨⟨_,_,Tryz.func104,rfl,rfl,rfl⟩,⟨_,_,Tryz.func105,rfl,rfl,rfl⟩⟩
section
variable{b mb:Nat}{f:Fr}{A:bN}{j:Nat}{begun:acX}
theorem Gs{b}(a:A.ng=ng){body}(hb:Tryz.f183.body=some body):aa prog (xK prog A) 183 4 none [] [.code body] ⟨du [.ref A.gb 0,.cp (.chan A.cF) 0],jM A.fb,[],.told .deferred [cG prog] b⟩ (λ_ _=>False):=by
 simp only[Tryz.f183,kn]at hb;subst hb;refine aa.runN lay [] 2 ?_;simp;refine aa.Mf rfl (by rw[a];rfl) rfl (by simp) (by rw[a];exact Tryz.func106) rfl rfl rfl ?_;apply rn;simp;exact aa.FX rfl rfl (by simp) rfl rfl rfl rfl rfl Tryz.func183 rfl rfl
theorem yv{T}(U:A.fb=b/\A.mb=mb/\A.fo=6/\A.nm=nn/\A.ng=ng/\A.dir=false)(V:∀x,A.GI x↔∃l,x=mapA .u8 l/\kR f l)(W:f.Good)(N:A.res j=int (aI f begun).length)(t:begun.length<1152921504606846976)(hlen:(aI f begun).length<1152921504606846976){body}(hb:Tryz.f182.body=some body):
 aa prog (iv prog A j) 182 13 none [] [.code body] ⟨du [.ref A.gb 0,.cp (kQ b mb f 0) 0,.cp (ints begun) 0,.cp (.chan A.cF) 0],jM A.fb,[],.told .deferred [cG prog] T⟩ (λ_ _=>False):=by
 obtain⟨rfl,rfl,u,v,m,g⟩:=U;simp only[Tryz.f182,kn]at hb;subst hb;have O:=Mh (P:=prog) (A:=A) g (j:=j) (kd:=.u8) V;rw[u,v]at O;apply rn;simp;refine aa.defer rfl rfl rfl rfl (by simp) rfl ?_
 apply rn;simp;refine bM.intro λcn X=>?_
 simp;refine cf Tryz.func119 rfl (B9 (begun:=begun) (sp:=.any) ?_);apply rn;simp;refine aa.rangeFunc rfl λw r l y Q n=>?_
 obtain⟨r1,Y,y⟩:=af.aP y;obtain⟨Z,q,Q⟩:=af.aP Q;generalize o:vh.mk _ _ _ _ _ _ _ _ _=z
 have hY:Tx (iv prog A j) (.fn (.yield l) [] []) (aI f begun) (λk F a=>(∀c,F c↔c=l\/c=cn)/\a l=some (.loop z)/\a cn=some (.cells [int k])) (λF a=>False):=by
  refine⟨λk F a a7 hk i hT hF=>?_,λk F B C he i=>?_,λF B C he i=>i.elim,λk F a c i h=>?_⟩
  . obtain⟨d,s,D⟩:=i
    have e3:∀x,(a.set l x) cn=some (.cells [int k]):=λx=>(af.ai _ _ q).trans D
    have f1:-9223372036854775808<=(k:Int)+1/\(k:Int)+1<=9223372036854775807:=by omega
    subst o;refine bK.uy (hold:=[]) w Tryz.func182 s rfl ?_;apply rn;simp[lG];refine aa.beginRound s rfl ?_;apply rn;simp[e3,f1.1,f1.2];refine⟨rfl,rfl,_,((af.ai _ _ Z).trans (af.aj _ _ _)),?_⟩;refine hT F _ (λc x h hx=>⟨?_,h⟩) ⟨d,af.aj _ _ _,(af.ai _ _ q).trans (af.aj _ _ _)⟩
    have R:c≠l:=λe=>h ((d c).2 (.inl e))
    have c2:c≠cn:=λe=>h ((d c).2 (.inr e))
    exact(af.ai _ _ R).trans ((af.ai _ _ c2).trans ((af.ai _ _ R).trans hx))
  . simp_all
  . obtain⟨d,s,D⟩:=i
    rcases(d c).1 h with rfl|rfl
    . exact⟨_,s,rfl⟩
    . exact⟨_,D,rfl⟩
 have hu:Yk A.fb (((jM A.fb).set cn (.cells [int 0])).set r (.raw (.deferred (some [])))|>.set l (.loop z)):=by
  have h0:(jM A.fb) A.fb=some .gT:=by simp[jM]
  have E:A.fb≠cn:=λe=>by simp_all
  have S:A.fb≠r:=λe=>by simp_all
  have G:A.fb≠l:=λe=>by simp_all
  show _=_;rw[af.ai _ _ G,af.ai _ _ S,af.ai _ _ E];exact h0
 have nb:∀c,(jM A.fb) c=none->c≠A.fb:=λc h e=>by subst e;simp[jM]at h
 have sr:(((jM A.fb).set cn (.cells [int 0])).set r (.raw (.deferred (some [])))|>.set l (.loop z)) r=some (.raw (.deferred (some []))):=(af.ai _ _ n).trans (af.aj _ _ _)
 refine dh Tryz.func155 rfl rfl rfl (yu (F:=λc=>c=l\/c=cn) O W t hY ⟨rfl,rfl⟩ hu ⟨λc=>aaE,af.aj _ _ _,(af.ai _ _ q).trans ((af.ai _ _ Y).trans (af.aj _ _ _))⟩ λF' a H I p=>?_)
 have J:=(H r _ sr (λe=>by omega) (nb r y) (.inr rfl)).1
 rcases p with⟨_,E,S⟩|hE
 . subst o
   refine⟨_,E,by simp,rfl,?_⟩
   have K:(a.del l) cn=some (.cells [int (aI f begun).length]):=by simp only[af.del,q,Rp];omega
   have L:(a.del l) A.fb=some .gT:=by
    have G:A.fb≠l:=λe=>by grind
    simp only[af.del,G,Rp];exact I
   have M:(a.del l) r=some (.raw (.deferred (some []))):=by simp only[af.del,n,Rp];exact J
   apply rn;simp[K];refine aa.Me g rfl rfl (by simp) rfl rfl (by simp_all) L rfl rfl Tryz.func182 rfl (by rw[m];exact Tryz.func102) rfl rfl ?_
   apply rn;simp;refine⟨rfl,.inl rfl,⟨_,rfl⟩,r,by rw[m],M⟩
 simp_all
end
def jE(j:Nat):acX:=if j=0 then[0,0]else[0,1]
def ib(f:Fr):Int:=if f.aD.length<2 then 1 else(aI f [0,0]).length+(aI f [0,1]).length
theorem Rc{v d}(l:v.cells=[v])(m:d.cells=[d])(h:v.W d):(AV.cp v 0).W (.cp d 0):=λk x n=>by
 cases n with
 | cp b base off N E v c o p f g=>
   rw[l]at p f g;refine .cp b base 0 N E d c o (by simp_all) (λj i=>f j (by simp_all)) (λj a e=>?_);rw[m]at e;have i:j=0:=by grind
   subst i;simp at e;subst e;exact h k _ (g 0 v rfl)
section
variable{b mb:Nat}{f:Fr}
theorem NG(U:m.solo=true)(A:f.Good)(hlen:(aI f [0,0]).length<1000000000/\(aI f [0,1]).length<1000000000)(q:b≠mb)(L:Tu b 6 mb .u8 (kR f) σ)(h:∀σ',Tu b 6 mb .u8 (kR f) σ'->pw b mb σ σ'->KF (.val (int (ib f))) σ'):aA prog m 150 [kQ b mb f 0] σ KF:=by
 have h6:=A.px;unfold ib at h;refine fs [] Tryz.func150 rfl (by kernel_rfl) ?_
 simp[Tryz.f150]
 by_cases M:f.aD.length<2
 . have k:(f.aD.length:Int)<2:=by omega
   rw[aal M]at h;simp[k];exact .done (h σ L (pw.refl b mb σ))
 have k:¬(f.aD.length:Int)<2:=by omega
 rw[aaj M]at h;obtain⟨V,lm,N,W⟩:=L;simp[k];refine DK lay rfl HQ rfl rp rfl (by decide) λcF X=>?_
 apply rn;simp;refine bM.intro λy r=>?_
 obtain⟨n1,Y,r⟩:=af.aP r;simp;refine bM.intro λgb g=>?_
 obtain⟨Z,n4,g⟩:=af.aP g;obtain⟨n5,O,g⟩:=af.aP g;simp;have P:cF≠b:=λe=>by simp_all
 have Q:cF≠mb:=λe=>by simp_all
 have b3:y≠b:=λe=>by simp_all
 have m3:y≠mb:=λe=>by simp_all
 have s:gb≠b:=λe=>by simp_all
 have gm:gb≠mb:=λe=>by simp_all
 refine aa.bt 3 (b:=y) (.chan cF) (by simp[n4,af.ai]) (by simp) rfl ?_
 refine aa.cd U ⟨2,false,cF,b,6,gb,mb,λx=>∃l,x=mapA .u8 l/\kR f l,λj=>int (aI f (jE j)).length,λ_=>.tuple #[],nn,ng,by omega,P,O,Q,za s,q,gm⟩ rfl Ra Rb Ax Ay Si (tm:=false) (a:=mapA .u8 lm) (by simp[af.del,af.ai,Y,O]) (by simp[af.del,Z]) (by simp[af.del,af.set,za b3,za s,za P,V]) (by simp[af.del,af.set,za m3,za gm,za Q,N]) (by simp[mapA,m8]) ⟨lm,rfl,W⟩ rfl λpb a7 Fin kd a8 k0 t=>?_
 refine aa.uT ?_;refine aa.runN lay [] 18 ?_;simp;refine bM.intro λB C=>?_
 have d:B≠b:=λe=>by simp_all
 simp
 change aa _ _ _ _ _ _ _ _ _
 refine aa.bt 6 (b:=B) (.sl 1 [int 0,int 0] .exact) (af.aj _ _ _) (by simp) rfl ?_
 refine aa.HO 6 (a':=.cp (ints [0,0]) 0) (by simp;exact Rc rfl rfl (fS 1 [int 0,int 0] .exact)) ?_
 refine aa.Mc rfl rfl rfl (by simp) Tryz.func100 rfl rfl rfl ?_
 apply rn;simp;refine aa.uh (hold':=[]) rfl rfl rfl (by simp) rfl Tryz.func182 rfl rfl (by simp_all) (by simp[gN.at,af.del,af.set,za d]) (by kernel_rfl) (λR=>yv (b:=b) (mb:=mb) (f:=f) (begun:=[0,0]) ⟨rfl,rfl,rfl,rfl,rfl,gN.xZ _ _ _⟩ (λx=>aaE) A rfl (by simp) (by omega) rfl) ?_
 apply rn;simp;refine aa.again (by kernel_rfl) ?_
 refine aa.runN lay [] 18 ?_;simp;refine bM.intro λD u=>?_
 have n:D≠b:=λe=>by subst e;simp[af.del,af.set,za d]at u
 simp
 change aa _ _ _ _ _ _ _ _ _
 refine aa.bt 6 (b:=D) (.sl 1 [int 0,int 1] .exact) (af.aj _ _ _) (by simp) rfl ?_
 refine aa.HO 6 (a':=.cp (ints [0,1]) 0) (by simp;exact Rc rfl rfl (fS 1 [int 0,int 1] .exact)) ?_
 refine aa.Mc rfl rfl rfl (by simp) Tryz.func100 rfl rfl rfl ?_
 apply rn;simp;refine aa.uh (hold':=[]) rfl rfl rfl (by simp) rfl Tryz.func182 rfl rfl (by simp_all) (by simp[gN.at,af.del,af.set,za n,za d]) (by kernel_rfl) (λR=>yv (b:=b) (mb:=mb) (f:=f) (begun:=[0,1]) ⟨rfl,rfl,rfl,rfl,rfl,gN.xZ _ _ _⟩ (λx=>aaE) A rfl (by simp) (by omega) rfl) ?_
 apply rn;simp;refine aa.again (by kernel_rfl) ?_
 apply rn;simp;refine aa.Xe (by exact gN.xZ _ _ _) (hold':=[]) rfl rfl rfl (by simp) rfl Tryz.func183 rfl rfl (by simp_all) (by simp[gN.at,af.del,af.set,za n,za d]) (by kernel_rfl) (λR=>Gs rfl rfl) ?_
 apply rn;simp;refine aa.uT ?_;apply rn;simp;refine aa.HN lay rfl rfl HQ rfl rp (by simp) rfl rfl λi E=>?_
 have a9:∀j,(aI f (jE j)).length<1000000000:=λj=>by unfold jE;grind
 have f1:-9223372036854775808<=((aI f (jE i)).length:Int)/\((aI f (jE i)).length:Int)<=9223372036854775807:=by grind
 apply rn;simp[gN.at,f1.1,f1.2];refine aa.again (by kernel_rfl) ?_
 apply rn;simp;refine aa.HN lay rfl rfl HQ rfl rp (by simp) rfl rfl λo F=>?_
 have S:-9223372036854775808<=((aI f (jE i)).length:Int)+((aI f (jE o)).length:Int)/\((aI f (jE i)).length:Int)+((aI f (jE o)).length:Int)<=9223372036854775807:=by grind
 apply rn;simp[S.1,S.2];refine aa.again (by kernel_rfl) ?_
 apply rn;simp;refine aa.BY lay rfl rfl HQ rfl rp (by simp) rfl rfl (by simp[af.del,af.set,za n,za d]) rfl t λa ha=>?_
 apply rn;simp
 have v:((aI f (jE i)).length:Int)+((aI f (jE o)).length:Int)=((aI f [0,0]).length:Int)+((aI f [0,1]).length:Int):=by
  have p:i∈List.range 2:=E;have z:o∈(List.range 2).erase i:=F;have:i=0\/i=1:=by simp_all
  rcases this with rfl|rfl
  . have:o=1:=by simp_all
    subst this;rfl
  . have:o=0:=by simp_all
    subst this;exact Int.add_comm _ _
 rw[v];obtain⟨la,rfl,G⟩:=ha;refine .done (h _ ⟨af.aj _ _ _,la,(af.ai _ _ (za q)).trans (af.aj _ _ _),G⟩ λc x p z w=>?_)
 have H:c≠mb:=λe=>by
  subst e;rw[N]at p;cases p
  rcases w with w|w
  . exact w rfl
  . cases w
 have I:c≠cF:=λe=>by simp_all
 have J:c≠y:=λe=>by simp_all
 have K:c≠gb:=λe=>by simp_all
 have T:c≠B:=λe=>by subst e;simp[af.del,af.set,H,I,J,K,z,p]at C
 have e6:c≠D:=λe=>by subst e;simp[af.del,af.set,H,I,J,K,T,z,p]at u
 simp[af.del,af.set,H,I,J,K,T,e6,z,p]
end
section
variable{b mb:Nat}{f:Fr}{Un:ada}{Ld:af->acE->Prop}
theorem Gt(Q:Mg prog m nn b 6 mb .u8 (kR f) Un Ld)(hf:f.Good){G p}(z:G.cells=[G]/\G.flat=true)(U:∀w∈aI f [],∀  σ   KF ,KF (.val (bool (p w))) σ->bK prog m G [ints w] σ KF)(hlen:(aI f []).length<1152921504606846976)(hu:Un σ)
 (h:∀σ',Un σ'->pw b mb σ σ'->KF (.val (.cq [int (((aI f []).filter p).length),int (aI f []).length])) σ'):aA prog m 85 [kQ b mb f 0,G] σ KF:=by
 refine fs Vm Tryz.func85 rfl (by kernel_rfl) ?_
 simp[Tryz.f85,z.1,z.2];refine bM.intro λj h6=>?_
 simp;refine bM.intro λd h7=>?_
 obtain⟨R,z2,h7⟩:=af.aP h7;simp[R,z2,af.ai];have hW:Wl [kQ b mb f 0,AV.lit (.slice none 0 0)] [kQ b mb f 0,ints []]:=.cons (.refl _) (.cons (eU 1) .nil);refine bS Tryz.func119 rfl rfl hW (B9 (begun:=[]) ?_);apply rn;simp;refine aa.rangeFunc rfl λV r l t u H=>?_
 obtain⟨a1,_,t⟩:=af.aP t;obtain⟨a2,_,t⟩:=af.aP t;obtain⟨_,_,t⟩:=af.aP t;obtain⟨_,_,t⟩:=af.aP t;obtain⟨a3,_,u⟩:=af.aP u;obtain⟨a4,_,u⟩:=af.aP u;obtain⟨_,_,u⟩:=af.aP u;obtain⟨_,_,u⟩:=af.aP u;have I:σ r=none/\r≠j/\r≠d:=⟨t,a2,a1⟩;have a:σ l=none/\l≠j/\l≠d:=⟨u,a4,a3⟩;generalize J:vh.mk _ _ _ _ _ _ _ _ _=K
 have hY:Tx m (.fn (.yield l) [] []) (aI f []) (λk F σ'=>(∀c,F c↔c=l\/c=j\/c=d)/\σ' l=some (.loop K)/\σ' j=some (.cells [int ((((aI f []).take k).filter p).length)])/\σ' d=some (.cells [int k])) (λF σ'=>False):=by
  refine⟨λk F σ' ad hk D hT hF=>?_,λk F W n he D=>?_,λF W n he D=>D.elim,λk F σ' c D o=>?_⟩
  . obtain⟨i,S,X,Y⟩:=D
    have e7:∀x,(σ'.set l x) d=some (.cells [int k]):=λx=>(af.ai _ _ (za a.2.2)).trans Y
    have f1:-9223372036854775808<=(k:Int)+1/\(k:Int)+1<=9223372036854775807:=by omega
    have av:(((aI f []).take k).filter p).length<=k:=aar (aaU _ _) (by grind)
    have f2:-9223372036854775808<=((((aI f []).take k).filter p).length:Int)+1/\((((aI f []).take k).filter p).length:Int)+1<=9223372036854775807:=by omega
    have Z:(((aI f []).take (k+1)).filter p).length=(((aI f []).take k).filter p).length+if p (aI f [])[k]then 1 else 0:=by
     rw[zG hk,abt,aas]
     grind
    have L:(aI f [])[k]∈aI f []:=zD hk;subst J;refine bK.uy (hold:=Vm) V Tryz.func85 S rfl ?_;apply rn;simp[lG];refine aa.beginRound S rfl ?_;apply rn;simp[e7,f1.1,f1.2,z.1];refine U _ L _ _ ?_;have e6:∀x y,((σ'.set l x).set d y) j=some (.cells [int ((((aI f []).take k).filter p).length)]):=λx y=>(af.ai _ _ (za R)).trans ((af.ai _ _ (za a.2.1)).trans X)
    cases hp:p (aI f [])[k]
    . apply rn
      simp;refine⟨rfl,rfl,_,((af.ai _ _ a.2.2).trans (af.aj _ _ _)),?_⟩;refine hT F _ (λc x o hx=>⟨?_,o⟩) ⟨i,af.aj _ _ _,?_,(af.ai _ _ (za a.2.2)).trans (af.aj _ _ _)⟩
      . have A:c≠l:=λe=>o ((i c).2 (.inl e))
        have M:c≠d:=λe=>o ((i c).2 (.inr (.inr e)))
        exact(af.ai _ _ A).trans ((af.ai _ _ M).trans ((af.ai _ _ A).trans hx))
      . refine(af.ai _ _ (za a.2.1)).trans ((e6 _ _).trans ?_)
        simp_all
    . apply rn
      simp[e6,f2.1,f2.2];refine⟨rfl,rfl,_,((af.ai _ _ a.2.1).trans ((af.ai _ _ a.2.2).trans (af.aj _ _ _))),?_⟩;refine hT F _ (λc x o hx=>⟨?_,o⟩) ⟨i,af.aj _ _ _,?_,(af.ai _ _ (za a.2.2)).trans ((af.ai _ _ R).trans (af.aj _ _ _))⟩
      . have A:c≠l:=λe=>o ((i c).2 (.inl e))
        have T:c≠j:=λe=>o ((i c).2 (.inr (.inl e)))
        have M:c≠d:=λe=>o ((i c).2 (.inr (.inr e)))
        exact(af.ai _ _ A).trans ((af.ai _ _ T).trans ((af.ai _ _ M).trans ((af.ai _ _ A).trans hx)))
      . refine(af.ai _ _ (za a.2.1)).trans ((af.aj _ _ _).trans ?_)
        simp_all
  . simp_all
  . obtain⟨i,S,X,Y⟩:=D
    rcases(i c).1 o with rfl|rfl|rfl
    . exact⟨_,S,rfl⟩
    . exact⟨_,X,rfl⟩
    . exact⟨_,Y,rfl⟩
 obtain⟨xb,ax,ay⟩:=Q.Tt hu;have nb:∀c,σ c=none->c≠b:=λc o e=>by simp_all
 have N:σ.Le ((((((σ.set j (.cells [int 0])).set d (.cells [int 0])).set j (.cells [int 0])).set d (.cells [int 0])).set r (.raw (.deferred (some [])))).set l (.loop K)):=(by repeat (first|exact af.le_refl _|assumption|refine af.fj ?_ (by assumption)|refine af.lJ ?_ (by assumption)))
 have sr:((((((σ.set j (.cells [int 0])).set d (.cells [int 0])).set j (.cells [int 0])).set d (.cells [int 0])).set r (.raw (.deferred (some [])))).set l (.loop K)) r=some (.raw (.deferred (some []))):=(af.ai _ _ H).trans (af.aj _ _ _);have s7:((((((σ.set j (.cells [int 0])).set d (.cells [int 0])).set j (.cells [int 0])).set d (.cells [int 0])).set r (.raw (.deferred (some [])))).set l (.loop K)) d=some (.cells [int 0]):=(af.ai _ _ (za a.2.2)).trans ((af.ai _ _ (za I.2.2)).trans (af.aj _ _ _))
 have s6:((((((σ.set j (.cells [int 0])).set d (.cells [int 0])).set j (.cells [int 0])).set d (.cells [int 0])).set r (.raw (.deferred (some [])))).set l (.loop K)) j=some (.cells [int 0]):=(af.ai _ _ (za a.2.1)).trans ((af.ai _ _ (za I.2.1)).trans ((af.ai _ _ (za R)).trans (af.aj _ _ _)));refine dh Tryz.func155 rfl rfl rfl (yu (F:=λc=>c=l\/c=j\/c=d) Q hf (by simp) hY ⟨rfl,rfl⟩ (Q.un (λc _ ⟨x,s,_⟩=>(N _ _ s).trans s.symm) hu) ⟨λc=>aaE,af.aj _ _ _,by simp_all,by omega⟩ λF' σ' O a7 v=>?_)
 have P:=(O r _ sr (λe=>by omega) (nb r t) (.inr rfl)).1
 have B:pw b mb σ σ':=λc x s E C=>(O c x (N c x s) (λe=>by grind) E C).1
 have a8:∀n,n=(σ'.del l).set r (.raw (.deferred none))->Un n/\pw b mb σ n:=λn e=>by
  subst e;refine⟨Q.un (σ:=σ') (λc _ ⟨x,s,E⟩=>?_) a7,λc x s E C=>?_⟩
  . have c1:c≠r:=λe=>by subst e;rw[P]at s;cases s;cases E
    have c2:c≠l:=λe=>by
     subst e
     rcases v with⟨_,g,_⟩|g
     . rw[g]at s;cases s;cases E
     omega
    rw[af.ai _ _ c1];simp[af.del,c2]
  . have c1:c≠r:=λe=>by simp_all
    have c2:c≠l:=λe=>by simp_all
    rw[af.ai _ _ c1];simp only[af.del,c2,Rp];exact B c x s E C
 rcases v with⟨_,A,T,M⟩|q
 . rw[aav]at T
   subst J;refine⟨_,A,by simp,rfl,?_⟩
   have a9:(σ'.del l) j=some (.cells [int ((aI f []).filter p).length]):=by simp only[af.del,za a.2.1,Rp];exact T
   have ab:(σ'.del l) d=some (.cells [int (aI f []).length]):=by simp only[af.del,za a.2.2,Rp];exact M
   apply rn;simp[a9,ab];apply rn;simp;refine⟨by simp only[af.del,H,Rp];exact P,.done ?_⟩
   simp_all
 simp_all
end
theorem Az  f   begun :∀  fuel   way   many   c ,∀w∈fW f begun fuel way many c,w.length=way.length+fuel
 |0,way,many,c,w,b=>by simp[fW]at b;grind
 | fuel+1,way,many,c,w,b=>by
   rw[sd,abn]at b;obtain⟨k,_,a⟩:=b;unfold py at a;split at a
   . cases a
   split at a
   . have:=Az f begun fuel _ _ _ w a
     grind
   . cases a
section
variable{b mb:Nat}{f:Fr}{Un:ada}{Ld:af->acE->Prop}
def il(x y:Int)(w:acX):Bool:=decide (w.getD x.toNat 0=w.getD y.toNat 0)
theorem NH{w x y}(a:0<=x/\x.toNat<w.length)(b:0<=y/\y.toNat<w.length)(h:KF (.val (bool (il x y w))) σ):aA prog m 86 [ints w,.cp (int x) 0,.cp (int y) 0] σ KF:=by
 have c:w.getD x.toNat 0=w[x.toNat]:=by simp_all
 have d:w.getD y.toNat 0=w[y.toNat]:=by simp_all
 unfold il at h;rw[c,d]at h;refine fs Xo Tryz.func86 rfl (by kernel_rfl) ?_;simp[Tryz.f86,a.1,a.2,b.1,b.2];apply rn;simp;refine .done ?_;omega
theorem Qa(c:Mg prog m nn b 6 mb .u8 (kR f) Un Ld)(d:f.Good){x y}(e:0<=x/\x.toNat<f.aD.length)(g:0<=y/\y.toNat<f.aD.length)(hlen:(aI f []).length<1152921504606846976)(i:Un σ)
 (h:∀σ',Un σ'->pw b mb σ σ'->KF (.val (int (ia (((aI f []).filter (il x y)).length:Int) (aI f []).length))) σ'):aA prog m 48 [kQ b mb f 0,int x,int y] σ KF:=by
 have a:∀w∈aI f [],w.length=f.aD.length:=λw a=>by have:=Az f [] _ _ _ _ w a;simp_all
 refine fs [] Tryz.func48 rfl (by kernel_rfl) ?_
 simp[Tryz.f48];refine cf Tryz.func85 rfl (Gt c d (p:=il x y) ⟨rfl,rfl⟩ (λw j σ KF k=>dh Tryz.func86 rfl rfl rfl (NH ⟨e.1,by simp_all⟩ ⟨g.1,by simp_all⟩ k)) hlen i λσ' l n=>?_)
 apply rn;simp;refine cf Tryz.func84 rfl (Gc ?_);apply rn;simp;exact .done (h σ' l n)
end
theorem J0(r:m.solo=true){f}{l:acX}{sp}(o:f.Fits)(p:check f=0)(s:∀n∈l,0<=n/\n<f.aD.length)(j:l.length<1152921504606846976)(g:aI f []≠[])(h:∀b mb σ',b≠mb->Tu b 6 mb .u8 (kR f) σ'->σ b=none/\σ mb=none->σ.Le σ'->KF (.val (.cq [kQ b mb f 0,int 0])) σ'):aA prog m 47 [cy f,.sl 1 (l.map int) sp] σ KF:=by
 have t:=Fr.nQ o p;have u:=Gb p s;refine fs [] Tryz.func47 rfl (by kernel_rfl) ?_
 simp[Tryz.f47];have v:Wl [AV.agg (DX f),.sl 1 (l.map int) sp] [cy f,ints l]:=.cons (.refl _) (.cons (fS 1 _ sp) .nil);refine bS Tryz.func82 rfl rfl v (B4 o j (λq=>absurd u q) λ_ b mb σ' d=>?_)
 have w:Tu b 6 mb .u8 (kR f) σ':=by rw[d.eq];exact⟨af.aj _ _ _,[],(af.ai _ _ (za d.ne)).trans (af.aj _ _ _),λn a h=>by simp[dq]at h⟩
 apply rn;simp;refine cf Tryz.func83 rfl (P9 (DR Ax Ay Si r d.ne) t w λk y z=>?_)
 apply rn;simp[g];refine .done (h b mb k d.ne y ⟨d.hb,d.Cy⟩ λc x i=>?_)
 have A:c≠b:=λe=>by subst e;rw[d.hb]at i;cases i
 have B:c≠mb:=λe=>by subst e;rw[d.Cy]at i;cases i
 exact z c x (d.le c x i) A (.inl B)
theorem Qb(j:m.solo=true){f}{x y:Int}(k:f.Fits)(o:check f=0)(d:0<=x/\x<f.aD.length)(p:0<=y/\y<f.aD.length)(a:aI f []≠[])(hlen:(aI f []).length<1152921504606846976)(h:KF (.val (.cq [int (ia (((aI f []).filter (il x y)).length:Int) (aI f []).length),int 0])) σ):aA prog m 22 [cy f,int x,int y] σ KF:=by
 have q:=Fr.nQ k o;refine fs [] Tryz.func22 rfl (by kernel_rfl) ?_;simp[Tryz.f22];refine cf Tryz.func47 rfl (J0 (l:=[x,y]) (sp:=.exact) j k o (λn A=>by grind) (by simp) a λb mb r g s t i=>?_);apply rn;simp;refine cf Tryz.func48 rfl (Qa (DR Ax Ay Si j g) q ⟨d.1,by omega⟩ ⟨p.1,by omega⟩ hlen s λu B v=>?_);apply rn;simp;refine .less (λc x d=>?_) (.done h);have w:c≠b:=λe=>by simp_all
 have z:c≠mb:=λe=>by simp_all
 exact v c x (i c x d) w (.inl z)
theorem NI(l:m.solo=true){f}(j:f.Fits)(k:check f=0)(hlen:(aI f [0,0]).length<1000000000/\(aI f [0,1]).length<1000000000)(h:KF (.val (.cq [int (ib f),int 0])) σ):aA prog m 111 [cy f] σ KF:=by
 have o:=Fr.nQ j k;have p:=vM k;refine fs [] Tryz.func111 rfl (by kernel_rfl) ?_
 simp[Tryz.f111];have r:Wl [AV.agg (DX f),AV.lit (.slice none 0 0)] [cy f,ints []]:=.cons (.refl _) (.cons (eU 1) .nil);refine bS Tryz.func82 rfl rfl r (B4 j (by simp) (λq=>absurd p q) λ_ b mb i d=>?_)
 have s:Tu b 6 mb .u8 (kR f) i:=by rw[d.eq];exact⟨af.aj _ _ _,[],(af.ai _ _ (za d.ne)).trans (af.aj _ _ _),λn a h=>by simp[dq]at h⟩
 apply rn;simp;refine cf Tryz.func150 rfl (NG l o hlen d.ne s λt y u=>?_)
 apply rn;simp;refine .less (λc x g=>?_) (.done h)
 have v:c≠b:=λe=>by subst e;rw[d.hb]at g;cases g
 have w:c≠mb:=λe=>by subst e;rw[d.Cy]at g;cases g
 exact u c x (d.le c x g) v (.inl w)
theorem Sj{f l}(j:f.Fits)(k:check f=0)(c:Sa f l)(g:l.length<20)(h:KF (.val (.cq [bool (decide (jD f l=0)),int 0])) σ):aA prog m 95 [cy f,ints l] σ KF:=by
 refine fs [] Tryz.func95 rfl (by kernel_rfl) ?_;simp[Tryz.f95];refine cf Tryz.func125 rfl (Ja j k c λb mb n o=>?_);apply rn;simp;refine cf Tryz.func126 rfl (Mw (Fr.nQ j k) ⟨c.mem,c.ne,c.len⟩ g ?_);apply rn;simp;refine dT lay rfl Q6 rfl (isNil:=decide (jD f l=0)) ?_ (.inl ⟨rfl,rfl⟩) ?_
 . by_cases i:jD f l=0
   . left
     refine⟨?_,by simp[i]⟩;simp[i];rfl
   . right
     obtain⟨d,a,e⟩:=Ee i
     simp_all
 apply rn;simp;exact .less o.le (.done h)
def bC(w:acX):Int:=w.foldl (λn k=>max n (k+1)) 0
theorem NJ{l b}(m:l.length=b.length)(f:∀(i:Nat) a a',l[i]?=some a->b[i]?=some a'->a.W a'):(AV.cq l).W (.cq b):=λk x g=>by
 cases g with
 | cq c _ n h=>
   refine .cq c b (by omega) λi v a' j d=>?_
   have e:i<l.length:=by grind
   exact f i l[i] a' (by simp[e]) d k v (h i v _ j (by simp[e]))
theorem HT:∀{es},(∀a∈es,a.cells=[a])->flatten es=es
 |[],_=>rfl
 |a::es,h=>by rw[flatten_cons,h a (ach ..),HT λx b=>h x (abo _ b)];rfl
theorem VK{es d sp}(n:es.length=d.length)(o:∀a∈es,a.cells=[a])(f:∀a∈d,a.cells=[a])(p:∀(i:Nat) a a',es[i]?=some a->d[i]?=some a'->a.W a'):(AV.sl 1 es sp).W (.sl 1 d .any):=λk x q=>by
 cases q with
 | sl b off cap v N E _ _ c h r s w t l y=>
   rw[HT o]at t l;rw[n]at h ⊢;refine .sl b off cap 1 N E d .any c h r s (λe z=>by simp_all) (λj g=>?_) (λj a m=>?_) trivial
   . rw[HT f]at g
     simp_all
   . rw[HT f]at m
     have g:j<es.length:=by grind
     exact p j es[j] a (by simp[g]) m k _ (l j _ (by simp[g]))
 | slnil u=>
   have:d=[]:=by grind
   subst this;exact .slnil u 1 .any (.inl rfl)
theorem qm{l b}(m:l.length=b.length)(f:∀(i:Nat) a a',l[i]?=some a->b[i]?=some a'->a.W a'):(AV.agg l).W (.agg b):=λk x g=>by
 cases g with
 | agg c _ n h=>
   refine .agg c b (by omega) λi v a' j d=>?_
   have e:i<l.length:=by grind
   exact f i l[i] a' (by simp[e]) d k v (h i v _ j (by simp[e]))
def bo(c:Nat)(nums:acX)(k:Nat)(σ:af):Prop:=∃(n:Nat) (s:Int),n<=k/\σ c=some (.cells [ints nums,int n,.lit (.int .u64 s)])
theorem J1{nums}(h:∀c σ',σ c=none->bo c nums 0 σ'->(∀x,x≠c->σ' x=σ x)->KF (.val (.ref c 0)) σ'):aA prog m 10 [ints nums] σ KF:=by
 refine aA.start lay [5] [] 1 Tryz.func10 rfl rfl (by rfl) (by kernel_rfl) ?_;simp[Tryz.f10];refine bM.intro λc a=>?_
 simp;exact .done (h c _ a ⟨0,_,aao _,af.aj _ _ _⟩ λx b=>af.ai _ _ b)
theorem Qc  a b :0<=IntKind.u64.wrap (((BitVec.ofInt 64 a ^^^ BitVec.ofInt 64 b).toNat:Nat):Int)/\IntKind.u64.wrap (((BitVec.ofInt 64 a ^^^ BitVec.ofInt 64 b).toNat:Nat):Int)<18446744073709551616:=by generalize (((BitVec.ofInt 64 a ^^^ BitVec.ofInt 64 b).toNat:Nat):Int)=x;simp only[IntKind.wrap,IntKind.signed,IntKind.bits];simp;omega
theorem NK{x:Int}(h:0<=x/\x<18446744073709551616):0<=x.fdiv (2 ^ min 11 IntKind.u64.bits)/\x.fdiv (2 ^ min 11 IntKind.u64.bits)<9007199254740992:=by
 have e:(2:Int) ^ min 11 IntKind.u64.bits=2048:=by decide
 grind
theorem Qd{c k nums}(B:k<1000000)(C:nums.length<1152921504606846976)(hb:bo c nums k σ)(h:∀  x  σ',0<=x/\x<9007199254740992->bo c nums (k+1) σ'->(∀y,y≠c->σ' y=σ y)->KF (.val (.lit (.int .u64 x))) σ'):aA prog m 44 [.ref c 0] σ KF:=by
 obtain⟨n,s,w,l⟩:=hb;have t:-9223372036854775808<=(n:Int)+1/\(n:Int)+1<=9223372036854775807:=by omega
 obtain⟨fm,d⟩:∃f:Int->Int->Int,∀a b,pz .mul .u64 a b=some (.int .u64 (f a b)):=⟨_,λ_ _=>rfl⟩;obtain⟨D,g,r⟩:∃f:Int->Int->Int,(∀a b,pz .xor .u64 a b=some (.int .u64 (f a b)))/\∀a b,0<=f a b/\f a b<18446744073709551616:=⟨_,λ_ _=>rfl,Qc⟩;refine aA.FY lay [] Xj 27 1 Tryz.func44 rfl rfl (by rfl) (by kernel_rfl) ?_;simp[Tryz.f44,l,t.1,t.2,aK,d];refine aa.jd (λe i=>e 0=.ref c 0/\(∃z,e 3=.lit (.int .u64 z))/\i c=some (.cells [ints nums,int ((n:Int)+1),.lit (.int .u64 s)])/\∀y,y≠c->i y=σ y) (by simp;intro y p;exact af.ai _ _ p) ?_;clear l;rintro env i ⟨o,⟨z,q⟩,l,j⟩;refine aa.runN lay [] 2 ?_;simp[o,l];refine aa.runN lay [] 2 ?_;simp;refine aH.intro (λu=>?_) (λu=>?_)<;>simp[-Int.not_lt,-Int.not_le,-Nat.not_lt,-Nat.not_le]at u
 . have E:(n:Int)<nums.length:=by omega
   have A:n<nums.length:=by omega
   have v:-9223372036854775808<=(n:Int)/\(n:Int)<=9223372036854775807:=by omega
   simp[o,q,l,A,v.1,v.2,d,g];refine aa.jd (λe i=>e 0=.ref c 0/\(∃z,e 3=.lit (.int .u64 z))/\i c=some (.cells [ints nums,int ((n:Int)+1),.lit (.int .u64 s)])/\∀y,y≠c->i y=σ y) (by simp_all) ?_;clear o q l j;rintro env i ⟨o,⟨z,q⟩,l,j⟩;apply rn;simp[o,q,l,d,g,aK];refine aa.jd (λe i=>e 0=.ref c 0/\(∃s,i c=some (.cells [ints nums,int ((n:Int)+1),.lit (.int .u64 s)]))/\∀y,y≠c->i y=σ y) (by refine⟨by simp[o],⟨_,by simp;rfl⟩,λy p=>?_⟩;simp[af.ai,p,j y p]) ?_;clear o q l j;rintro env i ⟨o,⟨z,l⟩,j⟩;apply rn;simp[o,l,d,g];refine .done (h _ i (NK (r _ _)) ⟨n+1,z,by omega,by simp_all⟩ j)
 . simp
   apply rn;simp[o,q,l,d,g,aK];refine aa.jd (λe i=>e 0=.ref c 0/\(∃s,i c=some (.cells [ints nums,int ((n:Int)+1),.lit (.int .u64 s)]))/\∀y,y≠c->i y=σ y) (by refine⟨by simp[o],⟨_,by simp;rfl⟩,λy p=>?_⟩;simp[af.ai,p,j y p]) ?_;clear o q l j;rintro env i ⟨o,⟨z,l⟩,j⟩;apply rn;simp[o,l,d,g];refine .done (h _ i (NK (r _ _)) ⟨n+1,z,by omega,by simp_all⟩ j)
def pH(c:Nat)(nums:acX)(k:Nat)(σ σ':af):Prop:=bo c nums k σ'/\∀y,y≠c->σ' y=σ y
theorem pH.trans{c nums k k' σ σ' a}(h:pH c nums k σ σ')(b:pH c nums k' σ' a):pH c nums k' σ a:=⟨b.1,λy d=>(b.2 y d).trans (h.2 y d)⟩
theorem bo.mono{c nums k k'}(h:bo c nums k σ)(b:k<=k'):bo c nums k' σ:=by obtain⟨n,s,d,a⟩:=h;exact⟨n,s,by omega,a⟩
theorem NL{n}(h:0<=n/\n<18446744073709551616):IntKind.u64.wrap n=n:=by simp only[IntKind.wrap,IntKind.signed,IntKind.bits];simp;omega
theorem Sk{n}(h:-9223372036854775808<=n/\n<=9223372036854775807):IntKind.i64.wrap n=n:=by simp[IntKind.wrap,IntKind.signed,IntKind.bits];omega
section
variable{c k:Nat}{nums:acX}
theorem eu{n}(f:k<1000000)(g:nums.length<1152921504606846976)(i:-4611686018427387904<=n/\n<4611686018427387904)(hb:bo c nums k σ)(h:∀  x  σ',0<=x/\(x<=n\/x=0)->pH c nums (k+1) σ σ'->KF (.val (int x)) σ'):aA prog m 16 [.ref c 0,int n] σ KF:=by
 refine fs [] Tryz.func16 rfl (by kernel_rfl) ?_;simp[Tryz.f16];refine cf Tryz.func44 rfl (Qd f g hb λx σ' j a b=>?_);apply rn;simp;refine aH.intro (λd=>?_) (λd=>?_)<;>simp[-Int.not_lt,-Int.not_le]at d
 . simp
   exact .done (h 0 σ' ⟨by omega,.inr rfl⟩ ⟨a,b⟩)
 . have l:IntKind.u64.wrap n=n:=NL (by omega)
   have o:pz .add .u64 n 1=some (.int .u64 (n+1)):=by show some (Value.int .u64 (IntKind.u64.wrap (n+1)))=_;rw[NL (by omega)]
   obtain⟨r,e,p⟩:∃r:Int,(0<=r/\r<=n)/\pz .rem .u64 x (n+1)=some (.int .u64 r):=by
    refine⟨x.tmod (n+1),⟨Int.tmod_nonneg _ j.1,?_⟩,by simp[pz];omega⟩;have:=Int.tmod_lt_of_pos x (show 0<n+1 by omega);omega
   have q:IntKind.i64.wrap r=r:=Sk (by omega);simp[l,o,p,q];exact .done (h r σ' ⟨e.1,.inl e.2⟩ ⟨a,b⟩)
theorem eM{lo hi}(d:k<1000000)(e:nums.length<1152921504606846976)(f:-1000000000<=lo/\lo<=1000000000)(g:-1000000000<=hi/\hi<=1000000000)(hb:bo c nums k σ)(h:∀  x  σ',lo<=x/\(x<=hi\/x=lo)->pH c nums (k+1) σ σ'->KF (.val (int x)) σ'):aA prog m 13 [.ref c 0,int lo,int hi] σ KF:=by
 have a:-9223372036854775808<=hi-lo/\hi-lo<=9223372036854775807:=by omega
 refine fs [] Tryz.func13 rfl (by kernel_rfl) ?_;simp[Tryz.f13,a.1,a.2];refine cf Tryz.func16 rfl (eu d e ⟨by omega,by omega⟩ hb λx σ' i hd=>?_);have b:-9223372036854775808<=lo+x/\lo+x<=9223372036854775807:=by omega
 apply rn;simp[b.1,b.2];exact .done (h _ σ' ⟨by omega,by omega⟩ hd)
theorem mT{l:acX}{sp}(d:k<1000000)(f:nums.length<1152921504606846976)(i:0<l.length/\l.length<1000000)(hb:bo c nums k σ)(h:∀  x  σ',x∈l->pH c nums (k+1) σ σ'->KF (.val (int x)) σ'):aA prog m 63 [.ref c 0,.sl 1 (l.map int) sp] σ KF:=by
 have a:-9223372036854775808<=(l.length:Int)-1/\(l.length:Int)-1<=9223372036854775807:=by omega
 refine fs [] Tryz.func63 rfl (by kernel_rfl) ?_;simp[Tryz.f63,a.1,a.2];refine cf Tryz.func16 rfl (eu d f ⟨by omega,by omega⟩ hb λx σ' g hd=>?_);have b:x.toNat<l.length:=by omega
 have j:x<l.length:=by omega
 have e:(x.toNat:Int)=x:=by omega
 apply rn;simp[g.1,b];exact .done (h _ σ' (zD b) hd)
theorem wI{n}(b:k<1000000)(d:nums.length<1152921504606846976)(e:0<=n/\n<1000000000)(hb:bo c nums k σ)(h:∀  x  σ',pH c nums (k+1) σ σ'->KF (.val (bool x)) σ'):aA prog m 33 [.ref c 0,int n] σ KF:=by
 have a:-9223372036854775808<=n-1/\n-1<=9223372036854775807:=by omega
 refine fs [] Tryz.func33 rfl (by kernel_rfl) ?_;simp[Tryz.f33,a.1,a.2];refine cf Tryz.func16 rfl (eu b d ⟨by omega,by omega⟩ hb λx σ' f hd=>?_);apply rn;simp;exact .done (h _ σ' hd)
end
structure yw  dV  (e:yn):Prop where
 hour:0<=e.hour/\e.hour<=40
 place:0<=e.place/\e.place<dV
 cU:0<=e.cU/\e.cU<=1
 marks:e.marks.Sublist [0,1,2]
 bu:14<=e.bu/\e.bu<=16
 jJ:0<=e.jJ/\e.jJ<=2
theorem lC{l}(h:l.Sublist [0,1,2]):tD none l=0/\l.length<=3:=by cases h<;>(rename_i h;cases h<;>(rename_i h;cases h<;>(rename_i h;cases h;decide)))
theorem yw.check{dV e}(h:yw dV e):cL dV e=0:=by
 obtain⟨b,c,d,a,f,g⟩:=h;have a:=(lC a).1;unfold cL bz
 grind
theorem qV{σ0 σ σ2 a kk es c}(h:Tok σ0 σ a kk es)(g:σ0 c=none)(i:∃l,σ c=some (.cells l))(d:∀y,y≠c->σ2 y=σ y):Tok σ0 σ2 a kk es:=by
 refine⟨λy x f=>?_,?_⟩
 . have:y≠c:=λe=>by simp_all
   rw[d y this];exact h.1 y x f
 rcases h.2 with q|q|⟨b,e,j,k,m⟩
 . exact .inl q
 . simp_all
 grind
section
variable{c k:Nat}{nums:acX}
theorem Eh{dV}(hk:k+11<1000000)(t:nums.length<1152921504606846976)(b3:0<=dV/\dV<=1000)(hb:bo c nums k σ)(h:∀  e  σ',yw (max dV 1) e->pH c nums (k+11) σ σ'->KF (.val (bx e)) σ'):aA prog m 61 [.ref c 0,int dV] σ KF:=by
 have r1:-9223372036854775808<=dV-1/\dV-1<=9223372036854775807:=by omega
 obtain⟨n0,s0,_,a8⟩:=id hb;refine fs [] Tryz.func61 rfl (by kernel_rfl) ?_
 simp[Tryz.f61];refine bM.intro λc4 h4=>?_
 have n4:c≠c4:=λe=>by simp_all
 have u:∀x,bo c nums k (σ.set c4 x):=λx=>⟨n0,s0,by assumption,by rw[af.ai _ _ n4];exact a8⟩
 simp;refine cf Tryz.func16 rfl (eu (by omega) t ⟨by omega,by omega⟩ (u _) λd b4 b5 I=>?_)
 apply rn;simp;refine cf Tryz.func16 rfl (eu (by omega) t ⟨by omega,by omega⟩ I.1 λg f b6 J=>?_)
 apply rn;simp;refine cf Tryz.func16 rfl (eu (by omega) t ⟨by omega,by omega⟩ J.1 λx3 w b7 K=>?_)
 apply rn;simp;refine cf Tryz.func63 rfl (mT (l:=[d,g,x3]) (by omega) t (by simp) K.1 λF b8 a9 L=>?_)
 apply rn;simp[r1.1,r1.2];refine cf Tryz.func16 rfl (eu (by omega) t ⟨by omega,by omega⟩ L.1 λpl b9 bm M=>?_)
 apply rn;simp;refine cf Tryz.func63 rfl (mT (l:=[0,0,0,1]) (by omega) t (by simp) M.1 λco bw ab N=>?_)
 apply rn;simp;refine cf Tryz.func63 rfl (mT (l:=[14,14,15,15,16]) (by omega) t (by simp) N.1 λG bA ad O=>?_)
 apply rn;simp;refine cf Tryz.func63 rfl (mT (l:=[0,0,1,2]) (by omega) t (by simp) O.1 λsh P al Q=>?_)
 apply rn;simp;refine bM.intro λv h5=>?_
 simp;have o:pH c nums (k+8) (σ.set c4 (.cells [int 0,int 0,int 0,.lit (.slice none 0 0),int 0,int 0])) P:=I.trans (J.trans (K.trans (L.trans (M.trans (N.trans (O.trans Q))))));have R:c4≠c:=za n4;have av:P c4=some (.cells [int 0,int 0,int 0,.lit (.slice none 0 0),int 0,int 0]):=by rw[o.2 c4 R,af.aj]
 have S:v≠c:=λe=>by subst e;obtain⟨_,_,_,q⟩:=Q.1;simp_all
 have A:v≠c4:=λe=>by simp_all
 have ax:σ v=none:=by rw[o.2 v S,af.ai _ _ A]at h5;exact h5
 have ay:0<=F/\F<=40:=by simp at a9;omega
 have aC:0<=co/\co<=1:=by simp at ab;omega
 have aE:14<=G/\G<=16:=by simp at ad;omega
 have aL:0<=sh/\sh<=2:=by simp at al;omega
 have aO:0<=pl/\pl<max dV 1:=by omega
 refine aa.loop 3 (λj s=>∃env σ' a mk,s=⟨env,σ',[],.no⟩/\env 0=.ref c 0/\env 4=.ref c4 0/\env 5=.ref v 0/\env 6=int j/\bo c nums (k+8+j) σ'/\σ' c4=some (.cells [int 0,int 0,int 0,.lit (.slice none 0 0),int 0,int 0])/\σ' v=some (.cells [int F,int pl,int co,a,int G,int sh])/\Tok (σ.del c) σ' a 1 (mk.map int)/\mk.Sublist ((List.range j).map λi:Nat=>(i:Int))) ⟨_,_,.lit (.slice none 0 0),[],rfl,by simp,by simp,by simp,by simp,?_,?_,?_,?_,by simp⟩ ?_
 . obtain⟨n,z,h1,h2⟩:=o.1
   exact⟨n,z,by omega,by rw[af.ai _ _ (za S)];exact h2⟩
 . rw[af.ai _ _ (za A)];exact av
 . simp
 . refine⟨λy x r=>?_,.inl ⟨rfl,rfl⟩⟩
   have H:y≠c:=λe=>by subst e;simp[af.del]at r
   have y0:σ y=some x:=by simpa[af.del,H]using r
   have y5:y≠v:=λe=>by simp_all
   have y4:y≠c4:=λe=>by simp_all
   rw[af.ai _ _ y5,o.2 y H,af.ai _ _ y4];exact y0
 rintro c0 j _ hj ⟨env,σ',a,mk,rfl,e0,e4,T,U,B,q4,q5,p,C⟩ ih
 have bB:mk.length<=j:=by grind
 rcases aaP j 3 with g1|g1
 . have b0:(j:Int)<3:=by omega
   apply rn;simp[e0,U,b0];refine cf Tryz.func33 rfl (wI (by omega) t ⟨by omega,by omega⟩ B λx f hd=>?_)
   have b1:∃l,σ' c=some (.cells l):=by obtain⟨_,_,_,q⟩:=B;grind
   have b:Tok (σ.del c) f a 1 (mk.map int):=qV p (by simp[af.del]) b1 hd.2
   have V:=b.cells;have s4:f c4=some (.cells [int 0,int 0,int 0,.lit (.slice none 0 0),int 0,int 0]):=by rw[hd.2 c4 R];exact q4
   have s5:f v=some (.cells [int F,int pl,int co,a,int G,int sh]):=by rw[hd.2 v S];exact q5
   have X:(List.range (j+1)).map (λi:Nat=>(i:Int))=(List.range j).map (λi:Nat=>(i:Int))++[(j:Int)]:=by rw[aaz,aax];rfl
   have f1:-9223372036854775808<=(j:Int)+1/\(j:Int)+1<=9223372036854775807:=by omega
   apply rn;simp;cases x with
   | false=>
     simp[U,f1.1,f1.2];refine ih _ g1 ⟨_,_,a,mk,rfl,by simp[e0],by simp[e4],by simp[T],by simp,hd.1,s4,s5,b,?_⟩
     rw[X];exact C.trans (List.sublist_append_left _ _)
   | true=>
     simp[T,U,s5];refine aN lay rfl rfl rfl dC rfl dC rfl rp (by decide) (by simp;omega) (σ0:=f.off a) (es:=mk.map int) (xs:=[int j]) (by simpa using b.here.1) (.inr ⟨_,rfl⟩) λa' w D=>?_
     have Y:=D.cells;have b2:∀y l,f y=some (.cells l)->br a≠some y:=λy l r e=>by obtain⟨_,_,q⟩:=b.aY e;grind
     have k3:∀y l,f y=some (.cells l)->w y=some (.cells l):=λy l r=>D.1 _ _ (by rw[af.dP (b2 y l r)];exact r)
     have t5:=k3 _ _ s5;have t4:=k3 _ _ s4;apply rn;simp[T,U,f1.1,f1.2,t5,Y.1,Y.2,aK];obtain⟨nb,zb,u,E⟩:=hd.1;have tc:=k3 _ _ E
     have Z:Tok (σ.del c) w a' 1 ((mk++[(j:Int)]).map int):=by have:=D.base b.here.2;simpa using this
     refine ih _ g1 ⟨_,_,a',mk++[(j:Int)],rfl,by simp[e0],by simp[e4],by simp[T],by simp,⟨nb,zb,u,by rw[af.ai _ _ (za S)];exact tc⟩,by rw[af.ai _ _ (za A)];exact t4,af.aj _ _ _,Z.beside (by simp[af.del,S,ax]) (λe=>by obtain⟨_,_,q⟩:=Z.aY e;grind),?_⟩
     rw[X];exact C.append (List.Sublist.refl _)
 . have:j=3:=by omega
   subst this;have V:=p.cells;apply rn;simp[e4,T,U,q4,q5,V.2,aK];obtain⟨nb,zb,u,E⟩:=B;have a7:mk.Sublist [0,1,2]:=C;refine .pD (a':=bx ⟨F,pl,co,mk,G,sh⟩) (qm rfl λi x y d g=>?_) (.less (σ':=σ.set c (.cells [ints nums,int nb,.lit (.int .u64 zb)])) (λy x r=>?_) (.done (h ⟨F,pl,co,mk,G,sh⟩ _ ⟨ay,aO,aC,a7,aE,aL⟩ ⟨⟨nb,zb,by omega,af.aj _ _ _⟩,λy r=>af.ai _ _ r⟩)))
   . match i with
     |0=>simp at d g;subst d;subst g;exact .refl _
     |1=>simp at d g;subst d;subst g;exact .refl _
     |2=>simp at d g;subst d;subst g;exact .refl _
     |3=>simp at d g;subst d;subst g;exact p.W
     |4=>simp at d g;subst d;subst g;exact .refl _
     |5=>simp at d g;subst d;subst g;exact .refl _
     |i+6=>simp at d
   . by_cases H:y=c
     . subst H
       rw[af.aj]at r;rw[af.ai _ _ n4,E];exact r
     . rw[af.ai _ _ H]at r
       have y4:y≠c4:=λe=>by grind
       rw[af.ai _ _ y4];exact p.1 y x (by simpa[af.del,H]using r)
theorem oX{dV}(b:k+11<1000000)(d:nums.length<1152921504606846976)(a:1<=dV/\dV<=1000)(hb:bo c nums k σ)(h:∀  e  σ',yw dV e->pH c nums (k+11) σ σ'->KF (.val (bx e)) σ'):aA prog m 61 [.ref c 0,int dV] σ KF:=Eh b d ⟨by omega,a.2⟩ hb λe σ' f hd=>h e σ' (by grind) hd
end
structure wJ  n   lo  (r:acD):Prop where
 len:r.length=n
 row:∀l∈r,l.length=n
 diag:∀i,i<n->rd r i i=0
 sym:∀i j,i<n->j<n->rd r i j=rd r j i
 off:∀i j,i<n->j<n->i≠j->lo<=rd r i j/\rd r i j<=2*lo
structure uY  cnt  (f:Fr):Prop where
 cP:1<=f.cP/\f.cP<=4
 aR:f.aR=1\/f.aR=2\/f.aR=3\/f.aR=6
 dV:1<=f.roads.length/\f.roads.length<=3
 Kv:∃lo ,(0<=lo/\lo<=4)/\wJ f.roads.length lo f.roads
 fr:0<=f.aU/\f.aU<=2
 to:f.aU<=f.eT/\f.eT<=2
 len:(f.aD.length:Int)<=cnt
 tH:∀e∈f.aD,yw f.roads.length e
theorem wJ.err{n lo r}(h:wJ n lo r)(v:1<=n/\n<=3)(s:0<=lo/\lo<=4):fV r=0:=by
 have t:=h.len
 have hb:∀i j,i<n->j<n->0<=rd r i j/\rd r i j<=9:=λi j a b=>by
  by_cases e:i=j
  . subst e;rw[h.diag i a];omega
  . have:=h.off i j a b e;omega
 have f:∀l∈r,lY n l=0:=λl g=>by
  have w:=h.row l g
  have y:l.all (bz · 0 9)=true:=by
   rw[aap];intro x m;obtain⟨i,a,rfl⟩:=aaH.1 g;obtain⟨j,b,rfl⟩:=aaH.1 m;have:=hb i j (by omega) (by omega);have e:rd r i j=r[i][j]:=by simp[rd,zs,a,b]
   rw[e]at this;simp[bz,this.1,this.2]
  unfold lY
  simp_all
 have d:∀l:acD,(∀x∈l,x∈r)->gZ n l=0:=λl=>by
  induction l with
  |nil=>intro _;rfl
  | cons x l z=>
    intro m;unfold gZ
    simp_all
 have u:((List.range n).any λi=>(List.range n).any λj=>dQ r i j)=false:=by
  rw[abA];intro i a;rw[Bool.not_eq_true,abA];intro j b;have a:=aai.1 a;have b:=aai.1 b;unfold dQ;rw[h.diag i a,h.sym i j a b,t]
  have A : ((List.range n).any λk=>decide (rd r j i>rd r i k+rd r k j))=false:=by
   rw[abA];intro k c;have c:=aai.1 c;have B:=hb i k a c;have C:=hb k j c b;simp only[KD,Int.not_lt,gt_iff_lt];by_cases o:i=j
   . subst o;rw[h.diag i a];omega
   . by_cases p:i=k
     . subst p;rw[h.diag i a,h.sym i j a b];omega
     . by_cases q:k=j
       . subst q;rw[h.diag k c,h.sym i k a c];omega
       . have D:=h.off j i b a (za o)
         have E:=h.off i k a c p;have F:=h.off k j c b q;omega
  simp_all
 unfold fV
 grind
theorem NM{M i k n}(hi:i<M.length)(a:k<(M.getD i []).length)  x y :rd (M.set i ((M.getD i []).set k n)) x y=if x=i/\y=k then n else rd M x y:=by
 unfold rd
 grind
def zz(M:acD)(i k:Nat)(n:Int):acD:=(M.set i ((M.getD i []).set k n)).set k ((M.getD k []).set i n)
structure HU  n   lo   i k  (M:acD):Prop where
 len:M.length=n
 row:∀j,j<n->(M.getD j []).length=n
 diag:∀x,x<n->rd M x x=0
 sym:∀x y,x<n->y<n->rd M x y=rd M y x
 off:∀x y,y<x->x<n->(x<i\/(x=i/\y<k))->lo<=rd M x y/\rd M x y<=2*lo
theorem AA{M i k v}(hi:i<M.length)(b:k<M.length)(a:k≠i)  j :(zz M i k v).getD j []=if j=k then(M.getD k []).set i v else if j=i then(M.getD i []).set k v else M.getD j []:=by
 unfold zz
 grind
theorem Qe{n lo i k a b M v}(h:HU n lo a b M)(hi:i<n)(c:k<n)(d:k≠i)  x y :rd (zz M i k v) x y=if(x=i/\y=k)\/(x=k/\y=i)then v else rd M x y:=by
 have f:=h.len
 have e:rd (zz M i k v) x y=if x=k/\y=i then v else rd (M.set i ((M.getD i []).set k v)) x y:=by
  have q:M.getD k []=(M.set i ((M.getD i []).set k v)).getD k []:=by grind
  unfold zz;rw[q];exact NM (by grind) (by rw[<-q];rw[h.row k c];exact hi) x y
 rw[e,NM (by omega) (by rw[h.row i hi];exact c)];omega
theorem HU.next{n lo i k M v}(h:HU n lo i k M)(hi:i<n)(l:k<i)(m:lo<=v/\v<=2*lo):HU n lo i (k+1) (zz M i k v):=by
 have e:=h.len;have a:=Qe (v:=v) h hi (show k<n by omega) (by omega);refine⟨by simp[zz,e],λj f=>?_,λx b=>?_,λx y b g=>?_,λx y d b hd=>?_⟩
 . rw[AA (by omega) (by omega) (by omega)]
   split
   . rw[abH];exact h.row k (by omega)
   . split
     . rw[abH];exact h.row i hi
     . exact h.row j f
 . rw[a,aaj (by omega)];exact h.diag x b
 . rw[a,a]
   by_cases c:(x=i/\y=k)\/(x=k/\y=i)
   . grind
   . rw[aaj c,aaj (λq=>c (q.elim (λq=>.inr ⟨q.2,q.1⟩) (λq=>.inl ⟨q.2,q.1⟩)))]
     exact h.sym x y b g
 . rw[a]
   by_cases c:(x=i/\y=k)\/(x=k/\y=i)
   . omega
   . rw[aaj c]
     refine h.off x y d b ?_;omega
theorem HU.line{n lo i M}(h:HU n lo i i M):HU n lo (i+1) 0 M:=⟨h.len,h.row,h.diag,h.sym,λx y a b hd=>h.off x y a b (by omega)⟩
theorem HU.fin{n lo M}(h:HU n lo n 0 M):wJ n lo M:=by
 have e:=h.len;refine⟨h.len,λl c=>?_,h.diag,h.sym,λi j a b d=>?_⟩
 . obtain⟨i,a,rfl⟩:=aaH.1 c
   have:=h.row i (by omega)
   grind
 . rcases aaP j i with q|q
   . exact h.off i j q a (.inl a)
   . rw[h.sym i j a b]
     exact h.off j i (by omega) b (.inl b)
theorem HU.start  n   lo :HU n lo 0 0 (List.replicate n (List.replicate n 0)):=by
 have a:∀x y,rd (List.replicate n (List.replicate n 0)) x y=0:=λx y=>by
  unfold rd
  grind
 refine⟨by simp,λj b=>by simp_all,λx _=>a x x,λx y _ _=>by rw[a,a],λx y _ _ h=>by omega⟩
theorem oY{g}:∀{l},(∀e∈l,g e=0)->fU g l=0
 |[],_=>rfl
 | a::l,h=>by
   unfold fU;rw[aal (h a (by simp))];exact oY λe b=>h e (by simp[b])
theorem uY.check{aR:Int}{f:Fr}(h:uY aR f)(j:aR<=6):check f=0:=by
 obtain⟨lo,a,b⟩:=h.Kv;have c:=b.err h.dV a;have k:=h.fr;have l:=h.to;have m:=h.cP;have n:=h.aR;have o:=h.len
 have d:(bz f.aU 0 3 && bz f.eT 0 3)=true:=by simp[bz];omega
 have g:(bz f.cP 1 6 && bz f.aR 1 6)=true:=by simp[bz];omega
 unfold Go.Proofs.YtebcbkhnlnkolaaGreatDoor.check;rw[c,aaj (by simp),d,aaj (by simp),aaj (by omega),g,aaj (by simp),aaj (by omega)]
 exact oY λe i=>(h.tH e i).check
theorem uY.fits{aR f}(h:uY aR f)(g:aR<=1000):f.Fits:=by
 obtain⟨lo,a,b⟩:=h.Kv;have:=h.len;have i:=h.dV;refine⟨by omega,by omega,λl c=>?_,λe d=>?_⟩
 . have:=b.row l c;omega
 . have:=(lC (h.tH e d).marks).2;omega

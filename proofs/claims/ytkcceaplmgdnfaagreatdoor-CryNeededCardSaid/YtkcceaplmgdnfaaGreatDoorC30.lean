import Derived.Test.YtkcceaplmgdnfaaGreatDoorC29
set_option linter.all false
set_option maxHeartbeats 1000000
set_option maxRecDepth 100000
namespace Go.Proofs.YtkcceaplmgdnfaaGreatDoor
open Go.Proofs.Tryz (prog)
section
open Go Go.bQ
abbrev ng:HV:=⟨89,91,95,119,120,133,118,126,136,121,162,163,164,169,137,130,208,210,215⟩
theorem Mm:∀(b:Nat) (kind:acv),bb (A0 prog ng b kind).1=some (ng.jl,[])/\(A0 prog ng b kind).1.env.all plain=true/\(A0 prog ng b kind).2=[]/\(A0 prog ng b kind).1.kind=kind:=by intro b kind;exact⟨by kernel_rfl,by kernel_rfl,by kernel_rfl,by kernel_rfl⟩
theorem Mn:∀(b:Nat) (kind:acv),bb (A1 prog ng b kind).1=some (ng.OC,[])/\(A1 prog ng b kind).1.env.all plain=true/\(A1 prog ng b kind).2=[]/\(A1 prog ng b kind).1.kind=kind:=by intro b kind;exact⟨by kernel_rfl,by kernel_rfl,by kernel_rfl,by kernel_rfl⟩
theorem Mp:∀(b:Nat) (kind:acv),bb (A2 prog ng b kind).1=some (ng.sG,[pt b 0,u64 4294967296])/\vR (A2 prog ng b kind)=true/\(A2 prog ng b kind).1.env.all plain=true/\(A2 prog ng b kind).2.all (·.env.all plain)=true:=by intro b kind;exact⟨by kernel_rfl,by kernel_rfl,by kernel_rfl,by kernel_rfl⟩
theorem Mq:∀(b:Nat) (kind:acv) (a:Fl),kz (A3 prog ng b kind (f1 a true)).1=some (ng.tS,ng.tU,pt b 1):=by intro b kind a;kernel_rfl
theorem Mr:∀(b:Nat) (kind:acv) (a:Fl),bb (A4 prog ng b kind (f1 a true)).1=some (ng.rd,[pt b 1])/\(A4 prog ng b kind (f1 a true)).1.kind=kind:=by intro b kind a;exact⟨by kernel_rfl,by kernel_rfl⟩
theorem Ms:∀(b:Nat) (kind:acv) (a:Fl),rL (A5 prog ng b kind (f0 (f1 a true) false)).1=some ng.en/\(A5 prog ng b kind (f0 (f1 a true) false)).2=[]/\(A5 prog ng b kind (f0 (f1 a true) false)).1.kind=kind/\(A5 prog ng b kind (f0 (f1 a true) false)).1.fn=ng.add:=by intro b kind a;exact⟨by kernel_rfl,by kernel_rfl,by kernel_rfl,by kernel_rfl⟩
theorem Mt:∀(b:Nat) (kind:acv) (a:Fl),rL (A3 prog ng b kind (f0 (f1 a false) false)).1=some ng.en/\(A3 prog ng b kind (f0 (f1 a false) false)).2=[]/\(A3 prog ng b kind (f0 (f1 a false) false)).1.kind=kind/\(A3 prog ng b kind (f0 (f1 a false) false)).1.fn=ng.add:=by intro b kind a;exact⟨by kernel_rfl,by kernel_rfl,by kernel_rfl,by kernel_rfl⟩
theorem Mw:∀(b:Nat),kz (D0 prog ng b).1=some (ng.tG,ng.tU,pt b 0)/\(D0 prog ng b).1.env.all plain=true/\(D0 prog ng b).2.all (·.env.all plain)=true:=by intro b;exact⟨by kernel_rfl,by kernel_rfl,by kernel_rfl⟩
theorem Mx:∀(b:Nat),bb (D1 prog ng b).1=some (ng.rel,[pt b 0])/\vR (D1 prog ng b)=true/\(D1 prog ng b).1.env.all plain=true/\(D1 prog ng b).2.all (·.env.all plain)=true:=by intro b;exact⟨by kernel_rfl,by kernel_rfl,by kernel_rfl,by kernel_rfl⟩
theorem My:∀(b:Nat),bb (D2 prog ng b).1=some (ng.jl,[])/\vR (D2 prog ng b)=true/\(D2 prog ng b).1.env.all plain=true/\(D2 prog ng b).2.all (·.env.all plain)=true:=by intro b;exact⟨by kernel_rfl,by kernel_rfl,by kernel_rfl,by kernel_rfl⟩
theorem Mz:∀(b:Nat),bb (D3 prog ng b).1=some (ng.OC,[])/\vR (D3 prog ng b)=true/\(D3 prog ng b).1.env.all plain=true/\(D3 prog ng b).2.all (·.env.all plain)=true:=by intro b;exact⟨by kernel_rfl,by kernel_rfl,by kernel_rfl,by kernel_rfl⟩
theorem MA:∀(b:Nat),bb (D4 prog ng b).1=some (ng.sG,[pt b 0,u64 18446744069414584320])/\vR (D4 prog ng b)=true/\(D4 prog ng b).1.env.all plain=true/\(D4 prog ng b).2.all (·.env.all plain)=true:=by intro b;exact⟨by kernel_rfl,by kernel_rfl,by kernel_rfl,by kernel_rfl⟩
theorem MB:∀(b:Nat) (a:Fl) (x:Bool),rL (DE prog ng b (f0 a x) 0).1=some ng.en:=by intro b a x;cases x<;>kernel_rfl
theorem Jk:∀(b:Nat) (a:Fl) (x:Bool),j7 (l9 prog (f0 a x) (DE prog ng b (f0 a x) 0)).1 ng.done=true/\(l9 prog (f0 a x) (DE prog ng b (f0 a x) 0)).2=[]/\(l9 prog (f0 a x) (DE prog ng b (f0 a x) 0)).1.kind=.deferred:=by intro b a x;cases x<;>exact⟨by kernel_rfl,by kernel_rfl,by kernel_rfl⟩
theorem MC:∀(b:Nat) (a:Fl),rL (DE prog ng b (f0 a false) 1).1=some ng.en:=by intro b a;kernel_rfl
theorem Jl:∀(b:Nat) (a:Fl),j7 (l9 prog (f0 a false) (DE prog ng b (f0 a false) 1)).1 ng.done=true/\(l9 prog (f0 a false) (DE prog ng b (f0 a false) 1)).2=[]/\(l9 prog (f0 a false) (DE prog ng b (f0 a false) 1)).1.kind=.deferred:=by intro b a;exact⟨by kernel_rfl,by kernel_rfl,by kernel_rfl⟩
theorem MD:∀(b:Nat) (a:Fl),bb (DE prog ng b (f0 a true) 1).1=some (ng.vF,[pt b 0])/\vR (DE prog ng b (f0 a true) 1)=true:=by intro b a;exact⟨by kernel_rfl,by kernel_rfl⟩
theorem ME:∀(b:Nat) (a:Fl),bb (D6 prog ng b (f0 a true)).1=some (ng.HW,[pt b 0,u64 0])/\vR (D6 prog ng b (f0 a true))=true:=by intro b a;exact⟨by kernel_rfl,by kernel_rfl⟩
theorem MF:∀(b:Nat) (a:Fl),bb (D7 prog ng b (f0 a true)).1=some (ng.oh,[pt b 1,ff,i64 0])/\vR (D7 prog ng b (f0 a true))=true:=by intro b a;exact⟨by kernel_rfl,by kernel_rfl⟩
theorem MG:∀(b:Nat) (a:Fl),rL (D8 prog ng b (f0 a true)).1=some ng.en:=by intro b a;kernel_rfl
theorem MH:∀(b:Nat) (a:Fl),j7 (l9 prog (f0 a true) (D8 prog ng b (f0 a true))).1 ng.done=true/\(l9 prog (f0 a true) (D8 prog ng b (f0 a true))).2=[]/\(l9 prog (f0 a true) (D8 prog ng b (f0 a true))).1.kind=.deferred:=by intro b a;exact⟨by kernel_rfl,by kernel_rfl,by kernel_rfl⟩
theorem MI:∀(b:Nat) (kind:acv),bb (W0 prog ng b kind).1=some (ng.jl,[])/\(W0 prog ng b kind).1.env.all plain=true/\(W0 prog ng b kind).2=[]/\(W0 prog ng b kind).1.kind=kind:=by intro b kind;exact⟨by kernel_rfl,by kernel_rfl,by kernel_rfl,by kernel_rfl⟩
theorem MJ:∀(b:Nat) (kind:acv),bb (W1 prog ng b kind).1=some (ng.vF,[pt b 0])/\vR (W1 prog ng b kind)=true/\(W1 prog ng b kind).1.env.all plain=true/\(W1 prog ng b kind).2.all (·.env.all plain)=true:=by intro b kind;exact⟨by kernel_rfl,by kernel_rfl,by kernel_rfl,by kernel_rfl⟩
theorem MK:∀(b:Nat) (kind:acv) (a:Fl),bb (WE prog ng b kind (f0 a true)).1=some (ng.en,[])/\(WE prog ng b kind (f0 a true)).1.kind=kind:=by intro b kind a;exact⟨by kernel_rfl,by kernel_rfl⟩
theorem ML:∀(b:Nat) (kind:acv) (a:Fl),kz (WC prog ng b kind (f0 a true)).1=some (ng.tG,ng.tU,pt b 0):=by intro b kind a;kernel_rfl
theorem MM:∀(b:Nat) (kind:acv) (a:Fl),bb (WA prog ng b kind (f0 a true)).1=some (ng.acq,[pt b 0])/\(WA prog ng b kind (f0 a true)).1.kind=kind:=by intro b kind a;exact⟨by kernel_rfl,by kernel_rfl⟩
theorem MN:∀(b:Nat) (kind:acv) (a:Fl),j7 (WB prog ng b kind (f0 a true)).1 ng.wait=true/\(WB prog ng b kind (f0 a true)).2=[]/\(WB prog ng b kind (f0 a true)).1.kind=kind:=by intro b kind a;exact⟨by kernel_rfl,by kernel_rfl,by kernel_rfl⟩
theorem MO:∀(b:Nat) (kind:acv) (a:Fl),bb (WE prog ng b kind (f0 a false)).1=some (ng.xl,[pt b 0,.ew 0,.ew 1])/\vR (WE prog ng b kind (f0 a false))=true:=by intro b kind a;exact⟨by kernel_rfl,by kernel_rfl⟩
theorem MP:∀(b:Nat) (kind:acv) (a:Fl),GK [5] [[0]] (next prog (f0 a false) (WE prog ng b kind (f0 a false)) ff)=W1 prog ng b kind:=by intro b kind a;kernel_rfl
theorem MQ:∀(b:Nat) (kind:acv) (a:Fl),kz (W3 prog ng b kind (f0 a false)).1=some (ng.tS,ng.tU,pt b 1):=by intro b kind a;kernel_rfl
theorem MR:∀(b:Nat) (kind:acv) (a:Fl),bb (So prog ng b kind (f0 a false)).1=some (ng.wr,[pt b 1])/\(So prog ng b kind (f0 a false)).1.kind=kind:=by intro b kind a;exact⟨by kernel_rfl,by kernel_rfl⟩
theorem MT:∀(b:Nat) (kind:acv) (a:Fl),bb (W4 prog ng b kind (f0 a false)).1=some (ng.ER,[pt b 1,ff])/\(W4 prog ng b kind (f0 a false)).1.kind=kind:=by intro b kind a;exact⟨by kernel_rfl,by kernel_rfl⟩
theorem MU:∀(b:Nat) (kind:acv) (a:Fl),bb (W5 prog ng b kind (f0 a false)).1=some (ng.vF,[pt b 0])/\vR (W5 prog ng b kind (f0 a false))=true:=by intro b kind a;exact⟨by kernel_rfl,by kernel_rfl⟩
theorem MV:∀(b:Nat) (kind:acv) (a:Fl),bb (Sp prog ng b kind (f0 a false)).1=some (ng.en,[])/\(Sp prog ng b kind (f0 a false)).1.kind=kind:=by intro b kind a;exact⟨by kernel_rfl,by kernel_rfl⟩
theorem MX:∀(b:Nat) (kind:acv) (a:Fl),kz (TG prog ng b kind (f0 a false)).1=some (ng.tG,ng.tU,pt b 0):=by intro b kind a;kernel_rfl
theorem MY:∀(b:Nat) (kind:acv) (a:Fl),bb (Sq prog ng b kind (f0 a false)).1=some (ng.acq,[pt b 0])/\(Sq prog ng b kind (f0 a false)).1.kind=kind:=by intro b kind a;exact⟨by kernel_rfl,by kernel_rfl⟩
theorem MZ:∀(b:Nat) (kind:acv) (a:Fl),j7 (P6 prog ng b kind (f0 a false)).1 ng.wait=true/\(P6 prog ng b kind (f0 a false)).2=[]/\(P6 prog ng b kind (f0 a false)).1.kind=kind:=by intro b kind a;exact⟨by kernel_rfl,by kernel_rfl,by kernel_rfl⟩
theorem Qn:gM prog ng where
 a0:=Mm
 a1:=Mn
 a2:=Mp
 a3:=Mq
 a4:=Mr
 a5:=Ms
 a6:=Mt
 d0:=Mw
 d1:=Mx
 d2:=My
 d3:=Mz
 d4:=MA
 d5:=MB
 Xf:=Jk
 d6:=MC
 Xg:=Jl
 d7:=MD
 d8:=ME
 d9:=MF
 da:=MG
 db:=MH
 w0:=MI
 w1:=MJ
 w2:=MK
 w3:=ML
 w4:=MM
 w5:=MN
 w6:=MO
 w7:=MP
 w8:=MQ
 w9:=MR
 wa:=MT
 wb:=MU
 wc:=MV
 wd:=MX
 we:=MY
 wf:=MZ
theorem Qo:iD prog ng where
 jl:=⟨_,rfl,rfl,rfl,rfl,rfl⟩
 en:=⟨_,rfl,rfl,rfl,rfl,rfl⟩
 acq:=⟨_,rfl,rfl,rfl,rfl,rfl⟩
 rel:=⟨_,rfl,rfl,rfl,rfl,rfl⟩
 rd:=⟨_,rfl,rfl,rfl,rfl,rfl⟩
 wr:=⟨_,rfl,rfl,rfl,rfl,rfl⟩
 OC:=⟨_,rfl,rfl,rfl,rfl,rfl⟩
 sG:=⟨_,rfl,rfl,rfl,rfl,rfl⟩
 vF:=⟨_,rfl,rfl,rfl,rfl,rfl⟩
 HW:=⟨_,rfl,rfl,rfl,rfl,rfl⟩
 xl:=⟨_,rfl,rfl,rfl,rfl,rfl⟩
 ER:=⟨_,rfl,rfl,rfl,rfl,rfl⟩
 oh:=⟨_,rfl,rfl,rfl,rfl,rfl⟩
 Xh:=⟨_,rfl,rfl,rfl⟩
 Xi:=⟨_,rfl,rfl,rfl⟩
 QY:=⟨_,_,rfl,rfl,rfl,rfl⟩
 KP:=⟨_,_,rfl,rfl,rfl,rfl⟩
 KQ:=⟨_,_,rfl,rfl,rfl,rfl⟩
end
open Go.bQ Go.Conc
set_option maxRecDepth 4000
variable{m:Mo}{σ:aa}{KF:abT}
theorem Rr:mc prog nn:=⟨⟨_,_,Tryz.func93,rfl,rfl,rfl⟩,⟨_,_,Tryz.func94,rfl,rfl,rfl⟩⟩
section
variable{b mb:Nat}{f:Fr}{A:bJ}{j:Nat}{begun:acp}
theorem FP{b:ah}(a:A.ng=ng){body:Code}(hb:Tryz.f160.body=some body):ab prog (xp prog A) 160 4 none [] [.code body] ⟨dt [.ref A.gb 0,.cp (.chan A.cF) 0],jK A.fb,[],.told .deferred [cI prog] b⟩ (λ_ _=>False):=by
 simp only[Tryz.f160,kn]at hb;subst hb;refine ab.runN lay [] 2 ?_;simp;refine ab.Lv rfl (by rw[a];rfl) rfl (by simp) (by rw[a];exact Tryz.func95) rfl rfl rfl ?_;refine rn ?_;simp;exact ab.Fh rfl rfl (by simp) rfl rfl rfl rfl rfl Tryz.func160 rfl rfl
theorem yd{T:ah}(U:A.fb=b/\A.mb=mb/\A.fo=6/\A.nm=nn/\A.ng=ng/\A.dir=false)(V:∀x,A.GI x↔∃l,x=mapA .u8 l/\kL f l)(W:f.Good)(N:A.res j=int (aH f begun).length)(t:begun.length<1152921504606846976)(hlen:(aH f begun).length<1152921504606846976){body:Code}(hb:Tryz.f158.body=some body):
 ab prog (iu prog A j) 158 13 none [] [.code body] ⟨dt [.ref A.gb 0,.cp (lR b mb f 0) 0,.cp (ints begun) 0,.cp (.chan A.cF) 0],jK A.fb,[],.told .deferred [cI prog] T⟩ (λ_ _=>False):=by
 obtain⟨rfl,rfl,u,v,m,g⟩:=U;simp only[Tryz.f158,kn]at hb;subst hb;have O:=Lx (P:=prog) (A:=A) g (j:=j) (kd:=.u8) V;rw[u,v]at O;refine rn ?_;simp;refine ab.defer rfl rfl rfl rfl (by simp) rfl ?_
 refine rn ?_;simp;refine bR.intro λcn X=>?_
 simp;refine cf Tryz.func159 rfl (BQ (begun:=begun) (sp:=.any) ?_);refine rn ?_;simp;refine ab.rangeFunc rfl λw r l y Q n=>?_
 obtain⟨r1,Y,y⟩:=aa.aN y;obtain⟨Z,q,Q⟩:=aa.aN Q;generalize o:oU.mk _ _ _ _ _ _ _ _ _=z
 have hY:SA (iu prog A j) (.fn (.yield l) [] []) (aH f begun) (λk F a=>(∀c,F c↔c=l\/c=cn)/\a l=some (.loop z)/\a cn=some (.cells [int k])) (λF a=>False):=by
  refine⟨λk F a a7 hk i hT hF=>?_,λk F B C he i=>?_,λF B C he i=>i.elim,λk F a c i h=>?_⟩
  . obtain⟨d,s,D⟩:=i
    have e3:∀x,(a.set l x) cn=some (.cells [int k]):=λx=>(aa.ai _ _ q).trans D
    have f1:-9223372036854775808<=(k:Int)+1/\(k:Int)+1<=9223372036854775807:=by omega
    subst o;refine bZ.wX (hold:=[]) w Tryz.func158 s rfl ?_;refine rn ?_;simp[mX];refine ab.beginRound s rfl ?_;refine rn ?_;simp[e3,f1.1,f1.2];refine⟨rfl,rfl,_,((aa.ai _ _ Z).trans (aa.ak _ _ _)),?_⟩;refine hT F _ (λc x h hx=>⟨?_,h⟩) ⟨d,aa.ak _ _ _,(aa.ai _ _ q).trans (aa.ak _ _ _)⟩
    have R:c≠l:=λe=>h ((d c).2 (.inl e))
    have c2:c≠cn:=λe=>h ((d c).2 (.inr e))
    exact(aa.ai _ _ R).trans ((aa.ai _ _ c2).trans ((aa.ai _ _ R).trans hx))
  . simp_all
  . obtain⟨d,s,D⟩:=i
    rcases(d c).1 h with rfl|rfl
    . exact⟨_,s,rfl⟩
    . exact⟨_,D,rfl⟩
 have hu:Xp A.fb (((jK A.fb).set cn (.cells [int 0])).set r (.raw (.deferred (some [])))|>.set l (.loop z)):=by
  have h0:(jK A.fb) A.fb=some .gX:=by simp[jK]
  have E:A.fb≠cn:=λe=>by simp_all
  have S:A.fb≠r:=λe=>by simp_all
  have G:A.fb≠l:=λe=>by simp_all
  show _=_;rw[aa.ai _ _ G,aa.ai _ _ S,aa.ai _ _ E];exact h0
 have nb:∀c,(jK A.fb) c=none->c≠A.fb:=λc h e=>by subst e;simp[jK]at h
 have sr:(((jK A.fb).set cn (.cells [int 0])).set r (.raw (.deferred (some [])))|>.set l (.loop z)) r=some (.raw (.deferred (some []))):=(aa.ai _ _ n).trans (aa.ak _ _ _)
 refine dZ Tryz.func184 rfl rfl rfl (yc (F:=λc=>c=l\/c=cn) O W t hY ⟨rfl,rfl⟩ hu ⟨λc=>ZL,aa.ak _ _ _,(aa.ai _ _ q).trans ((aa.ai _ _ Y).trans (aa.ak _ _ _))⟩ λF' a H I p=>?_)
 have J:=(H r _ sr (λe=>by omega) (nb r y) (.inr rfl)).1
 rcases p with⟨_,E,S⟩|hE
 . subst o
   refine⟨_,E,by simp,rfl,?_⟩
   have K:(a.del l) cn=some (.cells [int (aH f begun).length]):=by simp only[aa.del,q,if_false];omega
   have L:(a.del l) A.fb=some .gX:=by
    have G:A.fb≠l:=λe=>by grind
    simp only[aa.del,G,if_false];exact I
   have M:(a.del l) r=some (.raw (.deferred (some []))):=by simp only[aa.del,n,if_false];exact J
   refine rn ?_;simp[K];refine ab.Lu g rfl rfl (by simp) rfl rfl (by simp_all) L rfl rfl Tryz.func158 rfl (by rw[m];exact Tryz.func91) rfl rfl ?_
   refine rn ?_;simp;refine⟨rfl,.inl rfl,⟨_,rfl⟩,r,by rw[m],M⟩
 simp_all
end
def jy(j:Nat):acp:=if j=0 then[0,0]else[0,1]
def gz(f:Fr):Int:=if f.aD.length<2 then 1 else(aH f [0,0]).length+(aH f [0,1]).length
theorem Qp{v d:AV}(l:v.cells=[v])(m:d.cells=[d])(h:v.W d):(AV.cp v 0).W (.cp d 0):=λk x n=>by
 cases n with
 | cp b base off N E v c o p f g=>
   rw[l]at p f g;refine .cp b base 0 N E d c o (by simp_all) (λj i=>f j (by simp_all)) (λj a e=>?_);rw[m]at e;have i:j=0:=by grind
   subst i;simp at e;subst e;exact h k _ (g 0 v rfl)
section
variable{b mb:Nat}{f:Fr}
theorem M0(U:m.solo=true)(A:f.Good)(hlen:(aH f [0,0]).length<1000000000/\(aH f [0,1]).length<1000000000)(q:b≠mb)(L:Sw b 6 mb .u8 (kL f) σ)(h:∀σ',Sw b 6 mb .u8 (kL f) σ'->o0 b mb σ σ'->KF (.val (int (gz f))) σ'):aA prog m 114 [lR b mb f 0] σ KF:=by
 have h6:=A.qB;unfold gz at h;refine fs [] 1 Tryz.func114 rfl rfl (by rfl) (by kernel_rfl) ?_
 simp[Tryz.f114]
 by_cases M:f.aD.length<2
 . have k:(f.aD.length:Int)<2:=by omega
   rw[if_pos M]at h;simp[k];exact .done (h σ L (o0.refl b mb σ))
 have k:¬(f.aD.length:Int)<2:=by omega
 rw[if_neg M]at h;obtain⟨V,lm,N,W⟩:=L;simp[k];refine Dk lay rfl G6 rfl qM rfl (by decide) λcF X=>?_
 refine rn ?_;simp;refine bR.intro λy r=>?_
 obtain⟨n1,Y,r⟩:=aa.aN r;simp;refine bR.intro λgb g=>?_
 obtain⟨Z,n4,g⟩:=aa.aN g;obtain⟨n5,O,g⟩:=aa.aN g;simp;have P:cF≠b:=λe=>by simp_all
 have Q:cF≠mb:=λe=>by simp_all
 have b3:y≠b:=λe=>by simp_all
 have m3:y≠mb:=λe=>by simp_all
 have s:gb≠b:=λe=>by simp_all
 have gm:gb≠mb:=λe=>by simp_all
 refine ab.bC 3 (b:=y) (.chan cF) (by simp[n4,aa.ai]) (by simp) rfl ?_
 refine ab.bY U ⟨2,false,cF,b,6,gb,mb,λx=>∃l,x=mapA .u8 l/\kL f l,λj=>int (aH f (jy j)).length,λ_=>.tuple #[],nn,ng,by omega,P,O,Q,za s,q,gm⟩ rfl Qn Qo Al Am Rr (tm:=false) (a:=mapA .u8 lm) (by simp[aa.del,aa.ai,Y,O]) (by simp[aa.del,Z]) (by simp[aa.del,aa.set,za b3,za s,za P,V]) (by simp[aa.del,aa.set,za m3,za gm,za Q,N]) (by simp[mapA,mY]) ⟨lm,rfl,W⟩ rfl λpb a7 Fin kd a8 k0 t=>?_
 refine ab.uu ?_;refine ab.runN lay [] 18 ?_;simp;refine bR.intro λB C=>?_
 have d:B≠b:=λe=>by simp_all
 simp
 change ab _ _ _ _ _ _ _ _ _
 refine ab.bC 6 (b:=B) (.sl 1 [int 0,int 0] .exact) (aa.ak _ _ _) (by simp) rfl ?_
 refine ab.Ew 6 (a':=.cp (ints [0,0]) 0) (by simp;exact Qp rfl rfl (ik 1 [int 0,int 0] .exact)) ?_
 refine ab.Lt rfl rfl rfl (by simp) Tryz.func89 rfl rfl rfl ?_
 refine rn ?_;simp;refine ab.uX (hold':=[]) rfl rfl rfl (by simp) rfl Tryz.func158 rfl rfl (by simp_all) (by simp[gO.at,aa.del,aa.set,za d]) (by kernel_rfl) (λR=>yd (b:=b) (mb:=mb) (f:=f) (begun:=[0,0]) ⟨rfl,rfl,rfl,rfl,rfl,gO.xH _ _ _⟩ (λx=>ZL) A rfl (by simp) (by omega) rfl) ?_
 refine rn ?_;simp;refine ab.again (by kernel_rfl) ?_
 refine ab.runN lay [] 18 ?_;simp;refine bR.intro λD u=>?_
 have n:D≠b:=λe=>by subst e;simp[aa.del,aa.set,za d]at u
 simp
 change ab _ _ _ _ _ _ _ _ _
 refine ab.bC 6 (b:=D) (.sl 1 [int 0,int 1] .exact) (aa.ak _ _ _) (by simp) rfl ?_
 refine ab.Ew 6 (a':=.cp (ints [0,1]) 0) (by simp;exact Qp rfl rfl (ik 1 [int 0,int 1] .exact)) ?_
 refine ab.Lt rfl rfl rfl (by simp) Tryz.func89 rfl rfl rfl ?_
 refine rn ?_;simp;refine ab.uX (hold':=[]) rfl rfl rfl (by simp) rfl Tryz.func158 rfl rfl (by simp_all) (by simp[gO.at,aa.del,aa.set,za n,za d]) (by kernel_rfl) (λR=>yd (b:=b) (mb:=mb) (f:=f) (begun:=[0,1]) ⟨rfl,rfl,rfl,rfl,rfl,gO.xH _ _ _⟩ (λx=>ZL) A rfl (by simp) (by omega) rfl) ?_
 refine rn ?_;simp;refine ab.again (by kernel_rfl) ?_
 refine rn ?_;simp;refine ab.V7 (by exact gO.xH _ _ _) (hold':=[]) rfl rfl rfl (by simp) rfl Tryz.func160 rfl rfl (by simp_all) (by simp[gO.at,aa.del,aa.set,za n,za d]) (by kernel_rfl) (λR=>FP rfl rfl) ?_
 refine rn ?_;simp;refine ab.uu ?_;refine rn ?_;simp;refine ab.G3 lay rfl rfl G6 rfl qM (by simp) rfl rfl λi E=>?_
 have a9:∀j,(aH f (jy j)).length<1000000000:=λj=>by unfold jy;grind
 have f1:-9223372036854775808<=((aH f (jy i)).length:Int)/\((aH f (jy i)).length:Int)<=9223372036854775807:=by grind
 refine rn ?_;simp[gO.at,f1.1,f1.2];refine ab.again (by kernel_rfl) ?_
 refine rn ?_;simp;refine ab.G3 lay rfl rfl G6 rfl qM (by simp) rfl rfl λo F=>?_
 have S:-9223372036854775808<=((aH f (jy i)).length:Int)+((aH f (jy o)).length:Int)/\((aH f (jy i)).length:Int)+((aH f (jy o)).length:Int)<=9223372036854775807:=by grind
 refine rn ?_;simp[S.1,S.2];refine ab.again (by kernel_rfl) ?_
 refine rn ?_;simp;refine ab.BF lay rfl rfl G6 rfl qM (by simp) rfl rfl (by simp[aa.del,aa.set,za n,za d]) rfl t λa ha=>?_
 refine rn ?_;simp
 have v:((aH f (jy i)).length:Int)+((aH f (jy o)).length:Int)=((aH f [0,0]).length:Int)+((aH f [0,1]).length:Int):=by
  have p:i∈List.range 2:=E;have z:o∈(List.range 2).erase i:=F;have:i=0\/i=1:=by simp_all
  rcases this with rfl|rfl
  . have:o=1:=by simp_all
    subst this;rfl
  . have:o=0:=by simp_all
    subst this;exact Int.add_comm _ _
 rw[v];obtain⟨la,rfl,G⟩:=ha;refine .done (h _ ⟨aa.ak _ _ _,la,(aa.ai _ _ (za q)).trans (aa.ak _ _ _),G⟩ λc x p z w=>?_)
 have H:c≠mb:=λe=>by
  subst e;rw[N]at p;cases p
  rcases w with w|w
  . exact w rfl
  . cases w
 have I:c≠cF:=λe=>by simp_all
 have J:c≠y:=λe=>by simp_all
 have K:c≠gb:=λe=>by simp_all
 have T:c≠B:=λe=>by subst e;simp[aa.del,aa.set,H,I,J,K,z,p]at C
 have e6:c≠D:=λe=>by subst e;simp[aa.del,aa.set,H,I,J,K,T,z,p]at u
 simp[aa.del,aa.set,H,I,J,K,T,e6,z,p]
end
section
variable{b mb:Nat}{f:Fr}{Un:acu}{Ld:aa->abI->Prop}
theorem FQ(Q:Lw prog m nn b 6 mb .u8 (kL f) Un Ld)(hf:f.Good){G:AV}{p:acp->Bool}(z:G.cells=[G]/\G.flat=true)(U:∀w∈aH f [],∀(σ:aa) (KF:abT),KF (.val (bool (p w))) σ->bZ prog m G [ints w] σ KF)(hlen:(aH f []).length<1152921504606846976)(hu:Un σ)
 (h:∀σ',Un σ'->o0 b mb σ σ'->KF (.val (.cB [int (((aH f []).filter p).length),int (aH f []).length])) σ'):aA prog m 203 [lR b mb f 0,G] σ KF:=by
 refine fs Qk 2 Tryz.func203 rfl rfl (by rfl) (by kernel_rfl) ?_
 simp[Tryz.f203,z.1,z.2];refine bR.intro λj h6=>?_
 simp;refine bR.intro λd h7=>?_
 obtain⟨R,z2,h7⟩:=aa.aN h7;simp[R,z2,aa.ai];have hW:Wl [lR b mb f 0,AV.lit (.slice none 0 0)] [lR b mb f 0,ints []]:=.cons (.refl _) (.cons (fQ 1) .nil);refine cu Tryz.func159 rfl rfl hW (BQ (begun:=[]) ?_);refine rn ?_;simp;refine ab.rangeFunc rfl λV r l t u H=>?_
 obtain⟨a1,_,t⟩:=aa.aN t;obtain⟨a2,_,t⟩:=aa.aN t;obtain⟨_,_,t⟩:=aa.aN t;obtain⟨_,_,t⟩:=aa.aN t;obtain⟨a3,_,u⟩:=aa.aN u;obtain⟨a4,_,u⟩:=aa.aN u;obtain⟨_,_,u⟩:=aa.aN u;obtain⟨_,_,u⟩:=aa.aN u;have I:σ r=none/\r≠j/\r≠d:=⟨t,a2,a1⟩;have a:σ l=none/\l≠j/\l≠d:=⟨u,a4,a3⟩;generalize J:oU.mk _ _ _ _ _ _ _ _ _=K
 have hY:SA m (.fn (.yield l) [] []) (aH f []) (λk F σ'=>(∀c,F c↔c=l\/c=j\/c=d)/\σ' l=some (.loop K)/\σ' j=some (.cells [int ((((aH f []).take k).filter p).length)])/\σ' d=some (.cells [int k])) (λF σ'=>False):=by
  refine⟨λk F σ' av hk D hT hF=>?_,λk F W n he D=>?_,λF W n he D=>D.elim,λk F σ' c D o=>?_⟩
  . obtain⟨i,S,X,Y⟩:=D
    have e7:∀x,(σ'.set l x) d=some (.cells [int k]):=λx=>(aa.ai _ _ (za a.2.2)).trans Y
    have f1:-9223372036854775808<=(k:Int)+1/\(k:Int)+1<=9223372036854775807:=by omega
    have ax:(((aH f []).take k).filter p).length<=k:=KD (aas _ _) (by grind)
    have f2:-9223372036854775808<=((((aH f []).take k).filter p).length:Int)+1/\((((aH f []).take k).filter p).length:Int)+1<=9223372036854775807:=by omega
    have Z:(((aH f []).take (k+1)).filter p).length=(((aH f []).take k).filter p).length+if p (aH f [])[k]then 1 else 0:=by
     rw[zs hk,aar,Rp]
     grind
    have L:(aH f [])[k]∈aH f []:=zD hk;subst J;refine bZ.wX (hold:=Qk) V Tryz.func203 S rfl ?_;refine rn ?_;simp[mX];refine ab.beginRound S rfl ?_;refine rn ?_;simp[e7,f1.1,f1.2,z.1];refine U _ L _ _ ?_;have e6:∀x y,((σ'.set l x).set d y) j=some (.cells [int ((((aH f []).take k).filter p).length)]):=λx y=>(aa.ai _ _ (za R)).trans ((aa.ai _ _ (za a.2.1)).trans X)
    cases hp:p (aH f [])[k]
    . refine rn ?_
      simp;refine⟨rfl,rfl,_,((aa.ai _ _ a.2.2).trans (aa.ak _ _ _)),?_⟩;refine hT F _ (λc x o hx=>⟨?_,o⟩) ⟨i,aa.ak _ _ _,?_,(aa.ai _ _ (za a.2.2)).trans (aa.ak _ _ _)⟩
      . have A:c≠l:=λe=>o ((i c).2 (.inl e))
        have M:c≠d:=λe=>o ((i c).2 (.inr (.inr e)))
        exact(aa.ai _ _ A).trans ((aa.ai _ _ M).trans ((aa.ai _ _ A).trans hx))
      . refine(aa.ai _ _ (za a.2.1)).trans ((e6 _ _).trans ?_)
        simp_all
    . refine rn ?_
      simp[e6,f2.1,f2.2];refine⟨rfl,rfl,_,((aa.ai _ _ a.2.1).trans ((aa.ai _ _ a.2.2).trans (aa.ak _ _ _))),?_⟩;refine hT F _ (λc x o hx=>⟨?_,o⟩) ⟨i,aa.ak _ _ _,?_,(aa.ai _ _ (za a.2.2)).trans ((aa.ai _ _ R).trans (aa.ak _ _ _))⟩
      . have A:c≠l:=λe=>o ((i c).2 (.inl e))
        have T:c≠j:=λe=>o ((i c).2 (.inr (.inl e)))
        have M:c≠d:=λe=>o ((i c).2 (.inr (.inr e)))
        exact(aa.ai _ _ A).trans ((aa.ai _ _ T).trans ((aa.ai _ _ M).trans ((aa.ai _ _ A).trans hx)))
      . refine(aa.ai _ _ (za a.2.1)).trans ((aa.ak _ _ _).trans ?_)
        simp_all
  . simp_all
  . obtain⟨i,S,X,Y⟩:=D
    rcases(i c).1 o with rfl|rfl|rfl
    . exact⟨_,S,rfl⟩
    . exact⟨_,X,rfl⟩
    . exact⟨_,Y,rfl⟩
 obtain⟨xb,ay,aC⟩:=Q.Sv hu;have nb:∀c,σ c=none->c≠b:=λc o e=>by simp_all
 have N:σ.Le ((((((σ.set j (.cells [int 0])).set d (.cells [int 0])).set j (.cells [int 0])).set d (.cells [int 0])).set r (.raw (.deferred (some [])))).set l (.loop K)):=(by repeat (first|exact aa.le_refl _|assumption|refine aa.fj ?_ (by assumption)|refine aa.lD ?_ (by assumption)))
 have sr:((((((σ.set j (.cells [int 0])).set d (.cells [int 0])).set j (.cells [int 0])).set d (.cells [int 0])).set r (.raw (.deferred (some [])))).set l (.loop K)) r=some (.raw (.deferred (some []))):=(aa.ai _ _ H).trans (aa.ak _ _ _);have s7:((((((σ.set j (.cells [int 0])).set d (.cells [int 0])).set j (.cells [int 0])).set d (.cells [int 0])).set r (.raw (.deferred (some [])))).set l (.loop K)) d=some (.cells [int 0]):=(aa.ai _ _ (za a.2.2)).trans ((aa.ai _ _ (za I.2.2)).trans (aa.ak _ _ _))
 have s6:((((((σ.set j (.cells [int 0])).set d (.cells [int 0])).set j (.cells [int 0])).set d (.cells [int 0])).set r (.raw (.deferred (some [])))).set l (.loop K)) j=some (.cells [int 0]):=(aa.ai _ _ (za a.2.1)).trans ((aa.ai _ _ (za I.2.1)).trans ((aa.ai _ _ (za R)).trans (aa.ak _ _ _)));refine dZ Tryz.func184 rfl rfl rfl (yc (F:=λc=>c=l\/c=j\/c=d) Q hf (by simp) hY ⟨rfl,rfl⟩ (Q.un (λc _ ⟨x,s,_⟩=>(N _ _ s).trans s.symm) hu) ⟨λc=>ZL,aa.ak _ _ _,by simp_all,by omega⟩ λF' σ' O a7 v=>?_)
 have P:=(O r _ sr (λe=>by omega) (nb r t) (.inr rfl)).1
 have B:o0 b mb σ σ':=λc x s E C=>(O c x (N c x s) (λe=>by grind) E C).1
 have a8:∀n,n=(σ'.del l).set r (.raw (.deferred none))->Un n/\o0 b mb σ n:=λn e=>by
  subst e;refine⟨Q.un (σ:=σ') (λc _ ⟨x,s,E⟩=>?_) a7,λc x s E C=>?_⟩
  . have c1:c≠r:=λe=>by subst e;rw[P]at s;cases s;cases E
    have c2:c≠l:=λe=>by
     subst e
     rcases v with⟨_,g,_⟩|g
     . rw[g]at s;cases s;cases E
     omega
    rw[aa.ai _ _ c1];simp[aa.del,c2]
  . have c1:c≠r:=λe=>by simp_all
    have c2:c≠l:=λe=>by simp_all
    rw[aa.ai _ _ c1];simp only[aa.del,c2,if_false];exact B c x s E C
 rcases v with⟨_,A,T,M⟩|q
 . rw[ZG]at T
   subst J;refine⟨_,A,by simp,rfl,?_⟩
   have a9:(σ'.del l) j=some (.cells [int ((aH f []).filter p).length]):=by simp only[aa.del,za a.2.1,if_false];exact T
   have ad:(σ'.del l) d=some (.cells [int (aH f []).length]):=by simp only[aa.del,za a.2.2,if_false];exact M
   refine rn ?_;simp[a9,ad];refine rn ?_;simp;refine⟨by simp only[aa.del,H,if_false];exact P,.done ?_⟩
   simp_all
 simp_all
end
theorem An(f:Fr)(begun:acp):∀(fuel:Nat) (cS:acp) (many:Int) (c:acp),∀w∈fU f begun fuel cS many c,w.length=cS.length+fuel
 |0,cS,many,c,w,b=>by simp[fU]at b;grind
 | fuel+1,cS,many,c,w,b=>by
   rw[rR,abp]at b;obtain⟨k,_,a⟩:=b;unfold pe at a;split at a
   . cases a
   split at a
   . have:=An f begun fuel _ _ _ w a
     grind
   . cases a
section
variable{b mb:Nat}{f:Fr}{Un:acu}{Ld:aa->abI->Prop}
def lU(x y:Int)(w:acp):Bool:=decide (w.getD x.toNat 0=w.getD y.toNat 0)
theorem M3{w:acp}{x y:Int}(a:0<=x/\x.toNat<w.length)(b:0<=y/\y.toNat<w.length)(h:KF (.val (bool (lU x y w))) σ):aA prog m 204 [ints w,.cp (int x) 0,.cp (int y) 0] σ KF:=by
 have c:w.getD x.toNat 0=w[x.toNat]:=by simp_all
 have d:w.getD y.toNat 0=w[y.toNat]:=by simp_all
 unfold lU at h;rw[c,d]at h;refine fs UA 3 Tryz.func204 rfl rfl (by rfl) (by kernel_rfl) ?_;simp[Tryz.f204,a.1,a.2,b.1,b.2];refine rn ?_;simp;refine .done ?_;omega
theorem Pn(c:Lw prog m nn b 6 mb .u8 (kL f) Un Ld)(d:f.Good){x y:Int}(e:0<=x/\x.toNat<f.aD.length)(g:0<=y/\y.toNat<f.aD.length)(hlen:(aH f []).length<1152921504606846976)(i:Un σ)
 (h:∀σ',Un σ'->o0 b mb σ σ'->KF (.val (int (ln (((aH f []).filter (lU x y)).length:Int) (aH f []).length))) σ'):aA prog m 181 [lR b mb f 0,int x,int y] σ KF:=by
 have a:∀w∈aH f [],w.length=f.aD.length:=λw a=>by have:=An f [] _ _ _ _ w a;simp_all
 refine fs [] 3 Tryz.func181 rfl rfl (by rfl) (by kernel_rfl) ?_
 simp[Tryz.f181];refine cf Tryz.func203 rfl (FQ c d (p:=lU x y) ⟨rfl,rfl⟩ (λw j σ KF k=>dZ Tryz.func204 rfl rfl rfl (M3 ⟨e.1,by simp_all⟩ ⟨g.1,by simp_all⟩ k)) hlen i λσ' l n=>?_)
 refine rn ?_;simp;refine cf Tryz.func202 rfl (FA ?_);refine rn ?_;simp;exact .done (h σ' l n)
end
theorem Jm(r:m.solo=true){f:Fr}{l:acp}{sp:cT}(o:f.Fits)(p:check f=0)(s:∀n∈l,0<=n/\n<f.aD.length)(j:l.length<1152921504606846976)(g:aH f []≠[])(h:∀b mb σ',b≠mb->Sw b 6 mb .u8 (kL f) σ'->σ b=none/\σ mb=none->σ.Le σ'->KF (.val (.cB [lR b mb f 0,int 0])) σ'):aA prog m 180 [dB f,.sl 1 (l.map int) sp] σ KF:=by
 have t:=Fr.qO o p;have u:=Fy p s;refine fs [] 2 Tryz.func180 rfl rfl (by rfl) (by kernel_rfl) ?_
 simp[Tryz.f180];have v:Wl [AV.agg (G8 f),.sl 1 (l.map int) sp] [dB f,ints l]:=.cons (.refl _) (.cons (ik 1 _ sp) .nil);refine cu Tryz.func113 rfl rfl v (Hb o j (λq=>absurd u q) λ_ b mb σ' d=>?_)
 have w:Sw b 6 mb .u8 (kL f) σ':=by rw[d.eq];exact⟨aa.ak _ _ _,[],(aa.ai _ _ (za d.ne)).trans (aa.ak _ _ _),λn a h=>by simp[dp]at h⟩
 refine rn ?_;simp;refine cf Tryz.func201 rfl (Pm (Dr Al Am Rr r d.ne) t w λk y z=>?_)
 refine rn ?_;simp[g];refine .done (h b mb k d.ne y ⟨d.hb,d.Ce⟩ λc x i=>?_)
 have A:c≠b:=λe=>by subst e;rw[d.hb]at i;cases i
 have B:c≠mb:=λe=>by subst e;rw[d.Ce]at i;cases i
 exact z c x (d.le c x i) A (.inl B)
theorem Po(j:m.solo=true){f:Fr}{x y:Int}(k:f.Fits)(o:check f=0)(d:0<=x/\x<f.aD.length)(p:0<=y/\y<f.aD.length)(a:aH f []≠[])(hlen:(aH f []).length<1152921504606846976)(h:KF (.val (.cB [int (ln (((aH f []).filter (lU x y)).length:Int) (aH f []).length),int 0])) σ):aA prog m 148 [dB f,int x,int y] σ KF:=by
 have q:=Fr.qO k o;refine fs [] 3 Tryz.func148 rfl rfl (by rfl) (by kernel_rfl) ?_;simp[Tryz.f148];refine cf Tryz.func180 rfl (Jm (l:=[x,y]) (sp:=.exact) j k o (λn A=>by grind) (by simp) a λb mb r g s t i=>?_);refine rn ?_;simp;refine cf Tryz.func181 rfl (Pn (Dr Al Am Rr j g) q ⟨d.1,by omega⟩ ⟨p.1,by omega⟩ hlen s λu B v=>?_);refine rn ?_;simp;refine .less (λc x d=>?_) (.done h);have w:c≠b:=λe=>by simp_all
 have z:c≠mb:=λe=>by simp_all
 exact v c x (i c x d) w (.inl z)
theorem M4(l:m.solo=true){f:Fr}(j:f.Fits)(k:check f=0)(hlen:(aH f [0,0]).length<1000000000/\(aH f [0,1]).length<1000000000)(h:KF (.val (.cB [int (gz f),int 0])) σ):aA prog m 74 [dB f] σ KF:=by
 have o:=Fr.qO j k;have p:=DC k;refine fs [] 1 Tryz.func74 rfl rfl (by rfl) (by kernel_rfl) ?_
 simp[Tryz.f74];have r:Wl [AV.agg (G8 f),AV.lit (.slice none 0 0)] [dB f,ints []]:=.cons (.refl _) (.cons (fQ 1) .nil);refine cu Tryz.func113 rfl rfl r (Hb j (by simp) (λq=>absurd p q) λ_ b mb i d=>?_)
 have s:Sw b 6 mb .u8 (kL f) i:=by rw[d.eq];exact⟨aa.ak _ _ _,[],(aa.ai _ _ (za d.ne)).trans (aa.ak _ _ _),λn a h=>by simp[dp]at h⟩
 refine rn ?_;simp;refine cf Tryz.func114 rfl (M0 l o hlen d.ne s λt y u=>?_)
 refine rn ?_;simp;refine .less (λc x g=>?_) (.done h)
 have v:c≠b:=λe=>by subst e;rw[d.hb]at g;cases g
 have w:c≠mb:=λe=>by subst e;rw[d.Ce]at g;cases g
 exact u c x (d.le c x g) v (.inl w)
def bE(w:acp):Int:=w.foldl (λn k=>max n (k+1)) 0
section
variable{b mb:Nat}{f:Fr}{Un:acu}{Ld:aa->abI->Prop}
end
theorem M5{l b:acw}(m:l.length=b.length)(f:∀(i:Nat) a a',l[i]?=some a->b[i]?=some a'->a.W a'):(AV.cB l).W (.cB b):=λk x g=>by
 cases g with
 | cB c _ n h=>
   refine .cB c b (by omega) λi v a' j d=>?_
   have e:i<l.length:=by grind
   exact f i l[i] a' (by simp[e]) d k v (h i v _ j (by simp[e]))
theorem Hd:∀{es:acw},(∀a∈es,a.cells=[a])->flatten es=es
 |[],_=>rfl
 |a::es,h=>by rw[flatten_cons,h a (abj ..),Hd λx b=>h x (aan _ b)];rfl
theorem US{es d:acw}{sp:cT}(n:es.length=d.length)(o:∀a∈es,a.cells=[a])(f:∀a∈d,a.cells=[a])(p:∀(i:Nat) a a',es[i]?=some a->d[i]?=some a'->a.W a'):(AV.sl 1 es sp).W (.sl 1 d .any):=λk x q=>by
 cases q with
 | sl b off cap v N E _ _ c h r s w t l y=>
   rw[Hd o]at t l;rw[n]at h ⊢;refine .sl b off cap 1 N E d .any c h r s (λe z=>by simp_all) (λj g=>?_) (λj a m=>?_) trivial
   . rw[Hd f]at g
     simp_all
   . rw[Hd f]at m
     have g:j<es.length:=by grind
     exact p j es[j] a (by simp[g]) m k _ (l j _ (by simp[g]))
 | slnil u=>
   have:d=[]:=by grind
   subst this;exact .slnil u 1 .any (.inl rfl)
theorem pS{l b:acw}(m:l.length=b.length)(f:∀(i:Nat) a a',l[i]?=some a->b[i]?=some a'->a.W a'):(AV.agg l).W (.agg b):=λk x g=>by
 cases g with
 | agg c _ n h=>
   refine .agg c b (by omega) λi v a' j d=>?_
   have e:i<l.length:=by grind
   exact f i l[i] a' (by simp[e]) d k v (h i v _ j (by simp[e]))
def bj(c:Nat)(nums:acp)(k:Nat)(σ:aa):Prop:=∃(n:Nat) (s:Int),n<=k/\σ c=some (.cells [ints nums,int n,.lit (.int .u64 s)])
theorem Jn{nums:acp}(h:∀c σ',σ c=none->bj c nums 0 σ'->(∀x,x≠c->σ' x=σ x)->KF (.val (.ref c 0)) σ'):aA prog m 10 [ints nums] σ KF:=by
 refine aA.start lay [5] [] 1 Tryz.func10 rfl rfl (by rfl) (by kernel_rfl) ?_;simp[Tryz.f10];refine bR.intro λc a=>?_
 simp;exact .done (h c _ a ⟨0,_,ZF _,aa.ak _ _ _⟩ λx b=>aa.ai _ _ b)
theorem Pp(a b:Int):0<=IntKind.u64.wrap (((BitVec.ofInt 64 a ^^^ BitVec.ofInt 64 b).toNat:Nat):Int)/\IntKind.u64.wrap (((BitVec.ofInt 64 a ^^^ BitVec.ofInt 64 b).toNat:Nat):Int)<18446744073709551616:=by generalize (((BitVec.ofInt 64 a ^^^ BitVec.ofInt 64 b).toNat:Nat):Int)=x;simp only[IntKind.wrap,IntKind.signed,IntKind.bits];simp;omega
theorem M6{x:Int}(h:0<=x/\x<18446744073709551616):0<=x.fdiv (2 ^ min 11 IntKind.u64.bits)/\x.fdiv (2 ^ min 11 IntKind.u64.bits)<9007199254740992:=by
 have e:(2:Int) ^ min 11 IntKind.u64.bits=2048:=by decide
 grind
theorem Pq{c k:Nat}{nums:acp}(B:k<1000000)(C:nums.length<1152921504606846976)(hb:bj c nums k σ)(h:∀(x:Int) σ',0<=x/\x<9007199254740992->bj c nums (k+1) σ'->(∀y,y≠c->σ' y=σ y)->KF (.val (.lit (.int .u64 x))) σ'):aA prog m 53 [.ref c 0] σ KF:=by
 obtain⟨n,s,w,l⟩:=hb;have t:-9223372036854775808<=(n:Int)+1/\(n:Int)+1<=9223372036854775807:=by omega
 obtain⟨fm,d⟩:∃f:abS,∀a b,pf .mul .u64 a b=some (.int .u64 (f a b)):=⟨_,λ_ _=>rfl⟩;obtain⟨D,g,r⟩:∃f:abS,(∀a b,pf .xor .u64 a b=some (.int .u64 (f a b)))/\∀a b,0<=f a b/\f a b<18446744073709551616:=⟨_,λ_ _=>rfl,Pp⟩;refine aA.Fi lay [] We 27 1 Tryz.func53 rfl rfl (by rfl) (by kernel_rfl) ?_;simp[Tryz.f53,l,t.1,t.2,aJ,d];refine ab.jL (λe i=>e 0=.ref c 0/\(∃z,e 3=.lit (.int .u64 z))/\i c=some (.cells [ints nums,int ((n:Int)+1),.lit (.int .u64 s)])/\∀y,y≠c->i y=σ y) (by simp;intro y p;exact aa.ai _ _ p) ?_;clear l;rintro env i ⟨o,⟨z,q⟩,l,j⟩;refine ab.runN lay [] 2 ?_;simp[o,l];refine ab.runN lay [] 2 ?_;simp;refine aG.intro (λu=>?_) (λu=>?_)<;>simp[-Int.not_lt,-Int.not_le,-Nat.not_lt,-Nat.not_le]at u
 . have E:(n:Int)<nums.length:=by omega
   have A:n<nums.length:=by omega
   have v:-9223372036854775808<=(n:Int)/\(n:Int)<=9223372036854775807:=by omega
   simp[o,q,l,A,v.1,v.2,d,g];refine ab.jL (λe i=>e 0=.ref c 0/\(∃z,e 3=.lit (.int .u64 z))/\i c=some (.cells [ints nums,int ((n:Int)+1),.lit (.int .u64 s)])/\∀y,y≠c->i y=σ y) (by simp_all) ?_;clear o q l j;rintro env i ⟨o,⟨z,q⟩,l,j⟩;refine rn ?_;simp[o,q,l,d,g,aJ];refine ab.jL (λe i=>e 0=.ref c 0/\(∃s,i c=some (.cells [ints nums,int ((n:Int)+1),.lit (.int .u64 s)]))/\∀y,y≠c->i y=σ y) (by refine⟨by simp[o],⟨_,by simp;rfl⟩,λy p=>?_⟩;simp[aa.ai,p,j y p]) ?_;clear o q l j;rintro env i ⟨o,⟨z,l⟩,j⟩;refine rn ?_;simp[o,l,d,g];refine .done (h _ i (M6 (r _ _)) ⟨n+1,z,by omega,by simp_all⟩ j)
 . simp
   refine rn ?_;simp[o,q,l,d,g,aJ];refine ab.jL (λe i=>e 0=.ref c 0/\(∃s,i c=some (.cells [ints nums,int ((n:Int)+1),.lit (.int .u64 s)]))/\∀y,y≠c->i y=σ y) (by refine⟨by simp[o],⟨_,by simp;rfl⟩,λy p=>?_⟩;simp[aa.ai,p,j y p]) ?_;clear o q l j;rintro env i ⟨o,⟨z,l⟩,j⟩;refine rn ?_;simp[o,l,d,g];refine .done (h _ i (M6 (r _ _)) ⟨n+1,z,by omega,by simp_all⟩ j)
def pn(c:Nat)(nums:acp)(k:Nat)(σ σ':aa):Prop:=bj c nums k σ'/\∀y,y≠c->σ' y=σ y
theorem pn.trans{c:Nat}{nums:acp}{k k':Nat}{σ σ' a:aa}(h:pn c nums k σ σ')(b:pn c nums k' σ' a):pn c nums k' σ a:=⟨b.1,λy d=>(b.2 y d).trans (h.2 y d)⟩
theorem bj.mono{c:Nat}{nums:acp}{k k':Nat}(h:bj c nums k σ)(b:k<=k'):bj c nums k' σ:=by obtain⟨n,s,d,a⟩:=h;exact⟨n,s,by omega,a⟩
theorem M7{n:Int}(h:0<=n/\n<18446744073709551616):IntKind.u64.wrap n=n:=by simp only[IntKind.wrap,IntKind.signed,IntKind.bits];simp;omega
theorem Rs{n:Int}(h:-9223372036854775808<=n/\n<=9223372036854775807):IntKind.i64.wrap n=n:=by simp[IntKind.wrap,IntKind.signed,IntKind.bits];omega
section
variable{c k:Nat}{nums:acp}
theorem fa{n:Int}(f:k<1000000)(g:nums.length<1152921504606846976)(i:-4611686018427387904<=n/\n<4611686018427387904)(hb:bj c nums k σ)(h:∀(x:Int) σ',0<=x/\(x<=n\/x=0)->pn c nums (k+1) σ σ'->KF (.val (int x)) σ'):aA prog m 18 [.ref c 0,int n] σ KF:=by
 refine fs [] 2 Tryz.func18 rfl rfl (by rfl) (by kernel_rfl) ?_;simp[Tryz.f18];refine cf Tryz.func53 rfl (Pq f g hb λx σ' j a b=>?_);refine rn ?_;simp;refine aG.intro (λd=>?_) (λd=>?_)<;>simp[-Int.not_lt,-Int.not_le]at d
 . simp
   exact .done (h 0 σ' ⟨by omega,.inr rfl⟩ ⟨a,b⟩)
 . have l:IntKind.u64.wrap n=n:=M7 (by omega)
   have o:pf .add .u64 n 1=some (.int .u64 (n+1)):=by show some (Value.int .u64 (IntKind.u64.wrap (n+1)))=_;rw[M7 (by omega)]
   obtain⟨r,e,p⟩:∃r:Int,(0<=r/\r<=n)/\pf .rem .u64 x (n+1)=some (.int .u64 r):=by
    refine⟨x.tmod (n+1),⟨Int.tmod_nonneg _ j.1,?_⟩,by simp[pf];omega⟩;have:=Int.tmod_lt_of_pos x (show 0<n+1 by omega);omega
   have q:IntKind.i64.wrap r=r:=Rs (by omega);simp[l,o,p,q];exact .done (h r σ' ⟨e.1,.inl e.2⟩ ⟨a,b⟩)
theorem eH{lo hi:Int}(d:k<1000000)(e:nums.length<1152921504606846976)(f:-1000000000<=lo/\lo<=1000000000)(g:-1000000000<=hi/\hi<=1000000000)(hb:bj c nums k σ)(h:∀(x:Int) σ',lo<=x/\(x<=hi\/x=lo)->pn c nums (k+1) σ σ'->KF (.val (int x)) σ'):aA prog m 19 [.ref c 0,int lo,int hi] σ KF:=by
 have a:-9223372036854775808<=hi-lo/\hi-lo<=9223372036854775807:=by omega
 refine fs [] 3 Tryz.func19 rfl rfl (by rfl) (by kernel_rfl) ?_;simp[Tryz.f19,a.1,a.2];refine cf Tryz.func18 rfl (fa d e ⟨by omega,by omega⟩ hb λx σ' i hd=>?_);have b:-9223372036854775808<=lo+x/\lo+x<=9223372036854775807:=by omega
 refine rn ?_;simp[b.1,b.2];exact .done (h _ σ' ⟨by omega,by omega⟩ hd)
theorem mQ{l:acp}{sp:cT}(d:k<1000000)(f:nums.length<1152921504606846976)(i:0<l.length/\l.length<1000000)(hb:bj c nums k σ)(h:∀(x:Int) σ',x∈l->pn c nums (k+1) σ σ'->KF (.val (int x)) σ'):aA prog m 54 [.ref c 0,.sl 1 (l.map int) sp] σ KF:=by
 have a:-9223372036854775808<=(l.length:Int)-1/\(l.length:Int)-1<=9223372036854775807:=by omega
 refine fs [] 2 Tryz.func54 rfl rfl (by rfl) (by kernel_rfl) ?_;simp[Tryz.f54,a.1,a.2];refine cf Tryz.func18 rfl (fa d f ⟨by omega,by omega⟩ hb λx σ' g hd=>?_);have b:x.toNat<l.length:=by omega
 have j:x<l.length:=by omega
 have e:(x.toNat:Int)=x:=by omega
 refine rn ?_;simp[g.1,b];exact .done (h _ σ' (zD b) hd)
theorem vZ{n:Int}(b:k<1000000)(d:nums.length<1152921504606846976)(e:0<=n/\n<1000000000)(hb:bj c nums k σ)(h:∀(x:Bool) σ',pn c nums (k+1) σ σ'->KF (.val (bool x)) σ'):aA prog m 20 [.ref c 0,int n] σ KF:=by
 have a:-9223372036854775808<=n-1/\n-1<=9223372036854775807:=by omega
 refine fs [] 2 Tryz.func20 rfl rfl (by rfl) (by kernel_rfl) ?_;simp[Tryz.f20,a.1,a.2];refine cf Tryz.func18 rfl (fa b d ⟨by omega,by omega⟩ hb λx σ' f hd=>?_);refine rn ?_;simp;exact .done (h _ σ' hd)
end
structure ye(dS:Int)(e:mN):Prop where
 hour:0<=e.hour/\e.hour<=40
 place:0<=e.place/\e.place<dS
 cW:0<=e.cW/\e.cW<=1
 marks:e.marks.Sublist [0,1,2]
 bq:14<=e.bq/\e.bq<=16
 jG:0<=e.jG/\e.jG<=2
theorem lr{l:acp}(h:l.Sublist [0,1,2]):sZ none l=0/\l.length<=3:=by cases h<;>(rename_i h;cases h<;>(rename_i h;cases h<;>(rename_i h;cases h;decide)))
theorem ye.check{dS:Int}{e:mN}(h:ye dS e):cM dS e=0:=by
 obtain⟨b,c,d,a,f,g⟩:=h;have a:=(lr a).1;unfold cM bD
 grind
theorem qD{σ0 σ σ2:aa}{a:AV}{kk:Nat}{es:acw}{c:Nat}(h:Tok σ0 σ a kk es)(g:σ0 c=none)(i:∃l,σ c=some (.cells l))(d:∀y,y≠c->σ2 y=σ y):Tok σ0 σ2 a kk es:=by
 refine⟨λy x f=>?_,?_⟩
 . have:y≠c:=λe=>by simp_all
   rw[d y this];exact h.1 y x f
 rcases h.2 with q|q|⟨b,e,j,k,m⟩
 . exact .inl q
 . simp_all
 grind
section
variable{c k:Nat}{nums:acp}
theorem DJ{dS:Int}(hk:k+11<1000000)(u:nums.length<1152921504606846976)(b4:0<=dS/\dS<=1000)(hb:bj c nums k σ)(h:∀(e:mN) σ',ye (max dS 1) e->pn c nums (k+11) σ σ'->KF (.val (br e)) σ'):aA prog m 84 [.ref c 0,int dS] σ KF:=by
 have r1:-9223372036854775808<=dS-1/\dS-1<=9223372036854775807:=by omega
 obtain⟨n0,s0,_,a7⟩:=id hb;refine fs [] 2 Tryz.func84 rfl rfl (by rfl) (by kernel_rfl) ?_
 simp[Tryz.f84];refine bR.intro λr h4=>?_
 have n4:c≠r:=λe=>by simp_all
 have v:∀x,bj c nums k (σ.set r x):=λx=>⟨n0,s0,by assumption,by rw[aa.ai _ _ n4];exact a7⟩
 simp;refine cf Tryz.func18 rfl (fa (by omega) u ⟨by omega,by omega⟩ (v _) λd b5 b6 I=>?_)
 refine rn ?_;simp;refine cf Tryz.func18 rfl (fa (by omega) u ⟨by omega,by omega⟩ I.1 λg f b7 J=>?_)
 refine rn ?_;simp;refine cf Tryz.func18 rfl (fa (by omega) u ⟨by omega,by omega⟩ J.1 λx3 A b8 K=>?_)
 refine rn ?_;simp;refine cf Tryz.func54 rfl (mQ (l:=[d,g,x3]) (by omega) u ⟨by simp,by simp⟩ K.1 λF b9 a8 L=>?_)
 refine rn ?_;simp[r1.1,r1.2];refine cf Tryz.func18 rfl (fa (by omega) u ⟨by omega,by omega⟩ L.1 λpl bm bw M=>?_)
 refine rn ?_;simp;refine cf Tryz.func54 rfl (mQ (l:=[0,0,0,1]) (by omega) u ⟨by simp,by simp⟩ M.1 λco bx a9 N=>?_)
 refine rn ?_;simp;refine cf Tryz.func54 rfl (mQ (l:=[14,14,15,15,16]) (by omega) u ⟨by simp,by simp⟩ N.1 λG bA ad O=>?_)
 refine rn ?_;simp;refine cf Tryz.func54 rfl (mQ (l:=[0,0,1,2]) (by omega) u ⟨by simp,by simp⟩ O.1 λsh P al Q=>?_)
 refine rn ?_;simp;refine bR.intro λw h5=>?_
 simp;have o:pn c nums (k+8) (σ.set r (.cells [int 0,int 0,int 0,.lit (.slice none 0 0),int 0,int 0])) P:=I.trans (J.trans (K.trans (L.trans (M.trans (N.trans (O.trans Q))))));have R:r≠c:=za n4;have av:P r=some (.cells [int 0,int 0,int 0,.lit (.slice none 0 0),int 0,int 0]):=by rw[o.2 r R,aa.ak]
 have S:w≠c:=λe=>by subst e;obtain⟨_,_,_,q⟩:=Q.1;simp_all
 have B:w≠r:=λe=>by simp_all
 have ax:σ w=none:=by rw[o.2 w S,aa.ai _ _ B]at h5;exact h5
 have ay:0<=F/\F<=40:=by simp at a8;omega
 have aC:0<=co/\co<=1:=by simp at a9;omega
 have aE:14<=G/\G<=16:=by simp at ad;omega
 have aL:0<=sh/\sh<=2:=by simp at al;omega
 have aO:0<=pl/\pl<max dS 1:=by omega
 refine ab.loop 3 (λj s=>∃env σ' a mk,s=⟨env,σ',[],.no⟩/\env 0=.ref c 0/\env 4=.ref r 0/\env 5=.ref w 0/\env 6=int j/\bj c nums (k+8+j) σ'/\σ' r=some (.cells [int 0,int 0,int 0,.lit (.slice none 0 0),int 0,int 0])/\σ' w=some (.cells [int F,int pl,int co,a,int G,int sh])/\Tok (σ.del c) σ' a 1 (mk.map int)/\mk.Sublist ((List.range j).map λi:Nat=>(i:Int))) ⟨_,_,.lit (.slice none 0 0),[],rfl,by simp,by simp,by simp,by simp,?_,?_,?_,?_,by simp⟩ ?_
 . obtain⟨n,z,h1,h2⟩:=o.1
   exact⟨n,z,by omega,by rw[aa.ai _ _ (za S)];exact h2⟩
 . rw[aa.ai _ _ (za B)];exact av
 . simp
 . refine⟨λy x t=>?_,.inl ⟨rfl,rfl⟩⟩
   have H:y≠c:=λe=>by subst e;simp[aa.del]at t
   have y0:σ y=some x:=by simpa[aa.del,H]using t
   have y5:y≠w:=λe=>by simp_all
   have y4:y≠r:=λe=>by simp_all
   rw[aa.ai _ _ y5,o.2 y H,aa.ai _ _ y4];exact y0
 rintro c0 j _ hj ⟨env,σ',a,mk,rfl,e0,e4,T,U,C,q4,q5,p,b0⟩ ih
 have bB:mk.length<=j:=by grind
 rcases ZU j 3 with g1|g1
 . have b1:(j:Int)<3:=by omega
   refine rn ?_;simp[e0,U,b1];refine cf Tryz.func20 rfl (vZ (by omega) u ⟨by omega,by omega⟩ C λx f hd=>?_)
   have b2:∃l,σ' c=some (.cells l):=by obtain⟨_,_,_,q⟩:=C;grind
   have b:Tok (σ.del c) f a 1 (mk.map int):=qD p (by simp[aa.del]) b2 hd.2
   have V:=b.cells;have s4:f r=some (.cells [int 0,int 0,int 0,.lit (.slice none 0 0),int 0,int 0]):=by rw[hd.2 r R];exact q4
   have s5:f w=some (.cells [int F,int pl,int co,a,int G,int sh]):=by rw[hd.2 w S];exact q5
   have c6:(List.range (j+1)).map (λi:Nat=>(i:Int))=(List.range j).map (λi:Nat=>(i:Int))++[(j:Int)]:=by rw[ZN,ZI];rfl
   have f1:-9223372036854775808<=(j:Int)+1/\(j:Int)+1<=9223372036854775807:=by omega
   refine rn ?_;simp;cases x with
   | false=>
     simp[U,f1.1,f1.2];refine ih _ g1 ⟨_,_,a,mk,rfl,by simp[e0],by simp[e4],by simp[T],by simp,hd.1,s4,s5,b,?_⟩
     grind
   | true=>
     simp[T,U,s5];refine aK lay rfl rfl rfl dh rfl dh rfl qM (by decide) (by simp;omega) (σ0:=f.off a) (es:=mk.map int) (xs:=[int j]) (by simpa using b.here.1) (.inr ⟨_,rfl⟩) λa' A D=>?_
     have X:=D.cells;have b3:∀y l,f y=some (.cells l)->bp a≠some y:=λy l t e=>by obtain⟨_,_,q⟩:=b.aV e;grind
     have k3:∀y l,f y=some (.cells l)->A y=some (.cells l):=λy l t=>D.1 _ _ (by rw[aa.dO (b3 y l t)];exact t)
     have t5:=k3 _ _ s5;have t4:=k3 _ _ s4;refine rn ?_;simp[T,U,f1.1,f1.2,t5,X.1,X.2,aJ];obtain⟨nb,zb,v,E⟩:=hd.1;have tc:=k3 _ _ E
     have Y:Tok (σ.del c) A a' 1 ((mk++[(j:Int)]).map int):=by
      have:=D.base b.here.2
      simpa using this
     refine ih _ g1 ⟨_,_,a',mk++[(j:Int)],rfl,by simp[e0],by simp[e4],by simp[T],by simp,⟨nb,zb,v,by rw[aa.ai _ _ (za S)];exact tc⟩,by rw[aa.ai _ _ (za B)];exact t4,aa.ak _ _ _,Y.beside (by simp[aa.del,S,ax]) (λe=>by obtain⟨_,_,q⟩:=Y.aV e;grind),?_⟩
     grind
 . have:j=3:=by omega
   subst this;have V:=p.cells;refine rn ?_;simp[e4,T,U,q4,q5,V.2,aJ];obtain⟨nb,zb,v,E⟩:=C;have Z:mk.Sublist [0,1,2]:=b0;refine .n8 (a':=br ⟨F,pl,co,mk,G,sh⟩) (pS rfl λi x y d g=>?_) (.less (σ':=σ.set c (.cells [ints nums,int nb,.lit (.int .u64 zb)])) (λy x t=>?_) (.done (h ⟨F,pl,co,mk,G,sh⟩ _ ⟨ay,aO,aC,Z,aE,aL⟩ ⟨⟨nb,zb,by omega,aa.ak _ _ _⟩,λy t=>aa.ai _ _ t⟩)))
   . match i with
     |0=>simp at d g;subst d;subst g;exact .refl _
     |1=>simp at d g;subst d;subst g;exact .refl _
     |2=>simp at d g;subst d;subst g;exact .refl _
     |3=>simp at d g;subst d;subst g;exact p.W
     |4=>simp at d g;subst d;subst g;exact .refl _
     |5=>simp at d g;subst d;subst g;exact .refl _
     |i+6=>simp at d
   . by_cases H:y=c
     . subst H
       rw[aa.ak]at t;rw[aa.ai _ _ n4,E];exact t
     . rw[aa.ai _ _ H]at t
       have y4:y≠r:=λe=>by grind
       rw[aa.ai _ _ y4];exact p.1 y x (by simpa[aa.del,H]using t)
theorem oE{dS:Int}(b:k+11<1000000)(d:nums.length<1152921504606846976)(a:1<=dS/\dS<=1000)(hb:bj c nums k σ)(h:∀(e:mN) σ',ye dS e->pn c nums (k+11) σ σ'->KF (.val (br e)) σ'):aA prog m 84 [.ref c 0,int dS] σ KF:=DJ b d ⟨by omega,a.2⟩ hb λe σ' f hd=>h e σ' (by grind) hd
end

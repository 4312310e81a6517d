/- Part 28 of the proof. -/
import Derived.Conc.HoldsTime
import Derived.Test.YtalogdafegmilaaGreatDoorC27
set_option linter.all false
namespace Go.aN
open Go.Conc
open Go.ConcN (sumTo upd sumTo_upd upd_ne upd_same)
def qw:Mo:=⟨true,true,λ_ _ _ _=>False⟩
section
variable{P:Program}(L:iE P){m:Mo}{f:FuncId}{fn:Func}
def KC{P:Program}(L:iE P)(rs:List ResultVar)(KF:cL->aa->Prop):Exit->St->Prop
 |.leave none,s=>s.rc=.no/\s.D=[]/\∃l,eF L s.env s.σ rs=some l/\KF (.val (oneOf l)) s.σ
 |.leave (some .ret),s=>s.rc=.no/\s.D=[]/\∃l,eF L s.env s.σ rs=some l/\KF (.val (oneOf l)) s.σ
 |.leave _,_=>False
 |.panic _,_=>False
@[simp] theorem Ox{rs:List ResultVar}{KF:cL->aa->Prop}{s:St}:KC L rs KF (.leave (some .ret)) s=(s.rc=.no/\s.D=[]/\∃l,eF L s.env s.σ rs=some l/\KF (.val (oneOf l)) s.σ):=propext Iff.rfl
@[simp] theorem Mj{rs:List ResultVar}{KF:cL->aa->Prop}{s:St}{v:AV}:KC L rs KF (.panic v) s=False:=propext Iff.rfl
def gq(P:Program)(L:iE P)(m:Mo)(f:FuncId)(args:List AV)(σ:aa)(KF:cL->aa->Prop):Prop:=∃fn body,P.funcs[f]?=some fn/\fn.body=some body/\args.length<=fn.ntmps/\Go P m f fn.ntmps none [.code body] ⟨dK args,σ,[],.no⟩ (KC L fn.results.toList (nB KF))
theorem gq.start{args:List AV}{σ:aa}{KF:cL->aa->Prop}{body:Code}(mu:List Nat)(hold:List Entry)(k:Nat)(hf:P.funcs[f]?=some fn)(hb:fn.body=some body)(hk:args.length=k)(hc:oB fn k=true)(hpl:mh hold body=true)
 (h:bk L m f fn.ntmps none mu hold 1000 [.code body] ⟨dK args,σ,[],.no⟩ (KC L fn.results.toList (nB KF))):gq P L m f args σ KF:=by
 simp only[oB,Bool.and_eq_true]at hc;exact⟨fn,body,hf,hb,by rw[hk];exact Nat.le_of_ble_eq_true hc.1,Go.bk L mu hold 1000 (by simpa[kN]using hpl) h⟩
def Oy(P:Program)(f:FuncId)(r:Nat)(KF:cL->aa->Prop)(k0:ag):ag->ah->Goroutine->Prop:=λk O g=>∃tmps todo σ av,g=G ⟨f,tmps,todo,[],.returning,.normal,none⟩ []/\k0.Le k/\Rel k O σ/\V k (tmps.getD r undef) av/\KF (.val av) σ
theorem Oz{r:Nat}{args:List AV}{cargs:List Value}{σ:aa}{KF:cL->aa->Prop}{k:ag}{O:ah}(hf:P.funcs[f]?=some fn)(hres:fn.results=#[.tmp r])(hr:r<fn.ntmps)(h:gq P L m f args σ KF)(hv:Vs k cargs args)(hrel:Rel k O σ):
 T P m (Oy P f r KF k) k O (G (Frame.enter P f cargs.toArray .normal) []):=by
 obtain⟨fn',body,hf',hb,hn,hGo⟩:=h;rw[hf]at hf';cases hf';have hsz:(cargs.toArray++Array.replicate (fn.ntmps-cargs.length) undef).size=fn.ntmps:=by simp;rw[hv.1];omega
 have e:Frame.enter P f cargs.toArray .normal=⟨f,cargs.toArray++Array.replicate (fn.ntmps-cargs.length) undef,[.code body],[],.run,.normal,none⟩:=by simp[Frame.enter,hf,hb]
 rw[e]
 have key:∀res σ',nB KF res σ'->∀k' O' tmps todo av,res=.val av->k.Le k'->Rel k' O' σ'->V k' (tmps.getD r undef) av->T P m (Oy P f r KF k) k' O' (G ⟨f,tmps,todo,[],.returning,.normal,none⟩ []):=by
  intro res σ' ht
  induction ht with
  |@done res σ' hk=>exact λk' O' tmps todo av e hle hr hv=>.stop ⟨tmps,todo,_,av,rfl,hle,hr,hv,e ▸ hk⟩
  | freeze b l hb hf hs _ ih=>
    intro k' O' tmps todo av e hle hr hv;cases e;refine T.yr hr hb rfl λk2 O2 hle2 hvv hrr=>?_
    exact ih k2 O2 tmps todo _ rfl (hle.trans hle2) (hrr _ hs) (hvv _ _ _ hv hf)
  |nC hw _ ih=>intro k' O' tmps todo av e hle hr hv;cases e;exact ih k' O' tmps todo _ rfl hle hr (hw _ _ hv)
  |less hs _ ih=>intro k' O' tmps todo av e hle hr hv;exact ih k' O' tmps todo av e hle (hr.le hs) hv
 refine hGo _ k O _ [] .normal [] (by decide) ⟨hsz,rN hv _,hrel,trivial,trivial⟩ ⟨λk' O' tmps defs s todo jump hle hs hl hK=>?_,λk' O' tmps defs s todo cv av hle hs hcv hK=>hK.elim⟩
 have key2:s.rc=.no/\s.D=[]/\(∃l,eF L s.env s.σ fn.results.toList=some l/\nB KF (.val (oneOf l)) s.σ)/\(jump=none\/jump=some .ret):=by
  rcases hl with⟨_,rfl⟩|⟨_,_,rfl⟩|⟨_,_,_,_,rfl⟩
  . exact⟨hK.1,hK.2.1,hK.2.2,.inl rfl⟩
  . exact⟨hK.1,hK.2.1,hK.2.2,.inr rfl⟩
  . exact hK.elim
 obtain⟨h1,h2,⟨l,hl1,hl2⟩,h3⟩:=key2;have hd:=hs.ds;rw[h2]at hd;cases defs with
 |cons _ _=>exact hd.elim
 |nil=>
 rw[h1];refine T.dD (g':=G ⟨f,tmps,todo,[],.returning,.normal,none⟩ []) rfl (λw=>?_) ?_
 . rcases hl with⟨rfl,rfl⟩|⟨kk,rfl,rfl⟩|⟨_,_,_,_,rfl⟩
   . simp[G,stepG,stepG.exec,fM]
   . simp[G,stepG,stepG.exec,fM]
   . simp at h3
 . have hl':l=[s.env r]:=by
    rw[hres]at hl1;simpa[eF,yi,eq_comm]using hl1
   subst hl';exact key _ _ hl2 k' O' tmps todo _ rfl hle hs.rel (hs.env r (by rw[hs.size];exact hr))
theorem xI{Q:Machine->Outcome->World->Trace->Prop}:∀(n:Nat) (m m1:Machine) (t t1:Trace),runNT P n m t=(.next m1,t1)->(∃N last o w' t',runNT P (N+1) m1 t1=(.ended o w',t')/\runN P N m1=.next last/\step P last=.ended o w'/\Q last o w' t') ->
 ∃N last o w' t',runNT P (N+1) m t=(.ended o w',t')/\runN P N m=.next last/\step P last=.ended o w'/\Q last o w' t'
 | 0,m,m1,t,t1,h,hq=>by
   simp only[runNT,Prod.mk.injEq,Stepped.next.injEq]at h;obtain⟨rfl,rfl⟩:=h;exact hq
 | n + 1,m,m1,t,t1,h,hq=>by
   cases hs:stepT P m with
   | mk e ops=>
     cases e with
     |ended o w=>simp only[runNT,hs]at h;cases h
     |next m2=>rw[runNT_succ_next hs]at h;obtain⟨N,last,o,w',t',h1,h2,h3,h4⟩:=xI n m2 m1 _ t1 h hq;exact⟨N+1,last,o,w',t',by rw[runNT_succ_next hs];exact h1,by rw[runN_succ_next hs];exact h2,h3,h4⟩
def ag.all(w:World):ag:=⟨λb i=>w.cell? ⟨b,i,none⟩,λb=>w.shape? b⟩
theorem HX{r:Nat}(hf:P.funcs[f]?=some fn)(hi:P.inits.idxOf? f=none)(hres:fn.results=#[.tmp r])(tmps:Array Value)(todo:List Item)(w:World):stepG P true (G ⟨f,tmps,todo,[],.returning,.normal,none⟩ []) w=.ended (.done (tmps.getD r undef)) w #[]:=by simp[G,stepG,unwind,hf,results,hres,doReturn,hi,GStep.after,seen]
theorem ot{r:Nat}{args:List AV}{cargs:List Value}{KF:cL->aa->Prop}(hf:P.funcs[f]?=some fn)(hi:P.inits.idxOf? f=none)(hres:fn.results=#[.tmp r])(hr:r<fn.ntmps)(h:gq P L qw f args (λ_=>none) KF){W:World}(hv:Vs (ag.all W) cargs args):
 ∃ M last o w' t',runNT P (M+1) (solo (G (Frame.enter P f cargs.toArray .normal) []) W) #[]=(.ended o w',t')/\runN P M (solo (G (Frame.enter P f cargs.toArray .normal) []) W)=.next last/\
   step P last=.ended o w'/\Conc.Good P (λv W'=>(∃k av σ,V k v av/\KF (.val av) σ)/\jx W W') last o w' t':=by
 have hT:=Oz L (m:=qw) (O:=ah.bot) hf hres hr h hv ⟨λb a e=>(by cases e),λb e=>(by cases e)⟩
 have hS:ed P W (ag.all W) ah.bot (G (Frame.enter P f cargs.toArray .normal) []) #[G (Frame.enter P f cargs.toArray .normal) []] W #[]:=by
  refine⟨λ_=>False,λ_=>0,rfl,leavers_one P _,?_,λa h=>h.elim,λr h=>h.elim,⟨λb i v _ hc=>?_,λb i v h=>h,λb s h=>h,λb o h=>(by cases h),λb n h=>(by cases h),λb g h=>(by cases h)⟩,.refl W,λb x h=>(by cases h)⟩
  . exact⟨past_nil.clean,past_nil.known,past_nil.over,past_nil.hears,by simp⟩
  . exact dH (qT b) hc
 obtain⟨M,gs',w',sl',t',k',O',g',e1,⟨Shun,q,h0,hL,hP,_,_,_,hfr,_⟩,tmps,todo,σ,av,rfl,_,_,hvv,hKF⟩:=HO (m:=qw) rfl (λ_ _ _ _ h=>h) hT W _ W none #[] hS;rw[solo_eq_crowd];refine xI M _ _ _ _ e1 ?_;refine beside_ends (Shun:=Shun) (B:=w'.heap.size) (D:=λ_ _ _=>False) (n:=0) (λ_ _ _ h=>h.elim) h0 hL hP λw1 hw1=>?_
 obtain⟨d,rfl⟩:=hw1;exact⟨rfl,_,#[],HX hf hi hres _ _ _,by simp,⟨k',av,σ,hvv,hKF⟩,hfr.step (.refl _) rfl (Nat.le_refl _) (λ_ _=>rfl)⟩
end
theorem HY{P:Program}{fits:TypeId->Bool}:∀(d:Nat) (e:TypeId) (count off n:Nat),Go.rowAt P fits d e count off n=true->off<=count*P.cellsOf e
 |0,e,count,off,n,h=>by simp[Go.rowAt]at h
 | d + 1,e,count,off,n,h=>by
   unfold Go.rowAt at h;dsimp only at h;split at h
   . cases h
   . next hs=>
     have hpos:0<P.cellsOf e:=Nat.pos_of_ne_zero hs;rw[Bool.or_eq_true]at h;rcases h with h|h
     . simp only[Bool.and_eq_true,beq_iff_eq,decide_eq_true_eq]at h
       obtain⟨⟨h1,h2⟩,_⟩:=h;have h3:=Nat.div_add_mod off (P.cellsOf e);rw[h1,Nat.add_zero]at h3;rw[<-h3,Nat.mul_comm];exact Nat.mul_le_mul_right _ (by omega)
     . rw[Bool.and_eq_true,decide_eq_true_eq]at h
       exact Nat.le_of_lt ((Nat.div_lt_iff_lt_mul hpos).1 h.1)
theorem xJ{P:Program}:∀(d:Nat) (e:TypeId) (count off:Nat) (u:TypeId) (n:Nat),Go.liesAt P d e count off u n=true->off<=count*P.cellsOf e
 |0,e,count,off,u,n,h=>by simp[Go.liesAt]at h
 | d + 1,e,count,off,u,n,h=>by
   unfold Go.liesAt at h;rw[Bool.or_eq_true]at h;rcases h with h|h
   . exact HY _ _ _ _ _ h
   . split at h
     . exact xJ d e count off _ _ h
     . cases h
theorem lY{P:Program}{w:World}{r:Reach}{base:Nat}{t e:TypeId}{a:Addr}{len cap:Nat}{zs:List Int}(ht:P.underlying t=some (.slice e))(he:P.underlying e=some (.int .i64))(hok:Value.okWide P w r base t (.slice (some a) len cap))
 (hl:len<=cap) (hz:zs.length=cap) (hcell:∀i,i<zs.length->w.cell? (a.add i)=some (.int .i64 (zs.getD i 0))):V (ag.all w) (.slice (some a) len cap) (.sl 1 ((zs.take len).map λn=>AV.lit (.int .i64 n)) .any):=by
 have hok':Cell.ok P w r base t (.slice (some a) len cap):=by simp only[Value.okWide,ht,Cell.okWide]at hok;exact hok
 simp only[Cell.ok,ht]at hok';obtain⟨_,_,_,hsp,row,N,hsh,hlies⟩:=hok';obtain⟨b,off,spot⟩:=a;simp only at hsp hsh hlies;subst hsp;have hoff:off<=N:=Nat.le_trans (xJ _ _ _ _ _ _ hlies) (Nat.div_mul_le_self _ _)
 have hcell':∀i,i<cap->w.cell? ⟨b,off+i,none⟩=some (.int .i64 (zs.getD i 0)):=λi hi=>by
  rw[<-hcell i (by omega)]
  rw[Go.WideShapes.add_plain]
 have hcap:off+cap<=N:=by
  rcases Nat.eq_zero_or_pos cap with h|h
  . omega
  . have h1:=hcell' (cap-1) (by omega)
    unfold World.shape? at hsh;unfold World.cell? at h1;split at hsh
    . next c el fr hh=>simp only[Option.some.injEq,Prod.mk.injEq]at hsh;rw[hh]at h1;simp only at h1;have:=(Array.getElem?_eq_some_iff.1 h1).1;omega
    . cases hsh
 have hlen:((zs.take len).map λn=>AV.lit (.int .i64 n)).length=len:=by rw[List.length_map,List.length_take];omega
 have hfl:flatten ((zs.take len).map λn=>AV.lit (.int .i64 n))=(zs.take len).map λn=>AV.lit (.int .i64 n):=du λe he=>by obtain⟨_,_,rfl⟩:=List.mem_map.1 he;rfl
 have key:=V.sl (k:=ag.all w) b off cap 1 N row ((zs.take len).map λn=>AV.lit (.int .i64 n)) .any (λj=>.int .i64 (zs.getD j 0)) (by omega) hsh (by omega) (λe he=>by obtain⟨_,_,rfl⟩:=List.mem_map.1 he;rfl) (λj hj=>⟨by
  rw[hfl,hlen]at hj;exact hcell' j (by omega),rfl⟩) (λj x hx=>by
  rw[hfl]at hx;have hj:=(List.getElem?_eq_some_iff.1 hx).1;rw[hlen]at hj;have hjz:j<zs.length:=by omega
  have:x=AV.lit (.int .i64 (zs.getD j 0)):=by rw[List.getElem?_map,List.getElem?_take_of_lt hj,List.getElem?_eq_getElem hjz]at hx;simp at hx;rw[<-hx,List.getD_eq_getElem?_getD,List.getElem?_eq_getElem hjz];rfl
  subst this;exact .lit _) trivial
 rw[hlen]at key;exact key
end Go.aN
namespace Go.aN
open Go.Conc
structure zW(P:Program)(t ft:Nat):Prop where
 hk:∃f g,P.underlying t=some (.struct #[f,g])/\(f.name≠ "_"/\f.type=ft/\f.offset=0)/\(g.name≠ "_"/\g.type=ft/\g.offset=1)
 hf:P.underlying ft=some (.int .i64)
 hs:P.stoodInHeld t=false
 hg:P.eqGuardType P.depth t=false
section
variable{P:Program}(L:iE P){k:ag}{O:ah}{Kp:Value->ag->ah->Prop}{t ft:Nat}
variable(M:zW P t ft){i:TI}(ht:L.tt ft=some i)(ha:i.agg=false)
include M ht ha
end
end Go.aN

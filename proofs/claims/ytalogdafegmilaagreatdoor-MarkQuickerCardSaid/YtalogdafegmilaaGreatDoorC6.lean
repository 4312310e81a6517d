/- Part 6 of the proof. -/
import Derived.Test.YtalogdafegmilaaGreatDoorC5
set_option linter.all false
namespace Go.aN
open Go.Conc
def fits(n:Int):Prop:=-9223372036854775808<=n/\n<=9223372036854775807
def pK(op:BinOp)(kd:IntKind)(a b:Int)(R:Value->Prop):Prop:=
 match op,kd with
 |.add,.i64=>fits (a+b)/\R (.int .i64 (a+b))
 |.sub,.i64=>fits (a-b)/\R (.int .i64 (a-b))
 |.mul,.i64=>fits (a*b)/\R (.int .i64 (a*b))
 |.eql,_=>R (.bool (a==b))
 |.neq,_=>R (.bool (a !=b))
 |.lss,_=>R (.bool (decide (a<b)))
 |.leq,_=>R (.bool (decide (a<=b)))
 |.gtr,_=>R (.bool (decide (a>b)))
 |.geq,_=>R (.bool (decide (a>=b)))
 |.shl,_=>0<=b/\R (.int kd (kd.wrap (a*2 ^ (min b.toNat kd.bits))))
 |.shr,_=>0<=b/\R (.int kd (a.fdiv (2 ^ (min b.toNat kd.bits))))
 |op,kd=>∃v,pe op kd a b=some v/\R v
section
variable{P:Program}(L:iE P)
def pn(o:Oper):Bool:=
 match o.op with
 |.move _|.assign _|.pick _ _ _|.alloc _|.box _ _|.load _ _|.store _ _ _|.makeInterface _ _|.makeFunc _ _ _|.extract _ _|.field _ _ _|.fieldAddr _ _ _|.nilCheck _|.panic _|.unOp .not _ _|.build _ _=>true
 |.indexAddr t _ _=>match L.tt t with|some ⟨.slice _,_,_,_,_⟩=>true|some ⟨.array _ _,_,_,_,_⟩=>true|_=>false
 |.index t _ _=>match L.tt t with|some ⟨.array _ _,_,_,_,_⟩=>true|_=>false
 |.binOp _ t _ _ _=>match L.tt t with|some ⟨.int _,_,_,_,_⟩=>true|_=>false
 |.convert s t _=>match L.tt s,L.tt t with|some ⟨.int _,_,_,_,_⟩,some ⟨.int _,_,_,_,_⟩=>true|_,_=>false
 |.typeAssert _ _ t true=>match L.tt t with|some ⟨.iface,_,_,_,_⟩=>false|some _=>true|none=>false
 | .call c=>match c.callee,c.args.toList with
   |.builtin .len,[_]=>(match c.argTypes[0]? with|some t=>(match L.tt t with|some ⟨.slice _,_,_,_,_⟩=>true|_=>false)|none=>false)
   |.builtin .min,[_,_]=>true
   |.builtin .max,[_,_]=>true
   |_,_=>false
 |_=>false
def Nk(mu:List Nat)(o:Oper)(env:Env)(σ:aa)(K Kp:AV->aa->Prop):Prop:=
 match o.op with
 |.move x|.assign x=>K (ap env x) σ
 | .pick c a b=>match ap env c with
   |.lit (.bool x)=>K (if x then ap env a else ap env b) σ
   |_=>False
 | .alloc t=>match L.tt t with
   |some i=>(lO i.zero).cells.all AV.flat=true/\∀b,σ b=none->K (.ref b 0) (σ.set b (.cells (lO i.zero).cells))
   |none=>False
 |.box _ x=>(ap env x).cells.all AV.flat=true/\(if(match o.dst with|some d=>mu.contains d|none=>false)then ∀b,σ b=none->K (.ref b 0) (σ.set b (.cells (ap env x).cells))else K (.cp (ap env x) 0) σ)
 | .load t p=>match L.tt t with
   |some i=>∃a,nu i σ (ap env p)=some a/\K a σ
   |none=>False
 | .store t p x=>match L.tt t with
   |some i=>∃σ',pH i σ (ap env p) (ap env x)=some σ'/\K (.lit undef) σ'
   |none=>False
 | .fieldAddr s x j=>match L.tt s with
   | some ⟨.struct,_,_,_,iK⟩=>(match iK[j]? with
     |some f=>f.2.1≠0/\∃a,qy (ap env x) f.1=some a/\K a σ
     |none=>False)
   |_=>False
 | .field s x j=>match L.tt s,ap env x with
   | some ⟨.struct,_,_,_,iK⟩,.agg l=>(match iK[j]? with
     |some f=>(match L.tt f.2.2 with|some fi=>∃a,cE l f.1 fi.size fi.agg=some a/\K a σ|none=>False)
     |none=>False)
   |_,_=>False
 | .indexAddr t x ix=>match L.tt t with
   | some ⟨.slice e,_,_,_,_⟩=>(match L.tt e,ap env x,ap env ix with
     |some ie,.sl kk es _,.lit (.int _ z)=>kk=ie.size/\0<=z/\∃a,es[z.toNat]?=some a/\K (.cp a 0) σ
     |some ie,.fZ b off len _,.lit (.int _ z)=>(0<=z/\z<len)/\K (.ref b (off+z.toNat*ie.size)) σ
     |_,_,_=>False)
   | some ⟨.array k e,_,_,_,_⟩=>(match L.tt e,ap env ix with
     |some ie,.lit (.int _ z)=>(0<=z/\z<k)/\∃a,qy (ap env x) (z.toNat*ie.size)=some a/\K a σ
     |_,_=>False)
   |_=>False
 | .index t x ix=>match L.tt t with
   | some ⟨.array k e,_,_,_,_⟩=>(match L.tt e,ap env x,ap env ix with
     |some ie,.agg l,.lit (.int _ z)=>(0<=z/\z<k)/\∃a,cE l (z.toNat*ie.size) ie.size ie.agg=some a/\K a σ
     |_,_,_=>False)
   |_=>False
 | .binOp op _ x y _=>match ap env x,ap env y with
   |.lit (.int kd a),.lit (.int kd' b)=>(kd=kd'\/op=.shl\/op=.shr)/\pK op kd a b λv=>K (.lit v) σ
   |_,_=>False
 | .unOp .not _ x=>match ap env x with
   |.lit (.bool b)=>K (.lit (.bool !b)) σ
   |_=>False
 | .convert _ t x=>match L.tt t,ap env x with
   |some ⟨.int kd,_,_,_,_⟩,.lit (.int _ a)=>K (.lit (.int kd (kd.wrap a))) σ
   |_,_=>False
 | .makeInterface t x=>match L.tt t with
   |some i=>i.kind≠.iface/\K (.nI t (ap env x)) σ
   |none=>False
 |.makeFunc f fs cs=>K (.fn f (fs.toList.map (ap env)) (cs.toList.map (ap env))) σ
 | .extract x j=>match ap env x with
   |.c9 l=>∃a,l[j]?=some a/\K a σ
   |_=>False
 | .typeAssert x _ t true=>match L.tt t,ap env x with
   |some i,.nI d y=>i.kind≠.iface/\K (if d=t then .c9 [y,.lit (.bool true)]else .c9 [lO i.zero,.lit (.bool false)]) σ
   |_,_=>False
 |.nilCheck x=>(match ap env x with|.cp _ _=>True|.ref _ _=>True|.kp _ _ _ _=>True|.fn (.func _) _ _=>True|_=>False)/\K (ap env x) σ
 | .panic x=>match ap env x with
   |.nI t y=>Kp (.nI t y) σ
   |_=>False
 | .build t parts=>match L.tt t with
   |some i=>i.kind=.struct/\(lO i.zero).cells.all AV.flat=true/\∃l,me (λj=>(i.iK[j]?).map λx=>(x.1,x.2.1)) (lO i.zero).cells (parts.toList.map λp=>(p.1,ap env p.2))=some l/\K (.agg l) σ
   |none=>False
 | .call c=>match c.callee,c.args.toList with
   | .builtin .len,[x]=>(match ap env x with
     |.sl _ es _=>K (.lit (.int .i64 es.length)) σ
     |.lit (.slice none 0 0)=>K (.lit (.int .i64 0)) σ
     |.fZ _ _ len _=>K (.lit (.int .i64 len)) σ
     |_=>False)
   | .builtin .min,[x,y]=>(match ap env x,ap env y with
     |.lit (.int kd a),.lit (.int kd' b)=>kd=kd'/\K (.lit (.int kd (if b<a then b else a))) σ
     |_,_=>False)
   | .builtin .max,[x,y]=>(match ap env x,ap env y with
     |.lit (.int kd a),.lit (.int kd' b)=>kd=kd'/\K (.lit (.int kd (if b>a then b else a))) σ
     |_,_=>False)
   |_,_=>False
 |_=>False
theorem aG.mono{P:Program}{o:Oper}{env:Env}{σ:aa}{K K' Kp:AV->aa->Prop}(h:aG P o env σ K Kp)(hk:∀a σ,K a σ->K' a σ):aG P o env σ K' Kp:=λk O ρ h1 h2=>lZ _ (h k O ρ h1 h2) (λ_ _ _ ⟨v,hv,k2,O2,g,hle,a,σ',x,y,z⟩=>⟨v,hv,k2,O2,g,hle,a,σ',x,y,hk _ _ z⟩) (λ_ _ _ h=>h)
theorem kz{c:Call}{b:Builtin}{l:List Operand}(h1:c.callee=.builtin b)(h2:c.args.toList=l):c=⟨.builtin b,l.toArray,c.argTypes⟩:=by obtain⟨ce,args,tys⟩:=c;simp only at h1 h2;subst h1;subst h2;simp
theorem Ep{mu:List Nat}{o:Oper}{env:Env}{σ:aa}{K Kp:AV->aa->Prop}(hok:pn L o=true)(h:Nk L mu o env σ K Kp):aG P o env σ K Kp:=by
 unfold Nk at h;unfold pn at hok;split at h
 . next x ho=>exact tR (.inl ho) h
 . next x ho=>exact tR (.inr ho) h
 . next c a b ho=>
   split at h
   . next x hx=>exact Dh ho hx h
   . exact h.elim
 . next t ho=>
   split at h
   . next i hi=>exact zF L ho hi h.1 h.2
   . exact h.elim
 . next t x ho=>
   obtain⟨h1,h2⟩:=h;generalize (match o.dst with|some d=>mu.contains d|none=>false)=q at h2;cases q
   . simp only[Bool.false_eq_true,if_false]at h2
     exact Gr ho h1 h2
   . simp only[if_true]at h2
     exact uo ho h1 h2
 . next t p ho=>
   split at h
   . next i hi=>obtain⟨a,h1,h2⟩:=h;exact ye L ho hi h1 h2
   . exact h.elim
 . next t p x ho=>
   split at h
   . next i hi=>obtain⟨a,h1,h2⟩:=h;exact zE L ho hi h1 h2
   . exact h.elim
 . next s x j ho=>
   split at h
   . next a1 a2 a3 iK hi=>
     split at h
     . next f hf=>obtain⟨h1,a,h2,h3⟩:=h;exact qz L ho hi rfl hf h1 h2 h3
     . exact h.elim
   . exact h.elim
 . next s x j ho=>
   split at h
   . next a1 a2 a3 iK l hi hx=>
     split at h
     . next f hf=>
       split at h
       . next fi hfi=>obtain⟨a,h1,h2⟩:=h;exact zI L ho hi rfl hf hfi hx h1 h2
       . exact h.elim
     . exact h.elim
   . exact h.elim
 . next t x ix ho=>
   split at h
   . next e a1 a2 a3 a4 hi=>
     split at h
     . next ie kk es sp kd z he hx hix=>obtain⟨rfl,h0,a,h1,h2⟩:=h;exact uq L ho hi rfl he hx hix h0 h1 h2
     . next ie b off len cap kd z he hx hix=>exact sO L ho hi rfl he hx hix h.1 h.2
     . exact h.elim
   . next k e a1 a2 a3 a4 hi=>
     split at h
     . next ie kd z he hix=>obtain⟨h0,a,h1,h2⟩:=h;exact sN L ho hi rfl he hix h0 h1 h2
     . exact h.elim
   . exact h.elim
 . next t x ix ho=>
   split at h
   . next k e a1 a2 a3 a4 hi=>
     split at h
     . next ie l kd z he hx hix=>obtain⟨h0,a,h1,h2⟩:=h;exact zJ L ho hi rfl he hx hix h0 h1 h2
     . exact h.elim
   . exact h.elim
 . next op t x y t2 ho=>
   split at h
   . next kd a kd' b hx hy=>
     obtain⟨hkd,h⟩:=h
     have hkd':(op≠.shl/\op≠.shr)->kd'=kd:=λhh=>by
      rcases hkd with h|h|h
      . exact h.symm
      . exact absurd h hh.1
      . exact absurd h hh.2
     unfold pK at h;split at h
     . rw[hkd' (by simp)]at hy;exact ma ho hx hy (.inl ⟨rfl,rfl⟩) h.1 h.2
     . rw[hkd' (by simp)]at hy;exact ma ho hx hy (.inr (.inl ⟨rfl,rfl⟩)) h.1 h.2
     . rw[hkd' (by simp)]at hy;exact ma ho hx hy (.inr (.inr ⟨rfl,rfl⟩)) h.1 h.2
     . rw[hkd' (by simp)]at hy;exact cK ho hx hy rfl h
     . rw[hkd' (by simp)]at hy;exact cK ho hx hy rfl h
     . rw[hkd' (by simp)]at hy;exact cK ho hx hy rfl h
     . rw[hkd' (by simp)]at hy;exact cK ho hx hy rfl h
     . rw[hkd' (by simp)]at hy;exact cK ho hx hy rfl h
     . rw[hkd' (by simp)]at hy;exact cK ho hx hy rfl h
     . exact qA ho hx hy h.1 (.inl ⟨rfl,rfl⟩) h.2
     . exact qA ho hx hy h.1 (.inr ⟨rfl,rfl⟩) h.2
     . next h1 h2 h3 h4 h5 h6 h7 h8 h9 h10 h11=>
       obtain⟨v,hv,hK⟩:=h;rw[hkd' ⟨λe=>by subst e;simp_all,λe=>by subst e;simp_all⟩]at hy;exact cK ho hx hy hv hK
   . exact h.elim
 . next t x ho=>
   split at h
   . next b hx=>exact Gu ho hx h
   . exact h.elim
 . next s t x ho=>
   simp only[ho]at hok;split at h
   . next kd a1 a2 a3 a4 kd' a ht hx=>
     split at hok
     . next ks b1 b2 b3 b4 kt c1 c2 c3 c4 hs ht'=>rw[ht]at ht';exact us L ho hs ht rfl rfl hx h
     . cases hok
   . exact h.elim
 . next t x ho=>
   split at h
   . next i hi=>exact mc L ho hi h.1 h.2
   . exact h.elim
 . next f fs cs ho=>exact sP ho h
 . next x j ho=>
   split at h
   . next l hx=>obtain⟨a,h1,h2⟩:=h;exact ut ho hx h1 h2
   . exact h.elim
 . next x xt t ho=>
   split at h
   . next i d y hi hx=>exact pj L ho hi h.1 hx h.2
   . exact h.elim
 . next x ho=>
   obtain⟨h1,h2⟩:=h;split at h1
   . next v off hx=>exact eQ ho (.inl ⟨_,_,hx⟩) h2
   . next b off hx=>exact eQ ho (.inr (.inl ⟨_,_,hx⟩)) h2
   . next b l hole off hx=>exact eQ ho (.inr (.inr (.inr ⟨_,_,_,_,hx⟩))) h2
   . next f l r hx=>exact eQ ho (.inr (.inr (.inl ⟨_,_,_,hx⟩))) h2
   . exact h1.elim
 . next x ho=>
   split at h
   . next t y hx=>exact zK ho hx h
   . exact h.elim
 . next t parts ho=>
   split at h
   . next i hi=>obtain⟨h1,h2,l,h3,h4⟩:=h;exact zM L ho hi h1 h2 h3 h4
   . exact h.elim
 . next c ho=>
   simp only[ho]at hok;split at h
   . next x hc ha=>
     simp only[hc,ha]at hok;have e:=kz hc ha;split at hok
     . next t h0=>
       split at hok
       . next e' a1 a2 a3 a4 ht=>
         rw[e]at ho;split at h
         . next kk es sp hx=>exact yf L ho h0 ht rfl (.inl hx) h
         . next hx=>exact yf L (kk:=0) (sp:=.any) (es:=[]) ho h0 ht rfl (.inr ⟨hx,rfl⟩) h
         . next b off len cap hx=>exact wM L ho h0 ht rfl hx h
         . exact h.elim
       . cases hok
     . cases hok
   . next x y hc ha=>
     rw[kz hc ha]at ho;split at h
     . next kd a kd' b hx hy=>obtain⟨rfl,h⟩:=h;exact oy ho hx hy (.inl ⟨rfl,rfl⟩) h
     . exact h.elim
   . next x y hc ha=>
     rw[kz hc ha]at ho;split at h
     . next kd a kd' b hx hy=>obtain⟨rfl,h⟩:=h;exact oy ho hx hy (.inr ⟨rfl,rfl⟩) h
     . exact h.elim
   . exact h.elim
 . exact h.elim
def pL(ops:Array Oper)(n:Nat)(env:Env)(o:Oper)(go no:Prop):Prop:=
 match o.guard with
 |none=>go
 | some (j,b)=>match (ops[j]?).bind (·.dst)with
   | some d=>d<n/\(match env d with
     |.lit (.bool x)=>(x=b->go)/\(x≠b->no)
     |.lit (.tuple _)=>no
     |_=>False)
   |none=>False
theorem qE{ops:Array Oper}{n:Nat}{env:Env}{o:Oper}{go no:Prop}(h:pL ops n env o go no):
 (bS ops n env o/\go)\/∃j b x d oj,o.guard=some (j,b)/\ops[j]?=some oj/\oj.dst=some d/\d<n/\env d=.lit x/\Nh x b/\no:=by
 unfold pL at h;split at h
 . next hg=>exact .inl ⟨by unfold bS;rw[hg];trivial,h⟩
 . next j b hg=>
   split at h
   . next d hd=>
     obtain⟨oj,hj,hjd⟩:=Option.bind_eq_some_iff.1 hd;obtain⟨hdn,h⟩:=h;split at h
     . next x hx=>
       by_cases hxb:x=b
       . exact .inl ⟨by unfold bS;rw[hg];exact⟨oj,d,hj,hjd,hdn,by rw[hx,hxb]⟩,h.1 hxb⟩
       . exact .inr ⟨j,b,_,d,oj,hg,hj,hjd,hdn,hx,hxb,h.2 hxb⟩
     . next x hx=>exact .inr ⟨j,b,_,d,oj,hg,hj,hjd,hdn,hx,trivial,h⟩
     . exact h.elim
   . exact h.elim
end
@[simp] theorem AV.Mx(v:Value):(AV.lit v).cells=[AV.lit v]:=rfl
@[simp] theorem AV.flat_lit(v:Value):(AV.lit v).flat=aN.flat v:=rfl
@[simp] theorem AV.Lz :(AV.bL).cells=[AV.bL]:=rfl
@[simp] theorem AV.My :(AV.bL).flat=false:=rfl
@[simp] theorem AV.Mz(l:List AV):(AV.agg l).cells=l:=rfl
@[simp] theorem AV.flat_agg(l:List AV):(AV.agg l).flat=false:=rfl
@[simp] theorem AV.MB(l:List AV):(AV.c9 l).cells=[AV.c9 l]:=rfl
@[simp] theorem AV.Nl(l:List AV):(AV.c9 l).flat=false:=rfl
@[simp] theorem AV.Nm(k:Nat)(es:List AV)(sp:cM):(AV.sl k es sp).cells=[AV.sl k es sp]:=rfl
@[simp] theorem AV.OZ(k:Nat)(es:List AV)(sp:cM):(AV.sl k es sp).flat=true:=rfl
@[simp] theorem AV.Nn(v:AV)(off:Nat):(AV.cp v off).cells=[AV.cp v off]:=rfl
@[simp] theorem AV.No(b:Nat)(l:List AV)(hole:List Nat)(off:Nat):(AV.kp b l hole off).cells=[AV.kp b l hole off]:=rfl
@[simp] theorem AV.O0(b:Nat)(l:List AV)(hole:List Nat)(off:Nat):(AV.kp b l hole off).flat=true:=rfl
@[simp] theorem AV.O3(v:AV)(off:Nat):(AV.cp v off).flat=true:=rfl
@[simp] theorem AV.MC(b off:Nat):(AV.ref b off).cells=[AV.ref b off]:=rfl
@[simp] theorem AV.Np(b off:Nat):(AV.ref b off).flat=true:=rfl
@[simp] theorem AV.MD(b off len cap:Nat):(AV.fZ b off len cap).cells=[AV.fZ b off len cap]:=rfl
@[simp] theorem AV.Nq(b off len cap:Nat):(AV.fZ b off len cap).flat=true:=rfl
@[simp] theorem AV.Nr(f:Fn)(x y:List AV):(AV.fn f x y).cells=[AV.fn f x y]:=rfl
@[simp] theorem AV.O4(f:Fn)(x y:List AV):(AV.fn f x y).flat=true:=rfl
@[simp] theorem AV.ME(t:TypeId)(v:AV):(AV.nI t v).cells=[AV.nI t v]:=rfl
@[simp] theorem AV.Ns(t:TypeId)(v:AV):(AV.nI t v).flat=true:=rfl
@[simp] theorem AV.MF(b:Nat):(AV.map b).cells=[AV.map b]:=rfl
@[simp] theorem AV.Nt(b:Nat):(AV.map b).flat=true:=rfl
@[simp] theorem AV.LA(b:Nat):(AV.chan b).cells=[AV.chan b]:=rfl
@[simp] theorem AV.MG(b:Nat):(AV.chan b).flat=true:=rfl
attribute [simp] dK ap pL pn Nk List.range List.range.loop Oper.ok Operand.ok Op.operands Call.operands pK bd Env.upd Nj Jv eF yi oneOf exitTo nu pH qy cE flat TI.agg lO me fits
end Go.aN

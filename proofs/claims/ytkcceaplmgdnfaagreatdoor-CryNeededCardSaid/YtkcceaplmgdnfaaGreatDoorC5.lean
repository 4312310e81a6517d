import Derived.Test.YtkcceaplmgdnfaaGreatDoorC4
set_option linter.all false
namespace Go.bQ
open Go.Conc
def fits(n:Int):Prop:=-9223372036854775808<=n/\n<=9223372036854775807
def rB(op:BinOp)(kd:IntKind)(a b:Int)(R:Value->Prop):Prop:=
 match op,kd with
 |.add,.i64=>fits (a+b)/\R (.int .i64 (a+b))
 |.sub,.i64=>fits (a-b)/\R (.int .i64 (a-b))
 |.mul,.i64=>fits (a*b)/\R (.int .i64 (a*b))
 |.eql,_=>R (.bool (a==b))
 |.neq,_=>R (.bool (a !=b))
 |.lss,_=>R (.bool (decide (a<b)))
 |.leq,_=>R (.bool (decide (a<=b)))
 |.gtr,_=>R (.bool (decide (a>b)))
 |.geq,_=>R (.bool (decide (a>=b)))
 |.shl,_=>0<=b/\R (.int kd (kd.wrap (a*2 ^ (min b.toNat kd.bits))))
 |.shr,_=>0<=b/\R (.int kd (a.fdiv (2 ^ (min b.toNat kd.bits))))
 |op,kd=>∃v,pf op kd a b=some v/\R v
section
variable{P:acD}(L:iZ P)
def sa(o:Oper):Bool:=
 match o.op with
 |.move _|.assign _|.pick _ _ _|.alloc _|.box _ _|.load _ _|.store _ _ _|.makeInterface _ _|.makeFunc _ _ _|.extract _ _|.field _ _ _|.fieldAddr _ _ _|.nilCheck _|.panic _|.unOp .not _ _|.build _ _=>true
 |.indexAddr t _ _=>match L.tt t with|some ⟨.slice _,_,_,_,_⟩=>true|some ⟨.array _ _,_,_,_,_⟩=>true|_=>false
 |.index t _ _=>match L.tt t with|some ⟨.array _ _,_,_,_,_⟩=>true|_=>false
 |.binOp _ t _ _ _=>match L.tt t with|some ⟨.int _,_,_,_,_⟩=>true|_=>false
 |.convert s t _=>match L.tt s,L.tt t with|some ⟨.int _,_,_,_,_⟩,some ⟨.int _,_,_,_,_⟩=>true|_,_=>false
 |.typeAssert _ _ t true=>match L.tt t with|some ⟨.iface,_,_,_,_⟩=>false|some _=>true|none=>false
 | .call c=>match c.callee,c.args.toList with
   |.builtin .len,[_]=>(match c.argTypes[0]? with|some t=>(match L.tt t with|some ⟨.slice _,_,_,_,_⟩=>true|_=>false)|none=>false)
   |.builtin .min,[_,_]=>true
   |.builtin .max,[_,_]=>true
   |_,_=>false
 |_=>false
def SI(mu:acr)(o:Oper)(env:Env)(σ:aa)(K Kp:abU):Prop:=
 match o.op with
 |.move x|.assign x=>K (an env x) σ
 | .pick c a b=>match an env c with
   |.lit (.bool x)=>K (if x then an env a else an env b) σ
   |_=>False
 | .alloc t=>match L.tt t with
   |some i=>(ly i.zero).cells.all AV.flat=true/\∀b,σ b=none->K (.ref b 0) (σ.set b (.cells (ly i.zero).cells))
   |none=>False
 |.box _ x=>(an env x).cells.all AV.flat=true/\(if(match o.dst with|some d=>mu.contains d|none=>false)then ∀b,σ b=none->K (.ref b 0) (σ.set b (.cells (an env x).cells))else K (.cp (an env x) 0) σ)
 | .load t p=>match L.tt t with
   |some i=>∃a,qQ i σ (an env p)=some a/\K a σ
   |none=>False
 | .store t p x=>match L.tt t with
   |some i=>∃m,rz i σ (an env p) (an env x)=some m/\K (.lit undef) m
   |none=>False
 | .fieldAddr s x j=>match L.tt s with
   | some ⟨.struct,_,_,_,jO⟩=>(match jO[j]? with
     |some f=>f.2.1≠0/\∃a,rX (an env x) f.1=some a/\K a σ
     |none=>False)
   |_=>False
 | .field s x j=>match L.tt s,an env x with
   | some ⟨.struct,_,_,_,jO⟩,.agg l=>(match jO[j]? with
     |some f=>(match L.tt f.2.2 with|some q=>∃a,cN l f.1 q.size q.agg=some a/\K a σ|none=>False)
     |none=>False)
   |_,_=>False
 | .indexAddr t x n=>match L.tt t with
   | some ⟨.slice e,_,_,_,_⟩=>(match L.tt e,an env x,an env n with
     |some h,.sl r es _,.lit (.int _ z)=>r=h.size/\0<=z/\∃a,es[z.toNat]?=some a/\K (.cp a 0) σ
     |some h,.gW b off len _,.lit (.int _ z)=>(0<=z/\z<len)/\K (.ref b (off+z.toNat*h.size)) σ
     |_,_,_=>False)
   | some ⟨.array k e,_,_,_,_⟩=>(match L.tt e,an env n with
     |some h,.lit (.int _ z)=>(0<=z/\z<k)/\∃a,rX (an env x) (z.toNat*h.size)=some a/\K a σ
     |_,_=>False)
   |_=>False
 | .index t x n=>match L.tt t with
   | some ⟨.array k e,_,_,_,_⟩=>(match L.tt e,an env x,an env n with
     |some h,.agg l,.lit (.int _ z)=>(0<=z/\z<k)/\∃a,cN l (z.toNat*h.size) h.size h.agg=some a/\K a σ
     |_,_,_=>False)
   |_=>False
 | .binOp op _ x y _=>match an env x,an env y with
   |.lit (.int kd a),.lit (.int g b)=>(kd=g\/op=.shl\/op=.shr)/\rB op kd a b λv=>K (.lit v) σ
   |_,_=>False
 | .unOp .not _ x=>match an env x with
   |.lit (.bool b)=>K (.lit (.bool !b)) σ
   |_=>False
 | .convert _ t x=>match L.tt t,an env x with
   |some ⟨.int kd,_,_,_,_⟩,.lit (.int _ a)=>K (.lit (.int kd (kd.wrap a))) σ
   |_,_=>False
 | .makeInterface t x=>match L.tt t with
   |some i=>i.kind≠.iface/\K (.lZ t (an env x)) σ
   |none=>False
 |.makeFunc f fs cs=>K (.fn f (fs.toList.map (an env)) (cs.toList.map (an env))) σ
 | .extract x j=>match an env x with
   |.cB l=>∃a,l[j]?=some a/\K a σ
   |_=>False
 | .typeAssert x _ t true=>match L.tt t,an env x with
   |some i,.lZ d y=>i.kind≠.iface/\K (if d=t then .cB [y,.lit (.bool true)]else .cB [ly i.zero,.lit (.bool false)]) σ
   |_,_=>False
 |.nilCheck x=>(match an env x with|.cp _ _=>True|.ref _ _=>True|.kp _ _ _ _=>True|.fn (.func _) _ _=>True|_=>False)/\K (an env x) σ
 | .panic x=>match an env x with
   |.lZ t y=>Kp (.lZ t y) σ
   |_=>False
 | .build t parts=>match L.tt t with
   |some i=>i.kind=.struct/\(ly i.zero).cells.all AV.flat=true/\∃l,kI (λj=>(i.jO[j]?).map λx=>(x.1,x.2.1)) (ly i.zero).cells (parts.toList.map λp=>(p.1,an env p.2))=some l/\K (.agg l) σ
   |none=>False
 | .call c=>match c.callee,c.args.toList with
   | .builtin .len,[x]=>(match an env x with
     |.sl _ es _=>K (.lit (.int .i64 es.length)) σ
     |.lit (.slice none 0 0)=>K (.lit (.int .i64 0)) σ
     |.gW _ _ len _=>K (.lit (.int .i64 len)) σ
     |_=>False)
   | .builtin .min,[x,y]=>(match an env x,an env y with
     |.lit (.int kd a),.lit (.int g b)=>kd=g/\K (.lit (.int kd (if b<a then b else a))) σ
     |_,_=>False)
   | .builtin .max,[x,y]=>(match an env x,an env y with
     |.lit (.int kd a),.lit (.int g b)=>kd=g/\K (.lit (.int kd (if b>a then b else a))) σ
     |_,_=>False)
   |_,_=>False
 |_=>False
def aI.mono{P:acD}{o:Oper}{env:Env}{σ:aa}{K d Kp:abU}(h:aI P o env σ K Kp)(e:∀a σ,K a σ->d a σ):aI P o env σ d Kp:=λk O f i j=>jd _ (h k O f i j) (λ_ _ _ ⟨v,l,m,n,g,b,a,c,x,y,z⟩=>⟨v,l,m,n,g,b,a,c,x,y,e _ _ z⟩) (λ_ _ _ h=>h)
def kV{c:Call}{b:Builtin}{l:List acE}(a:c.callee=.builtin b)(d:c.args.toList=l):c=⟨.builtin b,l.toArray,c.argTypes⟩:=by obtain⟨ce,args,e⟩:=c;simp only at a d;subst a;subst d;simp
def Hz{mu:acr}{o:Oper}{env:Env}{σ:aa}{K Kp:abU}(C:sa L o=true)(h:SI L mu o env σ K Kp):aI P o env σ K Kp:=by
 unfold SI at h;unfold sa at C;split at h
 . next x g=>exact vL (.inl g) h
 . next x g=>exact vL (.inr g) h
 . next c a b g=>
   split at h
   . next x m=>exact Gk g m h
   . exact h.elim
 . next t g=>
   split at h
   . next i B=>exact Cj L g B h.1 h.2
   . exact h.elim
 . next t x g=>
   obtain⟨A,u⟩:=h;generalize (match o.dst with|some d=>mu.contains d|none=>false)=q at u;cases q
   . simp only[zR,if_false]at u
     exact JV g A u
   . simp only[if_true]at u
     exact wC g A u
 . next t p g=>
   split at h
   . next i B=>obtain⟨a,A,u⟩:=h;exact AQ L g B A u
   . exact h.elim
 . next t p x g=>
   split at h
   . next i B=>obtain⟨a,A,u⟩:=h;exact Ci L g B A u
   . exact h.elim
 . next s x j g=>
   split at h
   . next H I J jO B=>
     split at h
     . next f S=>obtain⟨A,a,u,Q⟩:=h;exact rY L g B rfl S A u Q
     . exact h.elim
   . exact h.elim
 . next s x j g=>
   split at h
   . next H I J jO l B m=>
     split at h
     . next f S=>
       split at h
       . next fi T=>obtain⟨a,A,u⟩:=h;exact Ck L g B rfl S T m A u
       . exact h.elim
     . exact h.elim
   . exact h.elim
 . next t x X g=>
   split at h
   . next e H I J R B=>
     split at h
     . next U kk es sp kd z G m D=>obtain⟨rfl,E,a,A,u⟩:=h;exact wD L g B rfl G m D E A u
     . next U b off len cap kd z G m D=>exact uQ L g B rfl G m D h.1 h.2
     . exact h.elim
   . next k e H I J R B=>
     split at h
     . next U kd z G D=>obtain⟨E,a,A,u⟩:=h;exact uP L g B rfl G D E A u
     . exact h.elim
   . exact h.elim
 . next t x X g=>
   split at h
   . next k e H I J R B=>
     split at h
     . next U l kd z G m D=>obtain⟨E,a,A,u⟩:=h;exact Cl L g B rfl G m D E A u
     . exact h.elim
   . exact h.elim
 . next op t x y t2 g=>
   split at h
   . next kd a F b m w=>
     obtain⟨Y,h⟩:=h;have n:(op≠.shl/\op≠.shr)->F=kd:=λhh=>by simp_all
     unfold rB at h;split at h
     . rw[n (by simp)]at w;exact nu g m w (.inl ⟨rfl,rfl⟩) h.1 h.2
     . rw[n (by simp)]at w;exact nu g m w (.inr (.inl ⟨rfl,rfl⟩)) h.1 h.2
     . rw[n (by simp)]at w;exact nu g m w (.inr (.inr ⟨rfl,rfl⟩)) h.1 h.2
     . rw[n (by simp)]at w;exact cZ g m w rfl h
     . rw[n (by simp)]at w;exact cZ g m w rfl h
     . rw[n (by simp)]at w;exact cZ g m w rfl h
     . rw[n (by simp)]at w;exact cZ g m w rfl h
     . rw[n (by simp)]at w;exact cZ g m w rfl h
     . rw[n (by simp)]at w;exact cZ g m w rfl h
     . exact rZ g m w h.1 (.inl ⟨rfl,rfl⟩) h.2
     . exact rZ g m w h.1 (.inr ⟨rfl,rfl⟩) h.2
     . next A u Q W h5 h6 h7 h8 h9 Z a7=>
       obtain⟨v,hv,hK⟩:=h;rw[n ⟨λe=>by simp_all,λe=>by simp_all⟩]at w;exact cZ g m w hv hK
   . exact h.elim
 . next t x g=>
   split at h
   . next b m=>exact JY g m h
   . exact h.elim
 . next s t x g=>
   simp only[g]at C;split at h
   . next kd H I J R F a M m=>
     split at C
     . next ks b1 b2 b3 b4 kt c1 c2 c3 c4 hs V=>rw[M]at V;exact wE L g hs M rfl rfl m h
     . cases C
   . exact h.elim
 . next t x g=>
   split at h
   . next i B=>exact nv L g B h.1 h.2
   . exact h.elim
 . next f fs cs g=>exact uR g h
 . next x j g=>
   split at h
   . next l m=>obtain⟨a,A,u⟩:=h;exact wF g m A u
   . exact h.elim
 . next x xt t g=>
   split at h
   . next i d y B m=>exact qR L g B h.1 m h.2
   . exact h.elim
 . next x g=>
   obtain⟨A,u⟩:=h;split at A
   . next v off m=>exact fC g (.inl ⟨_,_,m⟩) u
   . next b off m=>exact fC g (.inr (.inl ⟨_,_,m⟩)) u
   . next b l hole off m=>exact fC g (.inr (.inr (.inr ⟨_,_,_,_,m⟩))) u
   . next f l r m=>exact fC g (.inr (.inr (.inl ⟨_,_,_,m⟩))) u
   . exact A.elim
 . next x g=>
   split at h
   . next t y m=>exact Cm g m h
   . exact h.elim
 . next t parts g=>
   split at h
   . next i B=>obtain⟨A,u,l,Q,W⟩:=h;exact Co L g B A u Q W
   . exact h.elim
 . next c g=>
   simp only[g]at C;split at h
   . next x N O=>
     simp only[N,O]at C;have e:=kV N O;split at C
     . next t E=>
       split at C
       . next e' H I J R M=>
         rw[e]at g;split at h
         . next kk es sp m=>exact AR L g E M rfl (.inl m) h
         . next m=>exact AR L (kk:=0) (sp:=.any) (es:=[]) g E M rfl (.inr ⟨m,rfl⟩) h
         . next b off len cap m=>exact zx L g E M rfl m h
         grind
       . cases C
     . cases C
   . next x y N O=>
     rw[kV N O]at g;split at h
     . next kd a F b m w=>obtain⟨rfl,h⟩:=h;exact qg g m w (.inl ⟨rfl,rfl⟩) h
     . exact h.elim
   . next x y N O=>
     rw[kV N O]at g;split at h
     . next kd a F b m w=>obtain⟨rfl,h⟩:=h;exact qg g m w (.inr ⟨rfl,rfl⟩) h
     . exact h.elim
   . exact h.elim
 . exact h.elim
def rC(ops:acd)(n:Nat)(env:Env)(o:Oper)(go no:Prop):Prop:=
 match o.guard with
 |none=>go
 | some (j,b)=>match (ops[j]?).bind (·.dst)with
   | some d=>d<n/\(match env d with
     |.lit (.bool x)=>(x=b->go)/\(x≠b->no)
     |.lit (.tuple _)=>no
     |_=>False)
   |none=>False
def sc{ops:acd}{n:Nat}{env:Env}{o:Oper}{go no:Prop}(h:rC ops n env o go no):
 (bW ops n env o/\go)\/∃j b x d c,o.guard=some (j,b)/\ops[j]?=some c/\c.dst=some d/\d<n/\env d=.lit x/\SH x b/\no:=by
 unfold rC at h;split at h
 . next g=>exact .inl ⟨by unfold bW;simp_all,h⟩
 . next j b g=>
   split at h
   . next d hd=>
     obtain⟨c,k,e⟩:=Option.bind_eq_some_iff.1 hd;obtain⟨f,h⟩:=h;split at h
     . next x i=>
       by_cases a:x=b
       . exact .inl ⟨by unfold bW;simp_all,h.1 a⟩
       . exact .inr ⟨j,b,_,d,c,g,k,e,f,i,a,h.2 a⟩
     . next x i=>exact .inr ⟨j,b,_,d,c,g,k,e,f,i,trivial,h⟩
     simp_all
   simp_all
end
@[simp] theorem AV.RK(v:Value):(AV.lit v).cells=[AV.lit v]:=rfl
@[simp] theorem AV.flat_lit(v:Value):(AV.lit v).flat=bQ.flat v:=rfl
@[simp] theorem AV.QB :(AV.cE).cells=[AV.cE]:=rfl
@[simp] theorem AV.RL :(AV.cE).flat=false:=rfl
@[simp] theorem AV.RN(l:acw):(AV.agg l).cells=l:=rfl
@[simp] theorem AV.flat_agg(l:acw):(AV.agg l).flat=false:=rfl
@[simp] theorem AV.RO(l:acw):(AV.cB l).cells=[AV.cB l]:=rfl
@[simp] theorem AV.SJ(l:acw):(AV.cB l).flat=false:=rfl
@[simp] theorem AV.SK(k:Nat)(es:acw)(sp:cT):(AV.sl k es sp).cells=[AV.sl k es sp]:=rfl
@[simp] theorem AV.U6(k:Nat)(es:acw)(sp:cT):(AV.sl k es sp).flat=true:=rfl
@[simp] theorem AV.SL(v:AV)(off:Nat):(AV.cp v off).cells=[AV.cp v off]:=rfl
@[simp] theorem AV.SM(b:Nat)(l:acw)(hole:acr)(off:Nat):(AV.kp b l hole off).cells=[AV.kp b l hole off]:=rfl
@[simp] theorem AV.U7(b:Nat)(l:acw)(hole:acr)(off:Nat):(AV.kp b l hole off).flat=true:=rfl
@[simp] theorem AV.U8(v:AV)(off:Nat):(AV.cp v off).flat=true:=rfl
@[simp] theorem AV.RP(b off:Nat):(AV.ref b off).cells=[AV.ref b off]:=rfl
@[simp] theorem AV.SN(b off:Nat):(AV.ref b off).flat=true:=rfl
@[simp] theorem AV.RQ(b off len cap:Nat):(AV.gW b off len cap).cells=[AV.gW b off len cap]:=rfl
@[simp] theorem AV.SO(b off len cap:Nat):(AV.gW b off len cap).flat=true:=rfl
@[simp] theorem AV.SP(f:Fn)(x y:acw):(AV.fn f x y).cells=[AV.fn f x y]:=rfl
@[simp] theorem AV.U9(f:Fn)(x y:acw):(AV.fn f x y).flat=true:=rfl
@[simp] theorem AV.RR(t:TypeId)(v:AV):(AV.lZ t v).cells=[AV.lZ t v]:=rfl
@[simp] theorem AV.SS(t:TypeId)(v:AV):(AV.lZ t v).flat=true:=rfl
@[simp] theorem AV.RS(b:Nat):(AV.map b).cells=[AV.map b]:=rfl
@[simp] theorem AV.SU(b:Nat):(AV.map b).flat=true:=rfl
@[simp] theorem AV.QC(b:Nat):(AV.chan b).cells=[AV.chan b]:=rfl
@[simp] theorem AV.RU(b:Nat):(AV.chan b).flat=true:=rfl
attribute [simp] dt an rC sa SI List.range List.range.loop Oper.ok Operand.ok Op.operands Call.operands rB bc Env.upd RJ JJ eE Cp oneOf exitTo qQ rz rX cN flat TI.agg ly kI fits

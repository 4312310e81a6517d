import Derived.Test.YtkcceaplmgdnfaaGreatDoorC4
set_option linter.all false
namespace Go.bu
open Go.Conc
def fits(n:Int):Prop:=-9223372036854775808<=n/\n<=9223372036854775807
def pY(op:BinOp)(kd:IntKind)(a b:Int)(R:Value->Prop):Prop:=
 match op,kd with
 |.add,.i64=>fits (a+b)/\R (.int .i64 (a+b))
 |.sub,.i64=>fits (a-b)/\R (.int .i64 (a-b))
 |.mul,.i64=>fits (a*b)/\R (.int .i64 (a*b))
 |.eql,_=>R (.bool (a==b))
 |.neq,_=>R (.bool (a !=b))
 |.lss,_=>R (.bool (decide (a<b)))
 |.leq,_=>R (.bool (decide (a<=b)))
 |.gtr,_=>R (.bool (decide (a>b)))
 |.geq,_=>R (.bool (decide (a>=b)))
 |.shl,_=>0<=b/\R (.int kd (kd.wrap (a*2 ^ (min b.toNat kd.bits))))
 |.shr,_=>0<=b/\R (.int kd (a.fdiv (2 ^ (min b.toNat kd.bits))))
 |op,kd=>∃v,uX op kd a b=some v/\R v
section
variable{P:Program}(L:hQ P)
def qA(o:Oper):Bool:=
 match o.op with
 |.move _|.assign _|.pick _ _ _|.alloc _|.box _ _|.load _ _|.store _ _ _|.makeInterface _ _|.makeFunc _ _ _|.extract _ _|.field _ _ _|.fieldAddr _ _ _|.nilCheck _|.panic _|.unOp .not _ _|.build _ _=>true
 |.indexAddr t _ _=>match L.tt t with|some ⟨.slice _,_,_,_,_⟩=>true|some ⟨.array _ _,_,_,_,_⟩=>true|_=>false
 |.index t _ _=>match L.tt t with|some ⟨.array _ _,_,_,_,_⟩=>true|_=>false
 |.binOp _ t _ _ _=>match L.tt t with|some ⟨.int _,_,_,_,_⟩=>true|_=>false
 |.convert s t _=>match L.tt s,L.tt t with|some ⟨.int _,_,_,_,_⟩,some ⟨.int _,_,_,_,_⟩=>true|_,_=>false
 |.typeAssert _ _ t true=>match L.tt t with|some ⟨.iface,_,_,_,_⟩=>false|some _=>true|none=>false
 | .call c=>match c.callee,c.args.toList with
   |.builtin .len,[_]=>(match c.argTypes[0]? with|some t=>(match L.tt t with|some ⟨.slice _,_,_,_,_⟩=>true|_=>false)|none=>false)
   |.builtin .min,[_,_]=>true
   |.builtin .max,[_,_]=>true
   |_,_=>false
 |_=>false
def QN(mu:List Nat)(o:Oper)(env:Env)(σ:aa)(K Kp:AV->aa->Prop):Prop:=
 match o.op with
 |.move x|.assign x=>K (au env x) σ
 | .pick c a b=>match au env c with
   |.lit (.bool x)=>K (if x then au env a else au env b) σ
   |_=>False
 | .alloc t=>match L.tt t with
   |some i=>(iP i.zero).cells.all AV.flat=true/\∀b,σ b=none->K (.ref b 0) (σ.set b (.cells (iP i.zero).cells))
   |none=>False
 |.box _ x=>(au env x).cells.all AV.flat=true/\(if(match o.dst with|some d=>mu.contains d|none=>false)then ∀b,σ b=none->K (.ref b 0) (σ.set b (.cells (au env x).cells))else K (.cp (au env x) 0) σ)
 | .load t p=>match L.tt t with
   |some i=>∃a,px i σ (au env p)=some a/\K a σ
   |none=>False
 | .store t p x=>match L.tt t with
   |some i=>∃m,pW i σ (au env p) (au env x)=some m/\K (.lit undef) m
   |none=>False
 | .fieldAddr s x j=>match L.tt s with
   | some ⟨.struct,_,_,_,jc⟩=>(match jc[j]? with
     |some f=>f.2.1≠0/\∃a,qu (au env x) f.1=some a/\K a σ
     |none=>False)
   |_=>False
 | .field s x j=>match L.tt s,au env x with
   | some ⟨.struct,_,_,_,jc⟩,.agg l=>(match jc[j]? with
     |some f=>(match L.tt f.2.2 with|some q=>∃a,cy l f.1 q.size q.agg=some a/\K a σ|none=>False)
     |none=>False)
   |_,_=>False
 | .indexAddr t x n=>match L.tt t with
   | some ⟨.slice e,_,_,_,_⟩=>(match L.tt e,au env x,au env n with
     |some h,.sl r es _,.lit (.int _ z)=>r=h.size/\0<=z/\∃a,es[z.toNat]?=some a/\K (.cp a 0) σ
     |some h,.kB b off len _,.lit (.int _ z)=>(0<=z/\z<len)/\K (.ref b (off+z.toNat*h.size)) σ
     |_,_,_=>False)
   | some ⟨.array k e,_,_,_,_⟩=>(match L.tt e,au env n with
     |some h,.lit (.int _ z)=>(0<=z/\z<k)/\∃a,qu (au env x) (z.toNat*h.size)=some a/\K a σ
     |_,_=>False)
   |_=>False
 | .index t x n=>match L.tt t with
   | some ⟨.array k e,_,_,_,_⟩=>(match L.tt e,au env x,au env n with
     |some h,.agg l,.lit (.int _ z)=>(0<=z/\z<k)/\∃a,cy l (z.toNat*h.size) h.size h.agg=some a/\K a σ
     |_,_,_=>False)
   |_=>False
 | .binOp op _ x y _=>match au env x,au env y with
   |.lit (.int kd a),.lit (.int g b)=>(kd=g\/op=.shl\/op=.shr)/\pY op kd a b λv=>K (.lit v) σ
   |_,_=>False
 | .unOp .not _ x=>match au env x with
   |.lit (.bool b)=>K (.lit (.bool !b)) σ
   |_=>False
 | .convert _ t x=>match L.tt t,au env x with
   |some ⟨.int kd,_,_,_,_⟩,.lit (.int _ a)=>K (.lit (.int kd (kd.wrap a))) σ
   |_,_=>False
 | .makeInterface t x=>match L.tt t with
   |some i=>i.kind≠.iface/\K (.kD t (au env x)) σ
   |none=>False
 |.makeFunc f fs cs=>K (.fn f (fs.toList.map (au env)) (cs.toList.map (au env))) σ
 | .extract x j=>match au env x with
   |.bp l=>∃a,l[j]?=some a/\K a σ
   |_=>False
 | .typeAssert x _ t true=>match L.tt t,au env x with
   |some i,.kD d y=>i.kind≠.iface/\K (if d=t then .bp [y,.lit (.bool true)]else .bp [iP i.zero,.lit (.bool false)]) σ
   |_,_=>False
 |.nilCheck x=>(match au env x with|.cp _ _=>True|.ref _ _=>True|.kp _ _ _ _=>True|.fn (.func _) _ _=>True|_=>False)/\K (au env x) σ
 | .panic x=>match au env x with
   |.kD t y=>Kp (.kD t y) σ
   |_=>False
 | .build t parts=>match L.tt t with
   |some i=>i.kind=.struct/\(iP i.zero).cells.all AV.flat=true/\∃l,jv (λj=>(i.jc[j]?).map λx=>(x.1,x.2.1)) (iP i.zero).cells (parts.toList.map λp=>(p.1,au env p.2))=some l/\K (.agg l) σ
   |none=>False
 | .call c=>match c.callee,c.args.toList with
   | .builtin .len,[x]=>(match au env x with
     |.sl _ es _=>K (.lit (.int .i64 es.length)) σ
     |.lit (.slice none 0 0)=>K (.lit (.int .i64 0)) σ
     |.kB _ _ len _=>K (.lit (.int .i64 len)) σ
     |_=>False)
   | .builtin .min,[x,y]=>(match au env x,au env y with
     |.lit (.int kd a),.lit (.int g b)=>kd=g/\K (.lit (.int kd (if b<a then b else a))) σ
     |_,_=>False)
   | .builtin .max,[x,y]=>(match au env x,au env y with
     |.lit (.int kd a),.lit (.int g b)=>kd=g/\K (.lit (.int kd (if b>a then b else a))) σ
     |_,_=>False)
   |_,_=>False
 |_=>False
theorem aJ.mono{P:Program}{o:Oper}{env:Env}{σ:aa}{K d Kp:AV->aa->Prop}(h:aJ P o env σ K Kp)(e:∀a σ,K a σ->d a σ):aJ P o env σ d Kp:=λk O f i j=>iy _ (h k O f i j) (λ_ _ _ ⟨v,l,m,n,g,b,a,c,x,y,z⟩=>⟨v,l,m,n,g,b,a,c,x,y,e _ _ z⟩) (λ_ _ _ h=>h)
theorem ki{c:Call}{b:Builtin}{l:List Operand}(a:c.callee=.builtin b)(d:c.args.toList=l):c=⟨.builtin b,l.toArray,c.argTypes⟩:=by obtain⟨ce,args,e⟩:=c;simp only at a d;subst a;subst d;simp
theorem xW{mu:List Nat}{o:Oper}{env:Env}{σ:aa}{K Kp:AV->aa->Prop}(C:qA L o=true)(h:QN L mu o env σ K Kp):aJ P o env σ K Kp:=by
 unfold QN at h;unfold qA at C;split at h
 . next x g=>exact uv (.inl g) h
 . next x g=>exact uv (.inr g) h
 . next c a b g=>
   split at h
   . next x m=>exact EN g m h
   . exact h.elim
 . next t g=>
   split at h
   . next i B=>exact AI L g B h.1 h.2
   . exact h.elim
 . next t x g=>
   obtain⟨A,u⟩:=h;generalize (match o.dst with|some d=>mu.contains d|none=>false)=q at u;cases q
   . simp only[Bool.false_eq_true,if_false]at u
     exact Ie g A u
   . simp only[if_true]at u
     exact uV g A u
 . next t p g=>
   split at h
   . next i B=>obtain⟨a,A,u⟩:=h;exact za L g B A u
   . exact h.elim
 . next t p x g=>
   split at h
   . next i B=>obtain⟨a,A,u⟩:=h;exact AH L g B A u
   . exact h.elim
 . next s x j g=>
   split at h
   . next H I J jc B=>
     split at h
     . next f S=>obtain⟨A,a,u,Q⟩:=h;exact qv L g B rfl S A u Q
     . exact h.elim
   . exact h.elim
 . next s x j g=>
   split at h
   . next H I J jc l B m=>
     split at h
     . next f S=>
       split at h
       . next fi T=>obtain⟨a,A,u⟩:=h;exact AJ L g B rfl S T m A u
       . exact h.elim
     . exact h.elim
   . exact h.elim
 . next t x X g=>
   split at h
   . next e H I J R B=>
     split at h
     . next U kk es sp kd z G m D=>obtain⟨rfl,E,a,A,u⟩:=h;exact uW L g B rfl G m D E A u
     . next U b off len cap kd z G m D=>exact sZ L g B rfl G m D h.1 h.2
     . exact h.elim
   . next k e H I J R B=>
     split at h
     . next U kd z G D=>obtain⟨E,a,A,u⟩:=h;exact sY L g B rfl G D E A u
     . exact h.elim
   . exact h.elim
 . next t x X g=>
   split at h
   . next k e H I J R B=>
     split at h
     . next U l kd z G m D=>obtain⟨E,a,A,u⟩:=h;exact AL L g B rfl G m D E A u
     . exact h.elim
   . exact h.elim
 . next op t x y t2 g=>
   split at h
   . next kd a F b m w=>
     obtain⟨Y,h⟩:=h;have n:(op≠.shl/\op≠.shr)->F=kd:=λhh=>by simp_all
     unfold pY at h;split at h
     . rw[n (by simp)]at w;exact mi g m w (.inl ⟨rfl,rfl⟩) h.1 h.2
     . rw[n (by simp)]at w;exact mi g m w (.inr (.inl ⟨rfl,rfl⟩)) h.1 h.2
     . rw[n (by simp)]at w;exact mi g m w (.inr (.inr ⟨rfl,rfl⟩)) h.1 h.2
     . rw[n (by simp)]at w;exact cH g m w rfl h
     . rw[n (by simp)]at w;exact cH g m w rfl h
     . rw[n (by simp)]at w;exact cH g m w rfl h
     . rw[n (by simp)]at w;exact cH g m w rfl h
     . rw[n (by simp)]at w;exact cH g m w rfl h
     . rw[n (by simp)]at w;exact cH g m w rfl h
     . exact qw g m w h.1 (.inl ⟨rfl,rfl⟩) h.2
     . exact qw g m w h.1 (.inr ⟨rfl,rfl⟩) h.2
     . next A u Q W h5 h6 h7 h8 h9 Z a7=>
       obtain⟨v,hv,hK⟩:=h;rw[n ⟨λe=>by simp_all,λe=>by simp_all⟩]at w;exact cH g m w hv hK
   . exact h.elim
 . next t x g=>
   split at h
   . next b m=>exact Ii g m h
   . exact h.elim
 . next s t x g=>
   simp only[g]at C;split at h
   . next kd H I J R F a M m=>
     split at C
     . next ks b1 b2 b3 b4 kt c1 c2 c3 c4 hs V=>rw[M]at V;exact uY L g hs M rfl rfl m h
     . cases C
   . exact h.elim
 . next t x g=>
   split at h
   . next i B=>exact mj L g B h.1 h.2
   . exact h.elim
 . next f fs cs g=>exact s5 g h
 . next x j g=>
   split at h
   . next l m=>obtain⟨a,A,u⟩:=h;exact uZ g m A u
   . exact h.elim
 . next x xt t g=>
   split at h
   . next i d y B m=>exact py L g B h.1 m h.2
   . exact h.elim
 . next x g=>
   obtain⟨A,u⟩:=h;split at A
   . next v off m=>exact eu g (.inl ⟨_,_,m⟩) u
   . next b off m=>exact eu g (.inr (.inl ⟨_,_,m⟩)) u
   . next b l hole off m=>exact eu g (.inr (.inr (.inr ⟨_,_,_,_,m⟩))) u
   . next f l r m=>exact eu g (.inr (.inr (.inl ⟨_,_,_,m⟩))) u
   . exact A.elim
 . next x g=>
   split at h
   . next t y m=>exact AM g m h
   . exact h.elim
 . next t parts g=>
   split at h
   . next i B=>obtain⟨A,u,l,Q,W⟩:=h;exact AO L g B A u Q W
   . exact h.elim
 . next c g=>
   simp only[g]at C;split at h
   . next x N O=>
     simp only[N,O]at C;have e:=ki N O;split at C
     . next t E=>
       split at C
       . next e' H I J R M=>
         rw[e]at g;split at h
         . next kk es sp m=>exact zb L g E M rfl (.inl m) h
         . next m=>exact zb L (kk:=0) (sp:=.any) (es:=[]) g E M rfl (.inr ⟨m,rfl⟩) h
         . next b off len cap m=>exact xU L g E M rfl m h
         grind
       . cases C
     . cases C
   . next x y N O=>
     rw[ki N O]at g;split at h
     . next kd a F b m w=>obtain⟨rfl,h⟩:=h;exact oE g m w (.inl ⟨rfl,rfl⟩) h
     . exact h.elim
   . next x y N O=>
     rw[ki N O]at g;split at h
     . next kd a F b m w=>obtain⟨rfl,h⟩:=h;exact oE g m w (.inr ⟨rfl,rfl⟩) h
     . exact h.elim
   . exact h.elim
 . exact h.elim
def pZ(ops:Array Oper)(n:Nat)(env:Env)(o:Oper)(go no:Prop):Prop:=
 match o.guard with
 |none=>go
 | some (j,b)=>match (ops[j]?).bind (·.dst)with
   | some d=>d<n/\(match env d with
     |.lit (.bool x)=>(x=b->go)/\(x≠b->no)
     |.lit (.tuple _)=>no
     |_=>False)
   |none=>False
theorem qB{ops:Array Oper}{n:Nat}{env:Env}{o:Oper}{go no:Prop}(h:pZ ops n env o go no):
 (bK ops n env o/\go)\/∃j b x d c,o.guard=some (j,b)/\ops[j]?=some c/\c.dst=some d/\d<n/\env d=.lit x/\QL x b/\no:=by
 unfold pZ at h;split at h
 . next g=>exact .inl ⟨by unfold bK;simp_all,h⟩
 . next j b g=>
   split at h
   . next d hd=>
     obtain⟨c,k,e⟩:=Option.bind_eq_some_iff.1 hd;obtain⟨f,h⟩:=h;split at h
     . next x i=>
       by_cases a:x=b
       . exact .inl ⟨by unfold bK;simp_all,h.1 a⟩
       . exact .inr ⟨j,b,_,d,c,g,k,e,f,i,a,h.2 a⟩
     . next x i=>exact .inr ⟨j,b,_,d,c,g,k,e,f,i,trivial,h⟩
     simp_all
   simp_all
end
@[simp] theorem AV.PS(v:Value):(AV.lit v).cells=[AV.lit v]:=rfl
@[simp] theorem AV.flat_lit(v:Value):(AV.lit v).flat=bu.flat v:=rfl
@[simp] theorem AV.OK :(AV.bJ).cells=[AV.bJ]:=rfl
@[simp] theorem AV.PT :(AV.bJ).flat=false:=rfl
@[simp] theorem AV.PU(l:List AV):(AV.agg l).cells=l:=rfl
@[simp] theorem AV.flat_agg(l:List AV):(AV.agg l).flat=false:=rfl
@[simp] theorem AV.PV(l:List AV):(AV.bp l).cells=[AV.bp l]:=rfl
@[simp] theorem AV.QO(l:List AV):(AV.bp l).flat=false:=rfl
@[simp] theorem AV.QP(k:Nat)(es:List AV)(sp:cQ):(AV.sl k es sp).cells=[AV.sl k es sp]:=rfl
@[simp] theorem AV.Ta(k:Nat)(es:List AV)(sp:cQ):(AV.sl k es sp).flat=true:=rfl
@[simp] theorem AV.QQ(v:AV)(off:Nat):(AV.cp v off).cells=[AV.cp v off]:=rfl
@[simp] theorem AV.QR(b:Nat)(l:List AV)(hole:List Nat)(off:Nat):(AV.kp b l hole off).cells=[AV.kp b l hole off]:=rfl
@[simp] theorem AV.Tb(b:Nat)(l:List AV)(hole:List Nat)(off:Nat):(AV.kp b l hole off).flat=true:=rfl
@[simp] theorem AV.Tc(v:AV)(off:Nat):(AV.cp v off).flat=true:=rfl
@[simp] theorem AV.PW(b off:Nat):(AV.ref b off).cells=[AV.ref b off]:=rfl
@[simp] theorem AV.QS(b off:Nat):(AV.ref b off).flat=true:=rfl
@[simp] theorem AV.PX(b off len cap:Nat):(AV.kB b off len cap).cells=[AV.kB b off len cap]:=rfl
@[simp] theorem AV.QT(b off len cap:Nat):(AV.kB b off len cap).flat=true:=rfl
@[simp] theorem AV.QU(f:Fn)(x y:List AV):(AV.fn f x y).cells=[AV.fn f x y]:=rfl
@[simp] theorem AV.Td(f:Fn)(x y:List AV):(AV.fn f x y).flat=true:=rfl
@[simp] theorem AV.PY(t:TypeId)(v:AV):(AV.kD t v).cells=[AV.kD t v]:=rfl
@[simp] theorem AV.QV(t:TypeId)(v:AV):(AV.kD t v).flat=true:=rfl
@[simp] theorem AV.PZ(b:Nat):(AV.map b).cells=[AV.map b]:=rfl
@[simp] theorem AV.QW(b:Nat):(AV.map b).flat=true:=rfl
@[simp] theorem AV.OL(b:Nat):(AV.chan b).cells=[AV.chan b]:=rfl
@[simp] theorem AV.P1(b:Nat):(AV.chan b).flat=true:=rfl
attribute [simp] cW au pZ qA QN List.range List.range.loop Oper.ok Operand.ok Op.operands Call.operands pY aX Env.upd PR H2 dR AP oneOf exitTo px pW qu cy flat TI.agg iP jv fits
end Go.bu

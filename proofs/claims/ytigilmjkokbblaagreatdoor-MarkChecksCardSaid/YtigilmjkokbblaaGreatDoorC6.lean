/- Part 6 of the proof. -/
import Derived.Test.YtigilmjkokbblaaGreatDoorC5
set_option linter.all false
namespace Go.bd
open Go.Conc
def fits(n:Int):Prop:=-9223372036854775808<=n/\n<=9223372036854775807
def rf(op:BinOp)(kd:IntKind)(a b:Int)(R:Value->Prop):Prop:=
 match op,kd with
 |.add,.i64=>fits (a+b)/\R (.int .i64 (a+b))
 |.sub,.i64=>fits (a-b)/\R (.int .i64 (a-b))
 |.mul,.i64=>fits (a*b)/\R (.int .i64 (a*b))
 |.eql,_=>R (.bool (a==b))
 |.neq,_=>R (.bool (a !=b))
 |.lss,_=>R (.bool (decide (a<b)))
 |.leq,_=>R (.bool (decide (a<=b)))
 |.gtr,_=>R (.bool (decide (a>b)))
 |.geq,_=>R (.bool (decide (a>=b)))
 |.shl,_=>0<=b/\R (.int kd (kd.wrap (a*2 ^ (min b.toNat kd.bits))))
 |.shr,_=>0<=b/\R (.int kd (a.fdiv (2 ^ (min b.toNat kd.bits))))
 |op,kd=>∃v,qE op kd a b=some v/\R v
section
variable{P:Program}(L:iG P)
def qJ(o:Oper):Bool:=
 match o.op with
 |.move _|.assign _|.pick _ _ _|.alloc _|.box _ _|.load _ _|.store _ _ _|.makeInterface _ _|.makeFunc _ _ _|.extract _ _|.field _ _ _|.fieldAddr _ _ _|.nilCheck _|.panic _|.unOp .not _ _|.build _ _=>true
 |.indexAddr t _ _=>match L.tt t with|some ⟨.slice _,_,_,_,_⟩=>true|some ⟨.array _ _,_,_,_,_⟩=>true|_=>false
 |.index t _ _=>match L.tt t with|some ⟨.array _ _,_,_,_,_⟩=>true|_=>false
 |.binOp _ t _ _ _=>match L.tt t with|some ⟨.int _,_,_,_,_⟩=>true|_=>false
 |.convert s t _=>match L.tt s,L.tt t with|some ⟨.int _,_,_,_,_⟩,some ⟨.int _,_,_,_,_⟩=>true|_,_=>false
 |.typeAssert _ _ t true=>match L.tt t with|some ⟨.iface,_,_,_,_⟩=>false|some _=>true|none=>false
 | .call c=>match c.callee,c.args.toList with
   |.builtin .len,[_]=>(match c.argTypes[0]? with|some t=>(match L.tt t with|some ⟨.slice _,_,_,_,_⟩=>true|_=>false)|none=>false)
   |.builtin .min,[_,_]=>true
   |.builtin .max,[_,_]=>true
   |_,_=>false
 |_=>false
def RN(mu:List Nat)(o:Oper)(env:Env)(σ:aa)(K Kp:AV->aa->Prop):Prop:=
 match o.op with
 |.move x|.assign x=>K (ar env x) σ
 | .pick c a b=>match ar env c with
   |.lit (.bool x)=>K (if x then ar env a else ar env b) σ
   |_=>False
 | .alloc t=>match L.tt t with
   |some i=>(jZ i.zero).cells.all AV.flat=true/\∀b,σ b=none->K (.ref b 0) (σ.set b (.cells (jZ i.zero).cells))
   |none=>False
 |.box _ x=>(ar env x).cells.all AV.flat=true/\(if(match o.dst with|some d=>mu.contains d|none=>false)then ∀b,σ b=none->K (.ref b 0) (σ.set b (.cells (ar env x).cells))else K (.cp (ar env x) 0) σ)
 | .load t p=>match L.tt t with
   |some i=>∃a,oW i σ (ar env p)=some a/\K a σ
   |none=>False
 | .store t p x=>match L.tt t with
   |some i=>∃m,n8 i σ (ar env p) (ar env x)=some m/\K (.lit undef) m
   |none=>False
 | .fieldAddr s x j=>match L.tt s with
   | some ⟨.struct,_,_,_,jd⟩=>(match jd[j]? with
     |some f=>f.2.1≠0/\∃a,rY (ar env x) f.1=some a/\K a σ
     |none=>False)
   |_=>False
 | .field s x j=>match L.tt s,ar env x with
   | some ⟨.struct,_,_,_,jd⟩,.agg l=>(match jd[j]? with
     |some f=>(match L.tt f.2.2 with|some q=>∃a,bW l f.1 q.size q.agg=some a/\K a σ|none=>False)
     |none=>False)
   |_,_=>False
 | .indexAddr t x n=>match L.tt t with
   | some ⟨.slice e,_,_,_,_⟩=>(match L.tt e,ar env x,ar env n with
     |some h,.sl r es _,.lit (.int _ z)=>r=h.size/\0<=z/\∃a,es[z.toNat]?=some a/\K (.cp a 0) σ
     |some h,.ew b off len _,.lit (.int _ z)=>(0<=z/\z<len)/\K (.ref b (off+z.toNat*h.size)) σ
     |_,_,_=>False)
   | some ⟨.array k e,_,_,_,_⟩=>(match L.tt e,ar env n with
     |some h,.lit (.int _ z)=>(0<=z/\z<k)/\∃a,rY (ar env x) (z.toNat*h.size)=some a/\K a σ
     |_,_=>False)
   |_=>False
 | .index t x n=>match L.tt t with
   | some ⟨.array k e,_,_,_,_⟩=>(match L.tt e,ar env x,ar env n with
     |some h,.agg l,.lit (.int _ z)=>(0<=z/\z<k)/\∃a,bW l (z.toNat*h.size) h.size h.agg=some a/\K a σ
     |_,_,_=>False)
   |_=>False
 | .binOp op _ x y _=>match ar env x,ar env y with
   |.lit (.int kd a),.lit (.int g b)=>(kd=g\/op=.shl\/op=.shr)/\rf op kd a b λv=>K (.lit v) σ
   |_,_=>False
 | .unOp .not _ x=>match ar env x with
   |.lit (.bool b)=>K (.lit (.bool !b)) σ
   |_=>False
 | .convert _ t x=>match L.tt t,ar env x with
   |some ⟨.int kd,_,_,_,_⟩,.lit (.int _ a)=>K (.lit (.int kd (kd.wrap a))) σ
   |_,_=>False
 | .makeInterface t x=>match L.tt t with
   |some i=>i.kind≠.iface/\K (.lg t (ar env x)) σ
   |none=>False
 |.makeFunc f fs cs=>K (.fn f (fs.toList.map (ar env)) (cs.toList.map (ar env))) σ
 | .extract x j=>match ar env x with
   |.bG l=>∃a,l[j]?=some a/\K a σ
   |_=>False
 | .typeAssert x _ t true=>match L.tt t,ar env x with
   |some i,.lg d y=>i.kind≠.iface/\K (if d=t then .bG [y,.lit (.bool true)]else .bG [jZ i.zero,.lit (.bool false)]) σ
   |_,_=>False
 |.nilCheck x=>(match ar env x with|.cp _ _=>True|.ref _ _=>True|.kp _ _ _ _=>True|.fn (.func _) _ _=>True|_=>False)/\K (ar env x) σ
 | .panic x=>match ar env x with
   |.lg t y=>Kp (.lg t y) σ
   |_=>False
 | .build t parts=>match L.tt t with
   |some i=>i.kind=.struct/\(jZ i.zero).cells.all AV.flat=true/\∃l,mG (λj=>(i.jd[j]?).map λx=>(x.1,x.2.1)) (jZ i.zero).cells (parts.toList.map λp=>(p.1,ar env p.2))=some l/\K (.agg l) σ
   |none=>False
 | .call c=>match c.callee,c.args.toList with
   | .builtin .len,[x]=>(match ar env x with
     |.sl _ es _=>K (.lit (.int .i64 es.length)) σ
     |.lit (.slice none 0 0)=>K (.lit (.int .i64 0)) σ
     |.ew _ _ len _=>K (.lit (.int .i64 len)) σ
     |_=>False)
   | .builtin .min,[x,y]=>(match ar env x,ar env y with
     |.lit (.int kd a),.lit (.int g b)=>kd=g/\K (.lit (.int kd (if b<a then b else a))) σ
     |_,_=>False)
   | .builtin .max,[x,y]=>(match ar env x,ar env y with
     |.lit (.int kd a),.lit (.int g b)=>kd=g/\K (.lit (.int kd (if b>a then b else a))) σ
     |_,_=>False)
   |_,_=>False
 |_=>False
theorem aK.mono{P:Program}{o:Oper}{env:Env}{σ:aa}{K d Kp:AV->aa->Prop}(h:aK P o env σ K Kp)(e:∀a σ,K a σ->d a σ):aK P o env σ d Kp:=λk O f i j=>iq _ (h k O f i j) (λ_ _ _ ⟨v,l,m,n,g,b,a,c,x,y,z⟩=>⟨v,l,m,n,g,b,a,c,x,y,e _ _ z⟩) (λ_ _ _ h=>h)
theorem lF{c:Call}{b:Builtin}{l:List Operand}(a:c.callee=.builtin b)(d:c.args.toList=l):c=⟨.builtin b,l.toArray,c.argTypes⟩:=by obtain⟨ce,args,e⟩:=c;simp only at a d;subst a;subst d;simp
theorem Hv{mu:List Nat}{o:Oper}{env:Env}{σ:aa}{K Kp:AV->aa->Prop}(C:qJ L o=true)(h:RN L mu o env σ K Kp):aK P o env σ K Kp:=by
 unfold RN at h;unfold qJ at C;split at h
 . next x g=>exact vE (.inl g) h
 . next x g=>exact vE (.inr g) h
 . next c a b g=>
   split at h
   . next x m=>exact Ge g m h
   . exact h.elim
 . next t g=>
   split at h
   . next i B=>exact B8 L g B h.1 h.2
   . exact h.elim
 . next t x g=>
   obtain⟨A,u⟩:=h;generalize (match o.dst with|some d=>mu.contains d|none=>false)=q at u;cases q
   . simp only[Bool.false_eq_true,if_false]at u
     exact JL g A u
   . simp only[if_true]at u
     exact v7 g A u
 . next t p g=>
   split at h
   . next i B=>obtain⟨a,A,u⟩:=h;exact AO L g B A u
   . exact h.elim
 . next t p x g=>
   split at h
   . next i B=>obtain⟨a,A,u⟩:=h;exact B7 L g B A u
   . exact h.elim
 . next s x j g=>
   split at h
   . next H I J jd B=>
     split at h
     . next f S=>obtain⟨A,a,u,Q⟩:=h;exact rZ L g B rfl S A u Q
     . exact h.elim
   . exact h.elim
 . next s x j g=>
   split at h
   . next H I J jd l B m=>
     split at h
     . next f S=>
       split at h
       . next fi T=>obtain⟨a,A,u⟩:=h;exact B9 L g B rfl S T m A u
       . exact h.elim
     . exact h.elim
   . exact h.elim
 . next t x Z g=>
   split at h
   . next e H I J R B=>
     split at h
     . next U kk es sp kd z G m D=>obtain⟨rfl,E,a,A,u⟩:=h;exact v8 L g B rfl G m D E A u
     . next U b off len cap kd z G m D=>exact uI L g B rfl G m D h.1 h.2
     . exact h.elim
   . next k e H I J R B=>
     split at h
     . next U kd z G D=>obtain⟨E,a,A,u⟩:=h;exact uH L g B rfl G D E A u
     . exact h.elim
   . exact h.elim
 . next t x Z g=>
   split at h
   . next k e H I J R B=>
     split at h
     . next U l kd z G m D=>obtain⟨E,a,A,u⟩:=h;exact Ca L g B rfl G m D E A u
     . exact h.elim
   . exact h.elim
 . next op t x y t2 g=>
   split at h
   . next kd a F b m w=>
     obtain⟨V,h⟩:=h
     have n:(op≠.shl/\op≠.shr)->F=kd:=λX=>by
      rcases V with h|h|h
      . exact h.symm
      . exact absurd h X.1
      . exact absurd h X.2
     unfold rf at h;split at h
     . rw[n (by simp)]at w;exact nu g m w (.inl ⟨rfl,rfl⟩) h.1 h.2
     . rw[n (by simp)]at w;exact nu g m w (.inr (.inl ⟨rfl,rfl⟩)) h.1 h.2
     . rw[n (by simp)]at w;exact nu g m w (.inr (.inr ⟨rfl,rfl⟩)) h.1 h.2
     . rw[n (by simp)]at w;exact c9 g m w rfl h
     . rw[n (by simp)]at w;exact c9 g m w rfl h
     . rw[n (by simp)]at w;exact c9 g m w rfl h
     . rw[n (by simp)]at w;exact c9 g m w rfl h
     . rw[n (by simp)]at w;exact c9 g m w rfl h
     . rw[n (by simp)]at w;exact c9 g m w rfl h
     . exact r7 g m w h.1 (.inl ⟨rfl,rfl⟩) h.2
     . exact r7 g m w h.1 (.inr ⟨rfl,rfl⟩) h.2
     . next A u Q Y h5 h6 h7 h8 h9 a7 a8=>
       obtain⟨v,hv,hK⟩:=h;rw[n ⟨λe=>by subst e;simp_all,λe=>by subst e;simp_all⟩]at w;exact c9 g m w hv hK
   . exact h.elim
 . next t x g=>
   split at h
   . next b m=>exact JO g m h
   . exact h.elim
 . next s t x g=>
   simp only[g]at C;split at h
   . next kd H I J R F a M m=>
     split at C
     . next ks b1 b2 b3 b4 kt c1 c2 c3 c4 hs W=>rw[M]at W;exact v9 L g hs M rfl rfl m h
     . cases C
   . exact h.elim
 . next t x g=>
   split at h
   . next i B=>exact nv L g B h.1 h.2
   . exact h.elim
 . next f fs cs g=>exact uJ g h
 . next x j g=>
   split at h
   . next l m=>obtain⟨a,A,u⟩:=h;exact wh g m A u
   . exact h.elim
 . next x xt t g=>
   split at h
   . next i d y B m=>exact qI L g B h.1 m h.2
   . exact h.elim
 . next x g=>
   obtain⟨A,u⟩:=h;split at A
   . next v off m=>exact fq g (.inl ⟨_,_,m⟩) u
   . next b off m=>exact fq g (.inr (.inl ⟨_,_,m⟩)) u
   . next b l hole off m=>exact fq g (.inr (.inr (.inr ⟨_,_,_,_,m⟩))) u
   . next f l r m=>exact fq g (.inr (.inr (.inl ⟨_,_,_,m⟩))) u
   . exact A.elim
 . next x g=>
   split at h
   . next t y m=>exact Cb g m h
   . exact h.elim
 . next t parts g=>
   split at h
   . next i B=>obtain⟨A,u,l,Q,Y⟩:=h;exact Cd L g B A u Q Y
   . exact h.elim
 . next c g=>
   simp only[g]at C;split at h
   . next x N O=>
     simp only[N,O]at C;have e:=lF N O;split at C
     . next t E=>
       split at C
       . next e' H I J R M=>
         rw[e]at g;split at h
         . next kk es sp m=>exact AP L g E M rfl (.inl m) h
         . next m=>exact AP L (kk:=0) (sp:=.any) (es:=[]) g E M rfl (.inr ⟨m,rfl⟩) h
         . next b off len cap m=>exact zn L g E M rfl m h
         . exact h.elim
       . cases C
     . cases C
   . next x y N O=>
     rw[lF N O]at g;split at h
     . next kd a F b m w=>obtain⟨rfl,h⟩:=h;exact qe g m w (.inl ⟨rfl,rfl⟩) h
     . exact h.elim
   . next x y N O=>
     rw[lF N O]at g;split at h
     . next kd a F b m w=>obtain⟨rfl,h⟩:=h;exact qe g m w (.inr ⟨rfl,rfl⟩) h
     . exact h.elim
   . exact h.elim
 . exact h.elim
def rh(ops:Array Oper)(n:Nat)(env:Env)(o:Oper)(go no:Prop):Prop:=
 match o.guard with
 |none=>go
 | some (j,b)=>match (ops[j]?).bind (·.dst)with
   | some d=>d<n/\(match env d with
     |.lit (.bool x)=>(x=b->go)/\(x≠b->no)
     |.lit (.tuple _)=>no
     |_=>False)
   |none=>False
theorem sd{ops:Array Oper}{n:Nat}{env:Env}{o:Oper}{go no:Prop}(h:rh ops n env o go no):
 (cu ops n env o/\go)\/∃j b x d f,o.guard=some (j,b)/\ops[j]?=some f/\f.dst=some d/\d<n/\env d=.lit x/\RJ x b/\no:=by
 unfold rh at h;split at h
 . next g=>exact .inl ⟨by unfold cu;rw[g];trivial,h⟩
 . next j b g=>
   split at h
   . next d hd=>
     obtain⟨f,k,c⟩:=Option.bind_eq_some_iff.1 hd;obtain⟨e,h⟩:=h;split at h
     . next x i=>
       by_cases a:x=b
       . exact .inl ⟨by unfold cu;rw[g];exact⟨f,d,k,c,e,by rw[i,a]⟩,h.1 a⟩
       . exact .inr ⟨j,b,_,d,f,g,k,c,e,i,a,h.2 a⟩
     . next x i=>exact .inr ⟨j,b,_,d,f,g,k,c,e,i,trivial,h⟩
     . exact h.elim
   . exact h.elim
end
@[simp] theorem AV.Q0(v:Value):(AV.lit v).cells=[AV.lit v]:=rfl
@[simp] theorem AV.flat_lit(v:Value):(AV.lit v).flat=bd.flat v:=rfl
@[simp] theorem AV.PX :(AV.bC).cells=[AV.bC]:=rfl
@[simp] theorem AV.Q1 :(AV.bC).flat=false:=rfl
@[simp] theorem AV.Q2(l:List AV):(AV.agg l).cells=l:=rfl
@[simp] theorem AV.flat_agg(l:List AV):(AV.agg l).flat=false:=rfl
@[simp] theorem AV.Q3(l:List AV):(AV.bG l).cells=[AV.bG l]:=rfl
@[simp] theorem AV.RO(l:List AV):(AV.bG l).flat=false:=rfl
@[simp] theorem AV.RP(k:Nat)(es:List AV)(sp:cG):(AV.sl k es sp).cells=[AV.sl k es sp]:=rfl
@[simp] theorem AV.Uh(k:Nat)(es:List AV)(sp:cG):(AV.sl k es sp).flat=true:=rfl
@[simp] theorem AV.RQ(v:AV)(off:Nat):(AV.cp v off).cells=[AV.cp v off]:=rfl
@[simp] theorem AV.RR(b:Nat)(l:List AV)(hole:List Nat)(off:Nat):(AV.kp b l hole off).cells=[AV.kp b l hole off]:=rfl
@[simp] theorem AV.Ui(b:Nat)(l:List AV)(hole:List Nat)(off:Nat):(AV.kp b l hole off).flat=true:=rfl
@[simp] theorem AV.Uj(v:AV)(off:Nat):(AV.cp v off).flat=true:=rfl
@[simp] theorem AV.Q4(b off:Nat):(AV.ref b off).cells=[AV.ref b off]:=rfl
@[simp] theorem AV.RS(b off:Nat):(AV.ref b off).flat=true:=rfl
@[simp] theorem AV.Q5(b off len cap:Nat):(AV.ew b off len cap).cells=[AV.ew b off len cap]:=rfl
@[simp] theorem AV.RU(b off len cap:Nat):(AV.ew b off len cap).flat=true:=rfl
@[simp] theorem AV.RV(f:Fn)(x y:List AV):(AV.fn f x y).cells=[AV.fn f x y]:=rfl
@[simp] theorem AV.Uk(f:Fn)(x y:List AV):(AV.fn f x y).flat=true:=rfl
@[simp] theorem AV.Q6(t:TypeId)(v:AV):(AV.lg t v).cells=[AV.lg t v]:=rfl
@[simp] theorem AV.RX(t:TypeId)(v:AV):(AV.lg t v).flat=true:=rfl
@[simp] theorem AV.Q7(b:Nat):(AV.map b).cells=[AV.map b]:=rfl
@[simp] theorem AV.RY(b:Nat):(AV.map b).flat=true:=rfl
@[simp] theorem AV.PY(b:Nat):(AV.chan b).cells=[AV.chan b]:=rfl
@[simp] theorem AV.Q8(b:Nat):(AV.chan b).flat=true:=rfl
attribute [simp] dD ar rh qJ RN List.range List.range.loop Oper.ok Operand.ok Op.operands Call.operands rf bo Env.upd QZ Nm eZ AQ oneOf exitTo oW n8 rY bW flat TI.agg jZ mG fits
end Go.bd

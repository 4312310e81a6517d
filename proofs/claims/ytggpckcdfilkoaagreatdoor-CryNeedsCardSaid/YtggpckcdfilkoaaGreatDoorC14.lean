import Derived.Test.YtggpckcdfilkoaaGreatDoorC13
set_option linter.all false
namespace Go.bu
section
open Go.Conc
def bQ{α}(P:Rg):Sem α->Option α
 |.pure a=>some a
 |.program g=>bQ P (g P)
 |_=>none
def il{α P k O K Kp a}:∀(s:Sem α),bQ P s=some a->K a k O->jm P s k O K Kp
 |.pure b,h,c=>by simp  [bQ]at h;subst h;exact c
 |.program g,h,c=>il (g P) h c
 |.load ..,h,_=>by simp[bQ]at h
 |.store ..,h,_=>by simp[bQ]at h
 |.new ..,h,_=>by simp[bQ]at h
 |.shape ..,h,_=>by simp[bQ]at h
 |.freeze ..,h,_=>by simp[bQ]at h
 |.frozen ..,h,_=>by simp[bQ]at h
 |.getObj ..,h,_=>by simp[bQ]at h
 |.setObj ..,h,_=>by simp[bQ]at h
 |.choose ..,h,_=>by simp[bQ]at h
 |.sys ..,h,_=>by simp[bQ]at h
 |.mark ..,h,_=>by simp[bQ]at h
 |.halt ..,h,_=>by simp[bQ]at h
def oT(P:Rg)(e:E7->Sem Value)(args:We)(σ:af)(K:CU):Prop:=∀k O (d:EI),Vs k d args->Rel k O σ->jm P (e d.toArray) k O (λv c f=>k.Le c->∃a b,V c v a/\Rel c f b/\K a b) (λ_ _ _=>False)
section
variable{P:Rg}(L:lz P){m:Mo}{f:FuncId}{fn:Func}
def B5{e k O b K Kp}(c:P.funcs[f]?=some fn)(hb:fn.body=none)(a:(fn.name==  "runtime.NumGoroutine")=false)(d:Extern.findNext fn=none)(g:Extern.find fn=some e)
 (h:jm P (e b) k O (λv k' O'=>K (.value v) k' O') Kp):jm P (callFunc f b) k O K Kp:=by
 refine ag (cO ?_);rw[c];simp only[a,hb];refine ag  ⟨rfl,?_⟩;simp only[d,g];exact ag (mK _ h (by grind [an]) am)
def cQ.ext{e args σ KF}(n:P.funcs[f]?=some fn)(hb:fn.body=none)(d:(fn.name==  "runtime.NumGoroutine")=false)(o:Extern.findNext fn=none)(p:Extern.find fn=some e)
 (h:oT P e args σ λa σ'=>KF (.val a) σ'):cQ P m (.fn (.func f) [] []) args σ KF:=λQ k O cf b fr cs g c q i j l u w=>by
 cases g with
 | fn _ r s x y z A B C=>
   refine iB ?_;obtain rfl:r=#[]:=am
   obtain rfl:s=#[]:=am
   refine B5 n hb d o p ?_;rw[show(#[]++b.toArray++#[]:E7)=b.toArray by simp];refine mK _ (h k O b c q) (λv D E F t=>?_) am
   grind
variable{φ n:Nat}{ro:Dm}{η:YA}{s:St}{K:Ci}{k:AJ}
def aa.xD{ο i is o recv name args q}{t f:Nat}{a a' fn e}(H:ο[i]?=some o)(u:o.op=.call ⟨.invoke recv name,args,q⟩)(L:dC ο n s.env o)(y:Oper.ok n o=true)
 (M:aA s.env recv=.pH t a) (N:tv P t name f a a') (R:P.funcs[f]?=some fn) (hb:fn.body=none) (z:(fn.name==  "runtime.NumGoroutine")=false) (S:Extern.findNext fn=none) (U:Extern.find fn=some e)
 (h:oT P e (a'::args.toList.map (aA s.env)) s.σ (λx σ'=>aa P m φ n ro η (.inRegion ο is::k) {s with env:=cG s.env o.dst x,σ:=σ'} K)):
 aa P m φ n ro η (.inRegion ο (i::is)::k) s K:=λA Q kk O τ ξ ν cs W g X=>by
 refine T.uL (λw=>iI H (lU g.size g.env L) am w) (iB ?_)
 have l:∀x∈o.op.operands,V kk (Frame.eval ⟨φ,τ,.inRegion ο (i::is)::k,ξ,.run,ν,ro⟩ x) (aA s.env x):=λx hx=>by
  refine V.eval g.env g.size x ?_;simp only[Oper.ok,vc,HV]at y
  grind
 have p:=l recv aq;rw[M]at p;have b:=Vs.ofArray (k:=kk) (ρ:=Frame.eval ⟨φ,τ,.inRegion ο (i::is)::k,ξ,.run,ν,ro⟩) (ε:=s.env) (xs:=args) aq;generalize Y:Frame.eval _ recv=cf at p;cases p with
 | pH _ v _ B=>
   simp only[execOp,u,resolve,Y];refine ag (an ?_);rw[xV];unfold callMethod;simp only;refine ag (cO ?_);refine ag (N kk O v _ _ B λr C=>?_);refine B5 R hb z S U ?_;have e:#[r]++args.map (Frame.eval ⟨φ,τ,.inRegion ο (i::is)::k,ξ,.run,ν,ro⟩)=(r::(args.map (Frame.eval ⟨φ,τ,.inRegion ο (i::is)::k,ξ,.run,ν,ro⟩)).toList).toArray:=ap
   rw[e];refine mK _ (h kk O _ (.cons C ⟨am,λj v a p Z=>b.2 j v a am Z⟩) g.rel) (λcv I J D c=>?_) am;obtain⟨av,σ',E,F,D⟩:=D c;obtain⟨d,e1,e2⟩:=g.put (φ:=φ) (ro:=ro) (μ:=is) (kk:=k) c H E F;show T P m Q I J (G (Frame.finish ⟨φ,τ,.inRegion ο (i::is)::k,ξ,.run,ν,ro⟩ cv) (oV s.rc cs));rw[e1];exact D (by simpa[oZ,vR]using A) Q I J d ξ ν cs W e2 (X.mono c)
end
theorem mr{k v u}:V k v (.lit u)↔v=u:=⟨λh=>by cases h;rfl,λh=>h ▸ .lit v⟩
theorem Ep{k v b off}:V k v (.ref b off)↔v=.pointer (some ⟨b,off,none⟩):=⟨λh=>by cases h;rfl,λh=>h ▸ .ref b off⟩
theorem KB{k v t a}:V k v (.pH t a)↔∃u,v=.iface t u/\V k u a:=⟨λh=>by cases h with|pH _ u _ h=>grind,λ⟨u,e,h⟩=>e ▸ .pH t u a h⟩
theorem wR{k v a}:V k v (.agg [a])↔∃x,v=.agg #[x]/\V k x a:=by
 constructor
 . intro h
   cases h with
   | agg c _ b d=>
     obtain⟨c⟩:=c
     match c,b with
     |[x],_=>exact⟨x,rfl,d 0 x a rfl rfl⟩
 . rintro⟨x,rfl,h⟩
   refine .agg _ _ rfl λi v e f g=>?_
   grind
def yE{k v a b c}:V k v (.agg [a,b,c])↔∃x y z,v=.agg #[x,y,z]/\V k x a/\V k y b/\V k z c:=by
 constructor
 . intro h
   cases h with
   | agg q _ e d=>
     obtain⟨q⟩:=q
     match q,e with
     |[x,y,z],_=>exact⟨x,y,z,rfl,d 0 x a rfl rfl,d 1 y b rfl rfl,d 2 z c rfl rfl⟩
 . rintro⟨x,y,z,rfl,h,g,f⟩
   refine .agg _ _ rfl λi v j l m=>?_
   match i with
   |0=>grind
   |1=>grind
   |2=>grind
   |i+3=>grind
section
open Go.Extern
variable{P:Rg}(L:lz P){σ:af}{K:CU}
def oT.pure{e args v a}(c:∀k b,Vs k b args->bQ P (e b.toArray)=some v)(d:∀k,V k v a)(f:K a σ):oT P e args σ K:=λk O b g h=>by exact il _ (c k b g) λ_=>⟨a,σ,d k,h,f⟩
def B6{t a v0 f}(g:a.cells.all AV.flat=true)(h:∀r,bQ P (ReflectliteValue.mk t ⟨r,0,none⟩ 0)=some (.agg #[v0,.pointer (some ⟨r,0,none⟩),f]))
 (i:∀c,σ c=none->K (.agg [.lit v0,.ref c 0,.lit f]) (σ.set c (.cells a.cells))):oT P (λargs=>ReflectliteValue.unpack (args.getD 0 (.tuple #[]))) [.pH t a] σ K:=λk O s j l=>by
 obtain⟨v,b,d⟩:=j.one;subst b;obtain⟨u,rfl,m⟩:=KB.1 d;obtain⟨n,o,p⟩:=m.cells g;refine ag  (lD l n o p λr w x q y e=>?_);exact il _ (h r) λ_=>⟨_,_,yE.2 ⟨_,_,_,rfl,.lit _,.ref r 0,.lit _⟩,e,i r q⟩
def B7{k O c b off t i K Kp}(d:Rel k O σ)(f:σ c=some (.cells [.ref b off]))(g:L.tt t=some i)(hi:i.agg=false)(o:K (.pointer (some ⟨b,off,none⟩)) k O):jm P (loadVar t ⟨c,0,none⟩) k O K Kp:=by
 obtain⟨x,h,j⟩:=d.1 _ _ f rfl;cases j with
 | cells p e _ l m n=>
   refine sG L (tJ.own h l m n) (off:=0) g (a:=.ref b off) aq λv q=>?_
   grind [Ep]
def ahH{z}{t c b off:Nat}{i e f g}(j:∀r,bQ P (ReflectliteValue.parts (.agg #[e,.pointer (some ⟨r,0,none⟩),f]))=some (some (t,⟨r,0,none⟩,g)))(l:g % 32=22)
 (m:L.tt t=some i) (hi:i.agg=false) (n:σ c=some (.cells [.ref b off])) (o:K (.lit (.bool false)) σ):oT P (ReflectliteValue.method z ReflectliteValue.isNil) [.agg [.lit e,.ref c 0,.lit f]] σ K:=λk O w p h=>by
 obtain⟨v,a,d⟩:=p.one;subst a;obtain⟨_,_,_,rfl,q,s,u⟩:=yE.1 d;rw[mr.1 q,Ep.1 s,mr.1 u];refine ag (il _ (j c) ?_);simp only[l];refine ag (B7 L h n m hi ?_);exact an λ_=>⟨_,_,.lit _,h,o⟩
def TZ{z}{t e c b off:Nat}{i f g h j l}(n:∀r,bQ P (ReflectliteValue.parts (.agg #[f,.pointer (some ⟨r,0,none⟩),g]))=some (some (t,⟨r,0,none⟩,l)))(p:l % 32=22)
 (q:L.tt t=some i) (hi:i.agg=false) (s:bQ P (Rtype.elem? t)=some (some e)) (u:∀r o,bQ P (ReflectliteValue.mk e ⟨r,o,none⟩ ReflectliteValue.flagAddr)=some (.agg #[h,.pointer (some ⟨r,o,none⟩),j]))
 (w:σ c=some (.cells [.ref b off])) (x:K (.agg [.lit h,.ref b off,.lit j]) σ):oT P (ReflectliteValue.method z ReflectliteValue.elem) [.agg [.lit f,.ref c 0,.lit g]] σ K:=λk O D y m=>by
 obtain⟨v,a,d⟩:=y.one;subst a;obtain⟨_,_,_,rfl,A,B,C⟩:=yE.1 d;rw[mr.1 A,Ep.1 B,mr.1 C];refine ag (il _ (n c) ?_);simp only[p];refine ag (B7 L m w q hi ?_);refine ag (il _ s ?_);exact il _ (u b off) λ_=>⟨_,_,yE.2 ⟨_,_,_,rfl,.lit _,.ref b off,.lit _⟩,m,x⟩
def XT{t c b off:Nat}{i σ' f m n l a p y}(z:∀r o,bQ P (ReflectliteValue.parts (.agg #[f,.pointer (some ⟨r,o,none⟩),m]))=some (some (t,⟨r,o,none⟩,p)))(A:∀r,bQ P (ReflectliteValue.parts (.agg #[f,.pointer (some ⟨r,0,none⟩),n]))=some (some (t,⟨r,0,none⟩,y)))
 (B:(p / ReflectliteValue.flagAddr % 2==0)=false) (hd:bQ P (Rtype.directlyAssignable t t)=some true) (q:L.tt t=some i) (C:σ c=some (.cells l)) (D:eh l 0 i.size i.agg=some a) (E:vX i σ (.ref b off) a=some σ') (F:K (.cx []) σ'):
 oT P ReflectliteValue.set [.agg [.lit f,.ref b off,.lit m],.agg [.lit f,.ref c 0,.lit n]] σ K:=λk O G d s=>by
 match G,d with
 |[v,x],d=>
 obtain⟨_,_,_,rfl,H,I,J⟩:=yE.1 (d.2 0 v _ rfl rfl);obtain⟨_,_,_,rfl,M,N,Q⟩:=yE.1 (d.2 1 x _ rfl rfl);rw[mr.1 H,Ep.1 I,mr.1 J,mr.1 M,Ep.1 N,mr.1 Q];refine ag (il _ (z b off) ?_);refine ag (il _ (A c) ?_);simp only[B,zA,LK];obtain⟨x,R,S⟩:=s.1 _ _ C rfl;cases S with
 | cells X e _ T U W=>
   have g:=sG L (tJ.own R T U W) (off:=0) q D (K:=λv u w=>u=k/\w=O/\V k v a) (Kp:=λ_ _ _=>False) am;refine ag (mK _ g (λv u w d=>?_) am);obtain⟨rfl,rfl,h⟩:=d;refine ag (il _ hd ?_);refine ag (yK L s (.ref b off) h q E λY j=>?_);exact an λ_=>⟨.cx [],_,.cx _ _ rfl am,j,F⟩
end
section
variable{P:Rg}(L:lz P){o:Oper}{ε:Env}{σ:af}{K:CU}{Kp:CU}
def wT{t n e:Nat}{parts i b l}(f:o.op=.build t parts)(g:L.tt t=some i)(m:i.kind=.array n e)(q:L.tt e=some b)(r:(qZ i.zero).cells.all AV.flat=true)
 (u:qt (λj=>some (j*b.size,b.size)) (qZ i.zero).cells (parts.toList.map λp=>(p.1,aA ε p.2))=some l) (v:K (.agg l) σ):bt P o ε σ K Kp:=
 bt.val (s:=λc=>Instr.build t (parts.map λ(i,x)=>(i,c x))) (λc=>by simp[execOp,f]) λk O c w y=>by
  obtain⟨z,h⟩:=AH    (parts:=parts) λp h=>w p.2 (by simp[f];grind)
  obtain⟨B,A,a⟩:=Cz _ _ i.zero.cells _ l z h (C7 r) u;refine ag (fA L g (ag (aY L g λd _ hd=>?_)));rw[yg hd m];refine ag (de L q ?_);rw[A];exact an (.here ⟨.refl k,.agg l,σ,.agg _ _ a.1 a.2.1,y,v⟩)
def sf{op}{t d:Nat}{x y vx vy r}(c:o.op=.binOp op t x y d)(e:∀k v,V k v (aA ε x)->v=vx)(f:∀k v,V k v (aA ε y)->v=vy)(g:bQ P (do eqGuard op t x y vx vy;binOp op t vx vy)=some r)(h:K (.lit r) σ):bt P o ε σ K Kp:=
 bt.val (s:=λa=>do eqGuard op t x y (a x) (a y);binOp op t (a x) (a y)) (λa=>by simp[execOp,c]) λk O a b i=>by
  have j:=e k _ (b x (by simp[c]));have l:=f k _ (b y (by simp[c]));simp only[j,l];exact il _ g (.here ⟨.refl k,_,σ,.lit _,i,h⟩)
def V.XU{k v}{t:Nat}(h:V k v (.pH t (.agg []))):v=.iface t (.agg #[]):=by
 obtain⟨u,rfl,a⟩:=KB.1 h;cases a with
 |agg c l b _=>grind
end
def L4(b:Nat)(l:We)(hole:ZB)(a a':AV):Prop:=a=a'\/∃off,a=.ref b off/\a'=.kp b l hole off
def L4.sound{k b l hole a a' v}(h:L4 b l hole a a')(d:∀off,V k (.pointer (some ⟨b,off,none⟩)) (.kp b l hole off))(c:V k v a):V k v a':=by
 rcases h with rfl|⟨off,rfl,rfl⟩
 . omega
 . cases c;grind
section
variable{P:Rg}{m:Mo}{φ n:Nat}{ro:Dm}{η:YA}{todo:AJ}{K:Ci}{ε env':Env}{σ:af}{D:List Fg}{rc:Rec}
def Rel.aag{k O b l hole bw l1 l2}(g:Rel k O σ)(n:∀off,V k (.pointer (some ⟨b,off,none⟩)) (.kp b l hole off))(h:σ bw=some (.cells l1))(s:l1.length=l2.length)(o:∀(i:Nat) a a',l1[i]?=some a->l2[i]?=some a'->L4 b l hole a a'):Rel k O (σ.set bw (.cells l2)):=⟨λc y d f=>by
 by_cases e:c=bw
 . subst e
   simp at d;subst d;obtain⟨z,p,j⟩:=g.1 c _ h ap;cases j with
   | cells q e _ t u r=>
     refine⟨_,p,.cells q e l2 ac (λi v a' w m=>?_) r⟩;have x:i<l1.length:=am
     exact(o i l1[i] a' ap m).sound n am
 . exact g.1 c y (by simpa[af.set,e]using d) f,λc y d f=>by
 by_cases e:c=bw
 . subst e
   simp at d;subst d;cases f
 . exact g.2 c y (by simpa[af.set,e]using d) f⟩
def Go.part  b   l   hole   f  {bw l1 l2}(hb:σ b=some (.cells l)) (o:∀i v,f i=some v->l[i]?=some (.lit v)) (p:∀i,f i=none↔i∉hole) (d:∀t,L4 b l hole (ε t) (env' t)) (q:bw≠b) (r:σ bw=some (.cells l1)) (s:l1.length=l2.length) (u:∀(i:Nat) a a',l1[i]?=some a->l2[i]?=some a'->L4 b l hole a a')
 (h:Go P m φ n ro todo ⟨env',(σ.set b (.part f)).set bw (.cells l2),D,rc⟩ K):Go P m φ n ro todo ⟨ε,σ,D,rc⟩ K:=by
 intro Q k O τ ξ ν cs w e x;refine T.Jb e.rel hb o p rfl λy z c j g=>?_
 exact h Q y z τ ξ ν cs w ⟨e.size,λt A=>(d t).sound j ((e.env t A).mono c),g.aag j (by grind [af.ah]) s u,e.ds.mono c,e.rc.mono c⟩ (x.mono c)
def aa.part  b   l   hole   f  {bw l1 l2}(hb:σ b=some (.cells l)) (j:∀i v,f i=some v->l[i]?=some (.lit v)) (k:∀i,f i=none↔i∉hole) (c:∀t,L4 b l hole (ε t) (env' t)) (d:bw≠b) (e:σ bw=some (.cells l1)) (o:l1.length=l2.length) (p:∀(i:Nat) a a',l1[i]?=some a->l2[i]?=some a'->L4 b l hole a a')
 (h:aa P m φ n ro η todo ⟨env',(σ.set b (.part f)).set bw (.cells l2),D,rc⟩ K):aa P m φ n ro η todo ⟨ε,σ,D,rc⟩ K:=λg=>Go.part b l hole f hb j k c d e o p (h g)
end
def aa.draw{P}(L:lz P){m φ n id ro η ο k ε σ D rc K}  p  (c:(η.find? λe=>e.id==id)=some ⟨id,p⟩)
 (h:aR P m ο n (Zx ⟨ε,σ,D,rc⟩ K) p ε σ (Zw P m φ n ro η k ⟨ε,σ,D,rc⟩ K)):aa P m φ n ro η (.code (.region id ο true)::k) ⟨ε,σ,D,rc⟩ K:=λa=>by
 have b:yV ο ⟨id,p⟩=true:=by
  simp  [oZ,vR,c]at a
  grind
 simp  [yV]at b;refine Go.draw L.mixed b.1 λl d f g=>?_
 exact fC.mono (λε σ h=>h (by simp  [oZ,IN]at a ⊢;grind)) _ _ _ (h _ _ _ b.2 l d f g am)
def aR.one{P m ο n Kp R i o p ε σ}(d:ο[i]?=some o)(b:Oper.ok n o=true)(e:o.guard=none)(f:∀c,o.op≠.defer c)(h:bt P o ε σ (λa σ'=>aR P m ο n Kp p (cG ε o.dst a) σ' R) Kp):aR P m ο n Kp (.one i p) ε σ R:=nf.one ⟨o,d,b,.inl ⟨cP e,.inr ⟨f,h⟩⟩⟩
def aR.take{P}(L:lz P){m}  mu  {ο n Kp R S lt p ε σ}(h:Hp L mu ο n lt σ (λa=>aR P m ο n Kp p a σ R) .mk S ε):aR P m ο n Kp (.take S lt p) ε σ R:=nf.take L mu (tT L h)
def aa.ac0{P φ n ro η s kk K A Fin c}(I:Nat->St->Prop)(b:I 0 s)
 (d:∀r k s,k+(r+1)=A.n->I k s->(∀s',I (k+1) s'->aa P (vN P A Fin r) φ n ro η (.inLoop c::kk) s' K)->aa P (vN P A Fin (r+1)) φ n ro η (.code c::.inLoop c::kk) s K)
 (e:∀s,I A.n s->aa P (vN P A Fin 0) φ n ro η (.code c::.inLoop c::kk) s K):aa P (vN P A Fin A.n) φ n ro η (.code (.loop c)::kk) s K:=λa=>by
 have f:vR η c=true:=by
  simp  [oZ,vR]at a
  grind
 have key:∀r k s,k+r=A.n->I k s->aa P (vN P A Fin r) φ n ro η (.code c::.inLoop c::kk) s K:=λr=>by
  induction r with
  |zero=>grind
  |succ r g=>grind [aa.again]
 exact aa.yD (key A.n 0 s ac b) a
def V.cp1{k v a a'}(f:a.cells=[a])(g:a'.cells=[a'])(h:∀u,V k u a->V k u a')(d:V k v (.cp a 0)):V k v (.cp a' 0):=by
 cases d with
 | cp b base off N E v c e i l m=>
   refine .cp b base 0 N E a' c e am am (λj x n=>?_)
   grind
def aa.ac1{P φ g ro s K m todo η}(d:m.solo=true){n fb fo gb mb GI}  val  {nm ng} (C:lH P ng) (X:mP P ng) (r:kX P nm) (t:kY P nm) (F:sz P nm) (u:n<=900) (v:fb≠gb) (w:fb≠mb) (x:gb≠mb){a e}
 (y:s.σ gb=some (.cells [.lit (.int .u64 0),.lit (.int .u32 0)])) (z:s.σ fb=some (.part e)) (i:e fo=some (.int .i32 0)) (k:e (fo+1)=some (.int .u32 0)) (l:∀j,j<n->e (fo+2+j)≠none) (B:s.σ mb=some a) (o:a.gone=false) (p:GI a) (q:s.rc=.no)
 (h:∀  A ,(A.n=n/\A.fb=fb/\A.fo=fo/\A.gb=gb/\A.mb=mb/\A.nm=nm/\A.ng=ng/\A.dir=true/\A.GI=GI/\A.val=val)->∀  Fin   kd   c   f ,yd P m φ g ro K kd c f Fin ->
   aa P (vN P A Fin A.n) φ g ro η todo {s with σ:=((s.σ.del gb).del mb).set fb .mC,rc:=.told kd c f} (λ_ _=>False)):aa P m φ g ro η todo s K:=
 aa.acZ d ⟨n,true,fb+gb+mb+1,fb,fo,gb,mb,GI,λ_=>.eT,val,nm,ng,u,ac,ac,ac,v,w,x⟩ rfl C X r t F y z i k l B o p q λb hb Fin kd c f D=>h _ ⟨rfl,rfl,rfl,rfl,rfl,rfl,rfl,lS.Ec _ _ _,rfl,rfl⟩ Fin kd c f D
def Er(a:Nat):Option TypeDesc->Bool
 |some (.struct fs)=>(match fs.toList with|[f,g]=>(f.name !=  "_" && g.name !=  "_") && (f.type==a && g.type==a) && (f.offset==0 && g.offset==1)|_=>false)
 |_=>false
def Jd.of{P mt b e c kd}(h:P.underlying mt=some (.map b e))(a:Er c (P.underlying b)=true)(i:P.underlying c=some (.int kd))(j:P.stoodInHeld b=false):Jd P mt b e c kd:=by
 refine⟨h,?_,i,j⟩;generalize P.underlying b=d at a;unfold Er at a;split at a
 . next fs=>
   split at a
   . next f g k=>
     simp  [bne_iff_ne]at a;refine⟨f,g,?_,a.1.1,a.1.2,a.2⟩;congr 2
     grind
   grind
 grind
end
open Go.Conc Go.Extern
section
variable{P:Rg}{σ:af}{K:CU}{b o:Nat}{a:AV}{l:We}{n n':Int}
def age(h:oR b o a)(f:σ b=some (.cells l))(i:l[o]?=some (.lit (.int .u32 n)))(s:K (.lit (.int .u32 n)) σ):oT P (Atomic.loadT (.int .u32)) [a] σ K:=λk O t j m=>by
 obtain⟨v,rfl,g⟩:=j.one;obtain rfl:=h _ _ g;obtain⟨c,e,p,w,q,x⟩:=m.CH f;have d:o<c.size:=am
 have r:c[o]?=some (.int .u32 n):=by rw[Ie d];have:=q o c[o] _ (Ie d) i;generalize c[o]=u at this;cases this;rfl
 refine ag  ⟨rfl,_,⟨rfl,.inr ⟨c,e,_,p,r⟩⟩,an ?_⟩
 grind [an]
def aeD(f:oR b o a)(g:σ b=some (.cells l))(j:o<l.length)(m:K (.cx []) (σ.set b (.cells (l.set o (.lit (.int .u32 n)))))):oT P Atomic.storeT [a,.lit (.int .u32 n)] σ K:=λk O p d h=>by
 match p,d with
 | [v, x],d=>
   obtain rfl:=f _ _ (d.2 0 v a rfl rfl);obtain rfl:=mr.1 (d.2 1 x _ rfl rfl);obtain⟨c,e,q,r,t,u⟩:=h.CH g;refine ag (s:=store ⟨b,o,none⟩ _ .atomic) ⟨rfl,rfl,rfl,.inl ⟨c,e,q,am,an (an λ_=>⟨_,_,.cx _ _ rfl am,h.set (.cells _ _ _ am (λi v a d f=>?_) (λi v d=>?_)),m⟩)⟩⟩
   . by_cases e:i=o
     . subst e
       rw[Ik aq]at d;rw[KC j]at f;cases d;cases f;exact .lit _
     grind
   . by_cases e:i=o
     . subst e
       rw[Ik aq]at d;cases d;rfl
     grind
end

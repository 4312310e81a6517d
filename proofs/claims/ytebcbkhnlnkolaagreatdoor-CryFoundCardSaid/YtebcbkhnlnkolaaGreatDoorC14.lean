import Derived.Test.YtebcbkhnlnkolaaGreatDoorC13
set_option linter.all false
namespace Go.bU
section
open Go.Conc
structure R3(P:adY)(t ft:Nat):Prop where
 hk:P.underlying t=some (.array 4 ft)
 hf:P.underlying ft=some (.int .i64)
 hg:P.eqGuardType P.depth t=false
section
variable{P:adY}(L:jO P){k:ar}{O:ak}{Kp:ads}{t ft:Nat}
variable(M:R3 P t ft){i:TI}(ht:L.tt ft=some i)(ha:i.agg=false)(hz:i.size=1)
include M
theorem QV{K a b}(h:K (a==b) k O):dY P (Op.equalIn 9999 ft (.int .i64 a) (.int .i64 b)) k O K Kp:=by show dY P (Op.equalIn (9998+1) ft _ _) k O K Kp;rw[Op.equalIn];refine af (cQ M.hf ?_);exact ag h
include ht ha
theorem xL{β K x y n a b}{f:Bool->Sem β}(c:x[n]?=some (.int .i64 a))(d:y[n]?=some (.int .i64 b))(h:dY P (f (a==b)) k O K Kp):dY P (do let p <-part ft x n;let q <-part ft y n;let r <-Op.equalIn 9999 ft p q;f r) k O K Kp:=af (mq L ht ha c (af (mq L ht ha d (af (QV M h)))))
include hz
theorem Hf{K a b c d a' b' c' d'}(h:K (a==a' && (b==b' && (c==c' && d==d'))) k O):dY P (Op.equal t (.agg #[.int .i64 a,.int .i64 b,.int .i64 c,.int .i64 d]) (.agg #[.int .i64 a',.int .i64 b',.int .i64 c',.int .i64 d'])) k O K Kp:=by
 show dY P (Op.equalIn (9998+1+1) t _ _) k O K Kp;rw[Op.equalIn];refine af (cQ M.hk ?_);refine af (bT L ht ?_);rw[hz];simp only[Std.Legacy.Range.forIn_eq_forIn_range',Std.Legacy.Range.size,List.range',Nat.reduceAdd,Nat.reduceSub,Nat.reduceDiv,acB,acK];refine af (af (xL L M ht ha rfl rfl ?_));cases e:(a==a')with
 |false=>rw[e]at h;exact ag (ag (ag h))
 |true=>
 rw[e]at h;refine ag (af (xL L M ht ha rfl rfl ?_));cases f:(b==b')with
 |false=>rw[f]at h;exact ag (ag (ag h))
 |true=>
 rw[f]at h;refine ag (af (xL L M ht ha rfl rfl ?_));cases g:(c==c')with
 |false=>rw[g]at h;exact ag (ag (ag h))
 |true=>
 rw[g]at h;refine ag (af (xL L M ht ha rfl rfl ?_));cases i:(d==d')with
 |false=>rw[i]at h;exact ag (ag (ag h))
 |true=>rw[i]at h;exact ag (ag (ag h))
omit M ht ha hz in
theorem Fp{c x y z w}(h:V k c (.agg [.lit (.int .i64 x),.lit (.int .i64 y),.lit (.int .i64 z),.lit (.int .i64 w)])):c=.agg #[.int .i64 x,.int .i64 y,.int .i64 z,.int .i64 w]:=by
 cases h with
 | agg c l b a=>
   obtain⟨d⟩:=c
   match d,b,a with
   |[p,q,r,s],_,a=>have e:=a 0 p _ rfl rfl;have f:=a 1 q _ rfl rfl;have g:=a 2 r _ rfl rfl;have i:=a 3 s _ rfl rfl;cases e;cases f;cases g;cases i;rfl
theorem Hg{o env σ K Kp}{i:Nat}{x y a b c d a' b' c' d'}(j:o.op=.binOp .neq t x y i)(l:an env x=.agg [.lit (.int .i64 a),.lit (.int .i64 b),.lit (.int .i64 c),.lit (.int .i64 d)])(m:an env y=.agg [.lit (.int .i64 a'),.lit (.int .i64 b'),.lit (.int .i64 c'),.lit (.int .i64 d')])
 (n:K (.lit (.bool (!(a==a' && (b==b' && (c==c' && d==d')))))) σ):aQ P o env σ K Kp:=
 aQ.val (s:=λe=>do eqGuard .neq t x y (e x) (e y);binOp .neq t (e x) (e y)) (λe=>by simp[execOp,j]) λk O e f p=>by
  have g:=f x (by simp_all);have h:=f y (by simp_all);rw[l]at g;rw[m]at h;rw[Fp g,Fp h];refine af (?_:dY P (eqGuard .neq t x y _ _) k O _ _);unfold eqGuard;simp only[Bool.not_true,aap,aat];refine af (bH (af ?_));refine bH ?_;rw[M.hg];refine ag ?_;exact af (s:=Op.equal t _ _) (Hf L M ht ha hz (ag (.here ⟨.refl k,_,σ,.lit _,p,n⟩)))
end
section
variable{P:adY}{m:Mo}{fid n:Nat}{ro:adJ}{hold:adH}{s:St}{K:adz}{k:adN}
def aa.op{ops i rest o}(f:ops[i]?=some o)(g:cC ops n s.env o)(b:Oper.ok n o=true)(d:∀c,o.op≠.defer c)
 (h:aQ P o s.env s.σ (λa σ'=>aa P m fid n ro hold (.inRegion ops rest::k) {s with env:=bp s.env o.dst a,σ:=σ'} K) (λa σ'=>K (.panic a) {s with σ:=σ'})):
 aa P m fid n ro hold (.inRegion ops (i::rest)::k) s K:=λe=>Go.op f g b d (h.mono λa σ' q=>q (by simpa[kz,lS]using e))
end
def fK{α}(P:adY):Sem α->Option α
 |.pure a=>some a
 |.program g=>fK P (g P)
 |_=>none
def pW{α P k O K Kp a}:∀(s:Sem α),fK P s=some a->K a k O->dY P s k O K Kp
 |.pure b,h,c=>by simp only[fK,kn]at h;subst h;exact c
 |.program g,h,c=>pW (g P) h c
 |.load ..,h,_=>by simp[fK]at h
 |.store ..,h,_=>by simp[fK]at h
 |.new ..,h,_=>by simp[fK]at h
 |.shape ..,h,_=>by simp[fK]at h
 |.freeze ..,h,_=>by simp[fK]at h
 |.frozen ..,h,_=>by simp[fK]at h
 |.getObj ..,h,_=>by simp[fK]at h
 |.setObj ..,h,_=>by simp[fK]at h
 |.choose ..,h,_=>by simp[fK]at h
 |.sys ..,h,_=>by simp[fK]at h
 |.mark ..,h,_=>by simp[fK]at h
 |.halt ..,h,_=>by simp[fK]at h
def wI(P:adY)(e:adE->Sem Value)(args:adV)(σ:ab)(K:adB):Prop:=∀k O (d:List Value),Vs k d args->Rel k O σ->dY P (e d.toArray) k O (λv c f=>k.Le c->∃a b,V c v a/\Rel c f b/\K a b) (λ_ _ _=>False)
section
variable{P:adY}(L:jO P){m:Mo}{f:FuncId}{fn:Func}
def wJ{e k O b K Kp}(c:P.funcs[f]?=some fn)(hb:fn.body=none)(a:(fn.name==  "runtime.NumGoroutine")=false)(d:Extern.findNext fn=none)(g:Extern.find fn=some e)
 (h:dY P (e b) k O (λv k' O'=>K (.value v) k' O') Kp):dY P (callFunc f b) k O K Kp:=by
 unfold callFunc;refine af (bH ?_);rw[c];simp only[a,hb,Option.isNone_none,aap,aat,aay];refine af (s:=mark (.extern f)) ⟨rfl,?_⟩;simp only[d,g];exact af (jU _ h (λ_ _ _ h=>ag h) (λ_ _ _ h=>h))
def cG.ext{e args σ n}(o:P.funcs[f]?=some fn)(hb:fn.body=none)(d:(fn.name==  "runtime.NumGoroutine")=false)(p:Extern.findNext fn=none)(q:Extern.find fn=some e)
 (h:wI P e args σ λa σ'=>n (.val a) σ'):cG P m (.fn (.func f) [] []) args σ n:=λQ k O cf b fr cs g c r i j l w x=>by
 cases g with
 | fn _ s t y z A B C D=>
   refine eE ?_;simp only[Deferred.ofValue];refine af (ag ?_);simp only[Go.invoke];obtain rfl:s=#[]:=by simp_all
   obtain rfl:t=#[]:=by simp_all
   refine wJ o hb d p q ?_;rw[show(#[]++b.toArray++#[]:adE)=b.toArray by simp];refine jU _ (h k O b c r) (λv E F G u=>?_) (λ_ _ _ h=>h.elim)
   grind
variable{fid n:Nat}{ro:adJ}{hold:adH}{s:St}{K:adz}{k:adN}
def aa.QW{ops i is o recv name args u}{t f:Nat}{a a' fn e}(I:ops[i]?=some o)(y:o.op=.call ⟨.invoke recv name,args,u⟩)(M:cC ops n s.env o)(z:Oper.ok n o=true)
 (N:an s.env recv=.m5 t a) (R:pF P t name f a a') (S:P.funcs[f]?=some fn) (hb:fn.body=none) (A:(fn.name==  "runtime.NumGoroutine")=false) (U:Extern.findNext fn=none) (W:Extern.find fn=some e)
 (h:wI P e (a'::args.toList.map (an s.env)) s.σ (λx σ'=>aa P m fid n ro hold (.inRegion ops is::k) {s with env:=bp s.env o.dst x,σ:=σ'} K)):
 aa P m fid n ro hold (.inRegion ops (i::is)::k) s K:=λB Q kk O tmps defs kind cs X p Y=>by
 refine T.pv (λw=>eF I (iL p.size p.env M) (.inr λc e=>by simp_all) w) (eE ?_)
 have b:∀x∈o.op.operands,V kk (Frame.eval ⟨fid,tmps,.inRegion ops (i::is)::k,defs,.run,kind,ro⟩ x) (an s.env x):=λx Z=>by
  refine V.eval p.env p.size x ?_;simp only[Oper.ok,za,abl]at z
  grind
 have q:=b recv (by simp_all);rw[N]at q;have d:=Vs.ofArray (k:=kk) (ρ:=Frame.eval ⟨fid,tmps,.inRegion ops (i::is)::k,defs,.run,kind,ro⟩) (env:=s.env) (xs:=args) (λx Z=>b x (by simp_all));generalize hq:Frame.eval _ recv=cf at q;cases q with
 | m5 _ v _ C=>
   simp only[execOp,y,resolve,hq];refine af (ag ?_);rw[sn];unfold callMethod;simp only;refine af (bH ?_);refine af (R kk O v _ _ C λr D=>?_);refine wJ S hb A U W ?_;have e:#[r]++args.map (Frame.eval ⟨fid,tmps,.inRegion ops (i::is)::k,defs,.run,kind,ro⟩)=(r::(args.map (Frame.eval ⟨fid,tmps,.inRegion ops (i::is)::k,defs,.run,kind,ro⟩)).toList).toArray:=by simp
   rw[e];refine jU _ (h kk O _ (.cons D ⟨by grind,λj v a q ha=>d.2 j v a (by grind) ha⟩) p.rel) (λcv J L E g=>?_) (λ_ _ _ h=>h.elim);obtain⟨av,σ',F,H,E⟩:=E g;obtain⟨l,e1,e2⟩:=p.put (fid:=fid) (ro:=ro) (rest:=is) (kk:=k) g I F H;show T P m Q J L (G (Frame.finish ⟨fid,tmps,.inRegion ops (i::is)::k,defs,.run,kind,ro⟩ cv) (gM s.rc cs));rw[e1];exact E (by simpa[kz,lS]using B) Q J L l defs kind cs X e2 (Y.mono g)
end
def BD{k v u}:V k v (.lit u)↔v=u:=⟨λh=>by cases h;rfl,λh=>h ▸ .lit v⟩
def V1{k v b off}:V k v (.ref b off)↔v=.pointer (some ⟨b,off,none⟩):=⟨λh=>by cases h;rfl,λh=>h ▸ .ref b off⟩
def R4{k v t a}:V k v (.m5 t a)↔∃u,v=.iface t u/\V k u a:=⟨λh=>by cases h with|m5 _ u _ h=>simp_all,λ⟨u,e,h⟩=>e ▸ .m5 t u a h⟩
def Hh{k v a}:V k v (.agg [a])↔∃x,v=.agg #[x]/\V k x a:=by
 constructor
 . intro h
   cases h with
   | agg c _ b d=>
     obtain⟨c⟩:=c
     match c,b with
     |[x],_=>exact⟨x,rfl,d 0 x a rfl rfl⟩
 . rintro⟨x,rfl,h⟩
   refine .agg _ _ rfl λi v e f g=>?_
   grind
section
open Go.Extern
variable{P:adY}(L:jO P){σ:ab}{K:adB}
def wI.pure{e args v a}(c:∀k b,Vs k b args->fK P (e b.toArray)=some v)(ha:∀k,V k v a)(d:K a σ):wI P e args σ K:=λk O b f g=>by exact pW _ (c k b f) λ_=>⟨a,σ,ha k,g,d⟩
end
section
variable{P:adY}(L:jO P){o:Oper}{env:Env}{σ:ab}{K:adB}{Kp:adB}
def qY{t n e:Nat}{parts i b l}(c:o.op=.build t parts)(ht:L.tt t=some i)(g:i.kind=.array n e)(h:L.tt e=some b)(hz:(mD i.zero).cells.all AV.flat=true)
 (m:lL (λj=>some (j*b.size,b.size)) (mD i.zero).cells (parts.toList.map λp=>(p.1,an env p.2))=some l) (q:K (.agg l) σ):aQ P o env σ K Kp:=
 aQ.val (s:=λρ=>Instr.build t (parts.map λ(i,x)=>(i,ρ x))) (λρ=>by simp[execOp,c]) λk O ρ r u=>by
  obtain⟨v,f⟩:=vd (k:=k) (ρ:=ρ) (env:=env) (parts:=parts) λp f=>r p.2 (by simp[c,Op.operands];grind)
  obtain⟨y,w,a⟩:=xx _ _ i.zero.cells _ l v f (yt hz) m;unfold Instr.build;refine af (dg L ht (af (aH L ht λd _ hd=>?_)));rw[px hd g];dsimp only;refine af (bT L h ?_);rw[w];exact ag (.here ⟨.refl k,.agg l,σ,.agg _ _ a.1 a.2.1,u,q⟩)
def pX{op}{t d:Nat}{x y vx vy r}(c:o.op=.binOp op t x y d)(e:∀k v,V k v (an env x)->v=vx)(f:∀k v,V k v (an env y)->v=vy)(g:fK P (do eqGuard op t x y vx vy;binOp op t vx vy)=some r)(h:K (.lit r) σ):aQ P o env σ K Kp:=
 aQ.val (s:=λa=>do eqGuard op t x y (a x) (a y);binOp op t (a x) (a y)) (λa=>by simp[execOp,c]) λk O a b i=>by
  have j:=e k _ (b x (by simp[c,Op.operands]));have l:=f k _ (b y (by simp[c,Op.operands]));simp only[j,l];exact pW _ g (.here ⟨.refl k,_,σ,.lit _,i,h⟩)
def V.QX{k v}{t:Nat}(h:V k v (.m5 t (.agg []))):v=.iface t (.agg #[]):=by
 obtain⟨u,rfl,a⟩:=R4.1 h;cases a with
 |agg c l b _=>simp_all
end
def Tb(b:Nat)(l:adV)(hole:adR)(a a':AV):Prop:=a=a'\/∃off,a=.ref b off/\a'=.kp b l hole off
def Tb.sound{k b l hole a a' v}(h:Tb b l hole a a')(d:∀off,V k (.pointer (some ⟨b,off,none⟩)) (.kp b l hole off))(c:V k v a):V k v a':=by
 rcases h with rfl|⟨off,rfl,rfl⟩
 . exact c
 . cases c;exact d off
section
variable{P:adY}{m:Mo}{fid n:Nat}{ro:adJ}{hold:adH}{todo:adN}{K:adz}{env env':Env}{σ:ab}{D:List Aq}{rc:Rec}
def Rel.Tc{k O b l hole bw l1 l2}(g:Rel k O σ)(o:∀off,V k (.pointer (some ⟨b,off,none⟩)) (.kp b l hole off))(h:σ bw=some (.cells l1))(u:l1.length=l2.length)(p:∀(i:Nat) a a',l1[i]?=some a->l2[i]?=some a'->Tb b l hole a a'):Rel k O (σ.set bw (.cells l2)):=⟨λc y d f=>by
 by_cases e:c=bw
 . subst e
   simp only[ab.set,aay,kn]at d;subst d;obtain⟨z,hz,j⟩:=g.1 c _ h (by simp);cases j with
   | cells q e _ w r s=>
     refine⟨_,hz,.cells q e l2 (by omega) (λi v a' t m=>?_) s⟩;have n:i<l1.length:=by grind
     exact(p i l1[i] a' (by simp[n]) m).sound o (r i v _ t (by simp[n]))
 . exact g.1 c y (by simpa[ab.set,e]using d) f,λc y d f=>by
 by_cases e:c=bw
 . subst e
   simp only[ab.set,aay,kn]at d;subst d;cases f
 . exact g.2 c y (by simpa[ab.set,e]using d) f⟩
def Go.part  b   l   hole   f  {bw l1 l2}(hb:σ b=some (.cells l)) (q:∀i v,f i=some v->l[i]?=some (.lit v)) (r:∀i,f i=none↔i∉hole) (d:∀t,Tb b l hole (env t) (env' t)) (j:bw≠b) (o:σ bw=some (.cells l1)) (s:l1.length=l2.length) (u:∀(i:Nat) a a',l1[i]?=some a->l2[i]?=some a'->Tb b l hole a a')
 (h:Go P m fid n ro todo ⟨env',(σ.set b (.part f)).set bw (.cells l2),D,rc⟩ K):Go P m fid n ro todo ⟨env,σ,D,rc⟩ K:=by
 intro Q k O tmps defs kind cs w e x;refine T.RB e.rel hb q r rfl λy z c p g=>?_
 exact h Q y z tmps defs kind cs w ⟨e.size,λt ht=>(d t).sound p ((e.env t ht).mono c),g.Tc p (by rw[ab.ah _ _ j];exact o) s u,e.ds.mono c,e.rc.mono c⟩ (x.mono c)
def aa.part  b   l   hole   f  {bw l1 l2}(hb:σ b=some (.cells l)) (j:∀i v,f i=some v->l[i]?=some (.lit v)) (k:∀i,f i=none↔i∉hole) (c:∀t,Tb b l hole (env t) (env' t)) (d:bw≠b) (e:σ bw=some (.cells l1)) (o:l1.length=l2.length) (p:∀(i:Nat) a a',l1[i]?=some a->l2[i]?=some a'->Tb b l hole a a')
 (h:aa P m fid n ro hold todo ⟨env',(σ.set b (.part f)).set bw (.cells l2),D,rc⟩ K):aa P m fid n ro hold todo ⟨env,σ,D,rc⟩ K:=λg=>Go.part b l hole f hb j k c d e o p (h g)
end
def aa.draw{P}(L:jO P){m fid n id ro hold ops k env σ D rc K}  p  (c:(hold.find? λe=>e.id==id)=some ⟨id,p⟩)
 (h:aP P m ops n (Ss ⟨env,σ,D,rc⟩ K) p env σ (Sr P m fid n ro hold k ⟨env,σ,D,rc⟩ K)):aa P m fid n ro hold (.code (.region id ops true)::k) ⟨env,σ,D,rc⟩ K:=λa=>by
 have b:tN ops ⟨id,p⟩=true:=by simp only[kz,abF,lS,c,za]at a;exact a.1
 simp only[tN,za]at b;refine Go.draw L.mixed b.1 λl d f g=>?_
 exact di.mono (λenv σ h=>h (by simp only[kz,abF,za]at a ⊢;exact a.2)) _ _ _ (h _ _ _ b.2 l d f g (λ_ _ _ h=>by cases h))
def aP.one{P m ops n Kp R i o p env σ}(d:ops[i]?=some o)(b:Oper.ok n o=true)(e:o.guard=none)(f:∀c,o.op≠.defer c)(h:aQ P o env σ (λa σ'=>aP P m ops n Kp p (bp env o.dst a) σ' R) Kp):aP P m ops n Kp (.one i p) env σ R:=jy.one ⟨o,d,b,.inl ⟨cD e,.inr ⟨f,h⟩⟩⟩
def aP.take{P}(L:jO P){m}  mu  {ops n Kp R S lt p env σ}(h:CD L mu ops n lt σ (λa=>aP P m ops n Kp p a σ R) .mk S env):aP P m ops n Kp (.take S lt p) env σ R:=jy.take L mu (oI L h)
def aa.V2{P fid n ro hold s kk K A Fin c}(I:Nat->St->Prop)(d:I 0 s)
 (e:∀r k s,k+(r+1)=A.n->I k s->(∀s',I (k+1) s'->aa P (qp P A Fin r) fid n ro hold (.inLoop c::kk) s' K)->aa P (qp P A Fin (r+1)) fid n ro hold (.code c::.inLoop c::kk) s K)
 (j:∀s,I A.n s->aa P (qp P A Fin 0) fid n ro hold (.code c::.inLoop c::kk) s K):aa P (qp P A Fin A.n) fid n ro hold (.code (.loop c)::kk) s K:=λa=>by
 have f:lS hold c=true:=by simp only[kz,abF,lS,za]at a;exact a.1
 have key:∀r k s,k+r=A.n->I k s->aa P (qp P A Fin r) fid n ro hold (.code c::.inLoop c::kk) s K:=λr=>by
  induction r with
  |zero=>simp_all
  |succ r g=>exact λk s h i=>e r k s h i λs' b=>aa.again f (g (k+1) s' (by omega) b)
 exact aa.vF (key A.n 0 s (by omega) d) a
def V.cp1{k v a a'}(e:a.cells=[a])(m:a'.cells=[a'])(h:∀u,V k u a->V k u a')(f:V k v (.cp a 0)):V k v (.cp a' 0):=by
 cases f with
 | cp b base off N E v c g i d l=>
   rw[e]at i d l;refine .cp b base 0 N E a' c g (by simp_all) (λj n=>d j (by simp_all)) (λj x ha=>?_)
   grind
def aa.V3{P fid g ro s K m todo hold}(d:m.solo=true){n fb fo gb mb GI}  val  {nm ng} (C:iC P ng) (X:jg P ng) (r:ij P nm) (t:ik P nm) (F:nj P nm) (u:n<=900) (v:fb≠gb) (w:fb≠mb) (x:gb≠mb){a e}
 (y:s.σ gb=some (.cells [.lit (.int .u64 0),.lit (.int .u32 0)])) (z:s.σ fb=some (.part e)) (i:e fo=some (.int .i32 0)) (k:e (fo+1)=some (.int .u32 0)) (l:∀j,j<n->e (fo+2+j)≠none) (B:s.σ mb=some a) (o:a.gone=false) (p:GI a) (q:s.rc=.no)
 (h:∀  A ,(A.n=n/\A.fb=fb/\A.fo=fo/\A.gb=gb/\A.mb=mb/\A.nm=nm/\A.ng=ng/\A.dir=true/\A.GI=GI/\A.val=val)->∀  Fin   kd   c   f ,sE P m fid g ro K kd c f Fin ->
   aa P (qp P A Fin A.n) fid g ro hold todo {s with σ:=((s.σ.del gb).del mb).set fb .iK,rc:=.told kd c f} (λ_ _=>False)):aa P m fid g ro hold todo s K:=
 aa.V0 d ⟨n,true,fb+gb+mb+1,fb,fo,gb,mb,GI,λ_=>.cR,val,nm,ng,u,by omega,by omega,by omega,v,w,x⟩ rfl C X r t F y z i k l B o p q λb hb Fin kd c f D=>h _ ⟨rfl,rfl,rfl,rfl,rfl,rfl,rfl,iE.zn _ _ _,rfl,rfl⟩ Fin kd c f D
def zC(ft:Nat):Option TypeDesc->Bool
 |some (.struct fs)=>(match fs.toList with|[f,g]=>(f.name !=  "_" && g.name !=  "_") && (f.type==ft && g.type==ft) && (f.offset==0 && g.offset==1)|_=>false)
 |_=>false
def El.of{P mt b c ft kd}(e:P.underlying mt=some (.map b c))(a:zC ft (P.underlying b)=true)(h:P.underlying ft=some (.int kd))(i:P.stoodInHeld b=false):El P mt b c ft kd:=by
 refine⟨e,?_,h,i⟩;generalize P.underlying b=d at a;unfold zC at a;split at a
 . next fs=>
   split at a
   . next f g j=>
     simp only[za,bne_iff_ne,ach]at a;refine⟨f,g,?_,a.1.1,a.1.2,a.2⟩;congr 2
     grind
   . cases a
 . cases a
end
section
open Go.Conc Go.Extern
section
variable{P:adY}{σ:ab}{K:adB}{b o:Nat}{a:AV}{l:adV}{n n':Int}
def Hi(ha:kj b o a)(f:σ b=some (.cells l))(i:l[o]?=some (.lit (.int .u32 n)))(j:K (.lit (.int .u32 n)) σ):wI P (Atomic.loadT (.int .u32)) [a] σ K:=λk O t m h=>by
 obtain⟨v,rfl,g⟩:=m.one;obtain rfl:=ha _ _ g;obtain⟨c,e,p,w,q,x⟩:=h.xK f;have d:o<c.size:=by grind
 have r:c[o]?=some (.int .u32 n):=by rw[abo d];have:=q o c[o] _ (abo d) i;generalize c[o]=u at this;cases this;rfl
 show dY P (Atomic.loadT (.int .u32) #[.pointer (some ⟨b,o,none⟩)]) k O _ _;unfold Atomic.loadT;refine af (ag ?_);unfold Atomic.read;refine af (s:=load ⟨b,o,none⟩ .atomic) ⟨rfl,_,⟨rfl,.inr ⟨c,e,_,p,r⟩⟩,ag ?_⟩;simp only[aay];exact ag λ_=>⟨_,σ,.lit _,h,j⟩
def Fq(ha:kj b o a)(f:σ b=some (.cells l))(j:o<l.length)(m:K (.cI []) (σ.set b (.cells (l.set o (.lit (.int .u32 n)))))):wI P Atomic.storeT [a,.lit (.int .u32 n)] σ K:=λk O p d g=>by
 match p,d with
 | [v, x],d=>
   obtain rfl:=ha _ _ (d.2 0 v a rfl rfl);obtain rfl:=BD.1 (d.2 1 x _ rfl rfl);obtain⟨c,e,q,r,t,u⟩:=g.xK f;show dY P (Atomic.storeT #[.pointer (some ⟨b,o,none⟩),.int .u32 n]) k O _ _;unfold Atomic.storeT;refine af (ag ?_);refine af (s:=store ⟨b,o,none⟩ (.int .u32 n) .atomic) ⟨rfl,rfl,rfl,.inl ⟨c,e,q,by simp_all,ag (ag λ_=>⟨_,_,.cI _ _ rfl (λi v a h=>by simp at h),g.set (.cells _ _ _ (by simp_all) (λi v a d ha=>?_) (λi v d=>?_)),m⟩)⟩⟩
   . by_cases e:i=o
     . subst e
       rw[Rp (by simp_all)]at d;rw[abT j]at ha;cases d;cases ha;exact .lit _
     grind
   . by_cases e:i=o
     . subst e
       rw[Rp (by simp_all)]at d;cases d;rfl
     grind
end
end
open Go.Conc
section
variable{P:adY}{m:Mo}{fid n:Nat}{ro:adJ}{D:List Aq}{rc:Rec}{K:adz}{k:adN}{ops:adI}{Kp:adB}
def jZ.V4{i env σ R b}(h:jZ P m ops n Kp i env σ R)(c:∀env σ,R env σ->b env σ):jZ P m ops n Kp i env σ b:=by obtain⟨o,d,e,f⟩:=h;exact⟨o,d,e,f.imp (λh=>⟨h.1,h.2.mono λa g=>c _ _⟩) (λh=>⟨h.1,c _ _ h.2⟩)⟩
def di.inv{Inv:adR->adA}{R}
 (b:∀done i env σ,(∀j,jX ops j i=true->j∈done)->i∉done->i<ops.size->Inv done env σ->jZ P m ops n Kp i env σ (λenv σ=>Inv (i::done) env σ))
 (c:∀done env σ,(∀i,i<ops.size->i∈done)->Inv done env σ->R env σ):
 ∀  l done   env   σ ,jY ops done l->(∀i∈l,i<ops.size)->(∀i,i<ops.size->i∈l\/i∈done)->Inv done env σ->di P m ops n Kp l env σ R
 |[],done,env,σ,_,_,d,f=>c done env σ (λi k=>(d i k).resolve_left (by simp)) f
 | i::l,done,env,σ,⟨p,q,r⟩,e,d,f=>by
   obtain⟨o,s,t,u⟩:=b done i env σ p q (e i (by simp)) f;have next:∀env σ,Inv (i::done) env σ->di P m ops n Kp l env σ R:=λenv σ h=>di.inv b c l (i::done) env σ r (λj g=>e j (by simp[g])) (λj g=>by grind) h
   exact⟨o,s,t,u.imp (λh=>⟨h.1,h.2.mono λa v=>next _ _⟩) (λh=>⟨h.1,next _ _ h.2⟩)⟩
def Any.inv{Inv:adR->adA}{R env σ}(e:Inv [] env σ)
 (a:∀done i env σ,(∀j,jX ops j i=true->j∈done)->i∉done->i<ops.size->Inv done env σ->jZ P m ops n Kp i env σ (λenv σ=>Inv (i::done) env σ))
 (b:∀done env σ,(∀i,i<ops.size->i∈done)->Inv done env σ->R env σ):Any P m ops n Kp [] (List.range ops.size) env σ R:=
 λl ha _ d=>di.inv a b l [] env σ ha (λi c=>LK.1 ((d i).1 c)) (λi c=>.inl ((d i).2 (LK.2 c))) e
def bu(L:jO P){mu i env σ R}(h:iT L m mu ops n Kp (.one i .done) env σ R):jZ P m ops n Kp i env σ R:=by
 have:=vg L (p:=.done) (λh=>.done h) h;exact this.V4 λenv σ h=>h [] [] [] rfl [] trivial adb (by simp) (by simp)
def aa.QY{hold id env σ}(Inv:adR->adA)(d:P.follows .mixedOrders=true)(e:rL ops=true)(f:Inv [] env σ)
 (a:∀done i env σ,(∀j,jX ops j i=true->j∈done)->i∉done->i<ops.size->Inv done env σ->jZ P m ops n (λv σ=>∀env,K (.panic v) ⟨env,σ,D,rc⟩) i env σ (λenv σ=>Inv (i::done) env σ))
 (b:∀done env σ,(∀i,i<ops.size->i∈done)->Inv done env σ->aa P m fid n ro hold k ⟨env,σ,D,rc⟩ K):
 aa P m fid n ro hold (.code (.region id ops true)::k) ⟨env,σ,D,rc⟩ K:=λc=>
 Go.draw d e (Any.inv f a λdone env σ ha g=>b done env σ ha g (by simp only[kz,abF,za]at c ⊢;exact c.2))
end

import Derived.Test.YtebcbkhnlnkolaaGreatDoorC13
set_option linter.all false
namespace Go.bN
section
open Go.Conc
structure T3(P:afn)(t ft:Nat):Prop where
 hk:P.underlying t=some (.array 4 ft)
 hf:P.underlying ft=some (.int .i64)
 hg:P.eqGuardType P.depth t=false
section
variable{P:afn}(L:jq P){k:ar}{O:an}{Kp:aeG}{t ft:Nat}
variable(M:T3 P t ft){i:TI}(ht:L.tt ft=some i)(ha:i.agg=false)(hz:i.size=1)
include M
theorem SM{K a b}(h:K (a==b) k O):eP P (Op.equalIn 9999 ft (.int .i64 a) (.int .i64 b)) k O K Kp:=by show eP P (Op.equalIn (9998+1) ft _ _) k O K Kp;rw[Op.equalIn];refine af (cW M.hf ?_);exact ag h
include ht ha
theorem yQ{β K x y n a b}{f:Bool->Sem β}(c:x[n]?=some (.int .i64 a))(d:y[n]?=some (.int .i64 b))(h:eP P (f (a==b)) k O K Kp):eP P (do let p <-part ft x n;let q <-part ft y n;let r <-Op.equalIn 9999 ft p q;f r) k O K Kp:=af (nB L ht ha c (af (nB L ht ha d (af (SM M h)))))
include hz
theorem IK{K a b c d a' b' c' d'}(h:K (a==a' && (b==b' && (c==c' && d==d'))) k O):eP P (Op.equal t (.agg #[.int .i64 a,.int .i64 b,.int .i64 c,.int .i64 d]) (.agg #[.int .i64 a',.int .i64 b',.int .i64 c',.int .i64 d'])) k O K Kp:=by
 show eP P (Op.equalIn (9998+1+1) t _ _) k O K Kp;rw[Op.equalIn];refine af (cW M.hk ?_);refine af (bY L ht ?_);rw[hz];simp only[Std.Legacy.Range.forIn_eq_forIn_range',Std.Legacy.Range.size,List.range',Nat.reduceAdd,Nat.reduceSub,Nat.reduceDiv,adN,adW];refine af (af (yQ L M ht ha rfl rfl ?_));cases e:(a==a')with
 |false=>rw[e]at h;exact ag (ag (ag h))
 |true=>
 rw[e]at h;refine ag (af (yQ L M ht ha rfl rfl ?_));cases f:(b==b')with
 |false=>rw[f]at h;exact ag (ag (ag h))
 |true=>
 rw[f]at h;refine ag (af (yQ L M ht ha rfl rfl ?_));cases g:(c==c')with
 |false=>rw[g]at h;exact ag (ag (ag h))
 |true=>
 rw[g]at h;refine ag (af (yQ L M ht ha rfl rfl ?_));cases i:(d==d')with
 |false=>rw[i]at h;exact ag (ag (ag h))
 |true=>rw[i]at h;exact ag (ag (ag h))
omit M ht ha hz in
theorem GQ{c x y z w}(h:V k c (.agg [.lit (.int .i64 x),.lit (.int .i64 y),.lit (.int .i64 z),.lit (.int .i64 w)])):c=.agg #[.int .i64 x,.int .i64 y,.int .i64 z,.int .i64 w]:=by
 cases h with
 | agg c l b a=>
   obtain⟨d⟩:=c
   match d,b,a with
   |[p,q,r,s],_,a=>have e:=a 0 p _ rfl rfl;have f:=a 1 q _ rfl rfl;have g:=a 2 r _ rfl rfl;have i:=a 3 s _ rfl rfl;cases e;cases f;cases g;cases i;rfl
theorem IL{o env σ K Kp}{i:Nat}{x y a b c d a' b' c' d'}(j:o.op=.binOp .neq t x y i)(l:ao env x=.agg [.lit (.int .i64 a),.lit (.int .i64 b),.lit (.int .i64 c),.lit (.int .i64 d)])(m:ao env y=.agg [.lit (.int .i64 a'),.lit (.int .i64 b'),.lit (.int .i64 c'),.lit (.int .i64 d')])
 (n:K (.lit (.bool (!(a==a' && (b==b' && (c==c' && d==d')))))) σ):aT P o env σ K Kp:=
 aT.val (s:=λe=>do eqGuard .neq t x y (e x) (e y);binOp .neq t (e x) (e y)) (λe=>by simp[execOp,j]) λk O e f p=>by
  have g:=f x (by simp_all);have h:=f y (by simp_all);rw[l]at g;rw[m]at h;rw[GQ g,GQ h];refine af (?_:eP P (eqGuard .neq t x y _ _) k O _ _);unfold eqGuard;simp only[Bool.not_true,aal,aao];refine af (bI (af ?_));refine bI ?_;rw[M.hg];refine ag ?_;exact af (s:=Op.equal t _ _) (IK L M ht ha hz (ag (.here ⟨.refl k,_,σ,.lit _,p,n⟩)))
end
section
variable{P:afn}{m:Mo}{fid n:Nat}{ro:aeX}{hold:aeV}{s:St}{K:aeN}{k:afb}
def aa.op{ops i rest o}(f:ops[i]?=some o)(g:cG ops n s.env o)(b:Oper.ok n o=true)(d:∀c,o.op≠.defer c)
 (h:aT P o s.env s.σ (λa σ'=>aa P m fid n ro hold (.inRegion ops rest::k) {s with env:=bu s.env o.dst a,σ:=σ'} K) (λa σ'=>K (.panic a) {s with σ:=σ'})):
 aa P m fid n ro hold (.inRegion ops (i::rest)::k) s K:=λe=>Go.op f g b d (h.mono λa σ' q=>q (by simpa[lh,mX]using e))
end
def gg{α}(P:afn):Sem α->Option α
 |.pure a=>some a
 |.program g=>gg P (g P)
 |_=>none
def rC{α P k O K Kp a}:∀(s:Sem α),gg P s=some a->K a k O->eP P s k O K Kp
 |.pure b,h,c=>by simp only[gg,kn]at h;subst h;exact c
 |.program g,h,c=>rC (g P) h c
 |.load ..,h,_=>by simp[gg]at h
 |.store ..,h,_=>by simp[gg]at h
 |.new ..,h,_=>by simp[gg]at h
 |.shape ..,h,_=>by simp[gg]at h
 |.freeze ..,h,_=>by simp[gg]at h
 |.frozen ..,h,_=>by simp[gg]at h
 |.getObj ..,h,_=>by simp[gg]at h
 |.setObj ..,h,_=>by simp[gg]at h
 |.choose ..,h,_=>by simp[gg]at h
 |.sys ..,h,_=>by simp[gg]at h
 |.mark ..,h,_=>by simp[gg]at h
 |.halt ..,h,_=>by simp[gg]at h
def ye(P:afn)(e:aeS->Sem Value)(args:afk)(σ:ab)(K:aeP):Prop:=∀k O (d:List Value),Vs k d args->Rel k O σ->eP P (e d.toArray) k O (λv c f=>k.Le c->∃a b,V c v a/\Rel c f b/\K a b) (λ_ _ _=>False)
section
variable{P:afn}(L:jq P){m:Mo}{f:FuncId}{fn:Func}
def yf{e k O b K Kp}(c:P.funcs[f]?=some fn)(hb:fn.body=none)(a:(fn.name==  "runtime.NumGoroutine")=false)(d:Extern.findNext fn=none)(g:Extern.find fn=some e)
 (h:eP P (e b) k O (λv k' O'=>K (.value v) k' O') Kp):eP P (callFunc f b) k O K Kp:=by
 unfold callFunc;refine af (bI ?_);rw[c];simp only[a,hb,Option.isNone_none,aal,aao,aay];refine af (s:=mark (.extern f)) ⟨rfl,?_⟩;simp only[d,g];exact af (kI _ h (λ_ _ _ h=>ag h) (λ_ _ _ h=>h))
def cL.ext{e args σ n}(o:P.funcs[f]?=some fn)(hb:fn.body=none)(d:(fn.name==  "runtime.NumGoroutine")=false)(p:Extern.findNext fn=none)(q:Extern.find fn=some e)
 (h:ye P e args σ λa σ'=>n (.val a) σ'):cL P m (.fn (.func f) [] []) args σ n:=λQ k O cf b fr cs g c r i j l w x=>by
 cases g with
 | fn _ s t y z A B C D=>
   refine eY ?_;simp only[Deferred.ofValue];refine af (ag ?_);simp only[Go.invoke];obtain rfl:s=#[]:=by simp_all
   obtain rfl:t=#[]:=by simp_all
   refine yf o hb d p q ?_;rw[show(#[]++b.toArray++#[]:aeS)=b.toArray by simp];refine kI _ (h k O b c r) (λv E F G u=>?_) (λ_ _ _ h=>h.elim)
   grind
variable{fid n:Nat}{ro:aeX}{hold:aeV}{s:St}{K:aeN}{k:afb}
def aa.SN{ops i is o recv name args u}{t f:Nat}{a a' fn e}(I:ops[i]?=some o)(y:o.op=.call ⟨.invoke recv name,args,u⟩)(M:cG ops n s.env o)(z:Oper.ok n o=true)
 (N:ao s.env recv=.ou t a) (R:qQ P t name f a a') (S:P.funcs[f]?=some fn) (hb:fn.body=none) (A:(fn.name==  "runtime.NumGoroutine")=false) (U:Extern.findNext fn=none) (W:Extern.find fn=some e)
 (h:ye P e (a'::args.toList.map (ao s.env)) s.σ (λx σ'=>aa P m fid n ro hold (.inRegion ops is::k) {s with env:=bu s.env o.dst x,σ:=σ'} K)):
 aa P m fid n ro hold (.inRegion ops (i::is)::k) s K:=λB Q kk O tmps defs kind cs X p Y=>by
 refine T.qL (λw=>fe I (jg p.size p.env M) (.inr λc e=>by simp_all) w) (eY ?_)
 have b:∀x∈o.op.operands,V kk (Frame.eval ⟨fid,tmps,.inRegion ops (i::is)::k,defs,.run,kind,ro⟩ x) (ao s.env x):=λx Z=>by
  refine V.eval p.env p.size x ?_;simp only[Oper.ok,zj,aaF]at z
  grind
 have q:=b recv (by simp_all);rw[N]at q;have d:=Vs.ofArray (k:=kk) (ρ:=Frame.eval ⟨fid,tmps,.inRegion ops (i::is)::k,defs,.run,kind,ro⟩) (env:=s.env) (xs:=args) (λx Z=>b x (by simp_all));generalize hq:Frame.eval _ recv=cf at q;cases q with
 | ou _ v _ C=>
   simp only[execOp,y,resolve,hq];refine af (ag ?_);rw[tR];unfold callMethod;simp only;refine af (bI ?_);refine af (R kk O v _ _ C λr D=>?_);refine yf S hb A U W ?_;have e:#[r]++args.map (Frame.eval ⟨fid,tmps,.inRegion ops (i::is)::k,defs,.run,kind,ro⟩)=(r::(args.map (Frame.eval ⟨fid,tmps,.inRegion ops (i::is)::k,defs,.run,kind,ro⟩)).toList).toArray:=by simp
   rw[e];refine kI _ (h kk O _ (.cons D ⟨by grind,λj v a q ha=>d.2 j v a (by grind) ha⟩) p.rel) (λcv J L E g=>?_) (λ_ _ _ h=>h.elim);obtain⟨av,σ',F,H,E⟩:=E g;obtain⟨l,e1,e2⟩:=p.put (fid:=fid) (ro:=ro) (rest:=is) (kk:=k) g I F H;show T P m Q J L (G (Frame.finish ⟨fid,tmps,.inRegion ops (i::is)::k,defs,.run,kind,ro⟩ cv) (ir s.rc cs));rw[e1];exact E (by simpa[lh,mX]using B) Q J L l defs kind cs X e2 (Y.mono g)
end
def CY{k v u}:V k v (.lit u)↔v=u:=⟨λh=>by cases h;rfl,λh=>h ▸ .lit v⟩
def X5{k v b off}:V k v (.ref b off)↔v=.pointer (some ⟨b,off,none⟩):=⟨λh=>by cases h;rfl,λh=>h ▸ .ref b off⟩
def T4{k v t a}:V k v (.ou t a)↔∃u,v=.iface t u/\V k u a:=⟨λh=>by cases h with|ou _ u _ h=>simp_all,λ⟨u,e,h⟩=>e ▸ .ou t u a h⟩
def IM{k v a}:V k v (.agg [a])↔∃x,v=.agg #[x]/\V k x a:=by
 constructor
 . intro h
   cases h with
   | agg c _ b d=>
     obtain⟨c⟩:=c
     match c,b with
     |[x],_=>exact⟨x,rfl,d 0 x a rfl rfl⟩
 . rintro⟨x,rfl,h⟩
   refine .agg _ _ rfl λi v e f g=>?_
   grind
section
open Go.Extern
variable{P:afn}(L:jq P){σ:ab}{K:aeP}
def ye.pure{e args v a}(c:∀k b,Vs k b args->gg P (e b.toArray)=some v)(ha:∀k,V k v a)(d:K a σ):ye P e args σ K:=λk O b f g=>by exact rC _ (c k b f) λ_=>⟨a,σ,ha k,g,d⟩
end
section
variable{P:afn}(L:jq P){o:Oper}{env:Env}{σ:ab}{K:aeP}{Kp:aeP}
def sV{t n e:Nat}{parts i b l}(c:o.op=.build t parts)(ht:L.tt t=some i)(g:i.kind=.array n e)(h:L.tt e=some b)(hz:(nJ i.zero).cells.all AV.flat=true)
 (m:mN (λj=>some (j*b.size,b.size)) (nJ i.zero).cells (parts.toList.map λp=>(p.1,ao env p.2))=some l) (q:K (.agg l) σ):aT P o env σ K Kp:=
 aT.val (s:=λρ=>Instr.build t (parts.map λ(i,x)=>(i,ρ x))) (λρ=>by simp[execOp,c]) λk O ρ r u=>by
  obtain⟨v,f⟩:=wC (k:=k) (ρ:=ρ) (env:=env) (parts:=parts) λp f=>r p.2 (by simp[c,Op.operands];grind)
  obtain⟨y,w,a⟩:=yE _ _ i.zero.cells _ l v f (zJ hz) m;unfold Instr.build;refine af (du L ht (af (aH L ht λd _ hd=>?_)));rw[qN hd g];dsimp only;refine af (bY L h ?_);rw[w];exact ag (.here ⟨.refl k,.agg l,σ,.agg _ _ a.1 a.2.1,u,q⟩)
def rD{op}{t d:Nat}{x y vx vy r}(c:o.op=.binOp op t x y d)(e:∀k v,V k v (ao env x)->v=vx)(f:∀k v,V k v (ao env y)->v=vy)(g:gg P (do eqGuard op t x y vx vy;binOp op t vx vy)=some r)(h:K (.lit r) σ):aT P o env σ K Kp:=
 aT.val (s:=λa=>do eqGuard op t x y (a x) (a y);binOp op t (a x) (a y)) (λa=>by simp[execOp,c]) λk O a b i=>by
  have j:=e k _ (b x (by simp[c,Op.operands]));have l:=f k _ (b y (by simp[c,Op.operands]));simp only[j,l];exact rC _ g (.here ⟨.refl k,_,σ,.lit _,i,h⟩)
def V.SO{k v}{t:Nat}(h:V k v (.ou t (.agg []))):v=.iface t (.agg #[]):=by
 obtain⟨u,rfl,a⟩:=T4.1 h;cases a with
 |agg c l b _=>simp_all
end
def Vb(b:Nat)(l:afk)(hole:aff)(a a':AV):Prop:=a=a'\/∃off,a=.ref b off/\a'=.kp b l hole off
def Vb.sound{k b l hole a a' v}(h:Vb b l hole a a')(d:∀off,V k (.pointer (some ⟨b,off,none⟩)) (.kp b l hole off))(c:V k v a):V k v a':=by
 rcases h with rfl|⟨off,rfl,rfl⟩
 . exact c
 . cases c;exact d off
section
variable{P:afn}{m:Mo}{fid n:Nat}{ro:aeX}{hold:aeV}{todo:afb}{K:aeN}{env env':Env}{σ:ab}{D:List zv}{rc:Rec}
def Rel.Vd{k O b l hole bw l1 l2}(g:Rel k O σ)(o:∀off,V k (.pointer (some ⟨b,off,none⟩)) (.kp b l hole off))(h:σ bw=some (.cells l1))(u:l1.length=l2.length)(p:∀(i:Nat) a a',l1[i]?=some a->l2[i]?=some a'->Vb b l hole a a'):Rel k O (σ.set bw (.cells l2)):=⟨λc y d f=>by
 by_cases e:c=bw
 . subst e
   simp only[ab.set,aay,kn]at d;subst d;obtain⟨z,hz,j⟩:=g.1 c _ h (by simp);cases j with
   | cells q e _ w r s=>
     refine⟨_,hz,.cells q e l2 (by omega) (λi v a' t m=>?_) s⟩;have n:i<l1.length:=by grind
     exact(p i l1[i] a' (by simp[n]) m).sound o (r i v _ t (by simp[n]))
 . exact g.1 c y (by simpa[ab.set,e]using d) f,λc y d f=>by
 by_cases e:c=bw
 . subst e
   simp only[ab.set,aay,kn]at d;subst d;cases f
 . exact g.2 c y (by simpa[ab.set,e]using d) f⟩
def Go.part  b   l   hole   f  {bw l1 l2}(hb:σ b=some (.cells l)) (q:∀i v,f i=some v->l[i]?=some (.lit v)) (r:∀i,f i=none↔i∉hole) (d:∀t,Vb b l hole (env t) (env' t)) (j:bw≠b) (o:σ bw=some (.cells l1)) (s:l1.length=l2.length) (u:∀(i:Nat) a a',l1[i]?=some a->l2[i]?=some a'->Vb b l hole a a')
 (h:Go P m fid n ro todo ⟨env',(σ.set b (.part f)).set bw (.cells l2),D,rc⟩ K):Go P m fid n ro todo ⟨env,σ,D,rc⟩ K:=by
 intro Q k O tmps defs kind cs w e x;refine T.TA e.rel hb q r rfl λy z c p g=>?_
 exact h Q y z tmps defs kind cs w ⟨e.size,λt ht=>(d t).sound p ((e.env t ht).mono c),g.Vd p (by rw[ab.ah _ _ j];exact o) s u,e.ds.mono c,e.rc.mono c⟩ (x.mono c)
def aa.part  b   l   hole   f  {bw l1 l2}(hb:σ b=some (.cells l)) (j:∀i v,f i=some v->l[i]?=some (.lit v)) (k:∀i,f i=none↔i∉hole) (c:∀t,Vb b l hole (env t) (env' t)) (d:bw≠b) (e:σ bw=some (.cells l1)) (o:l1.length=l2.length) (p:∀(i:Nat) a a',l1[i]?=some a->l2[i]?=some a'->Vb b l hole a a')
 (h:aa P m fid n ro hold todo ⟨env',(σ.set b (.part f)).set bw (.cells l2),D,rc⟩ K):aa P m fid n ro hold todo ⟨env,σ,D,rc⟩ K:=λg=>Go.part b l hole f hb j k c d e o p (h g)
end
def aa.draw{P}(L:jq P){m fid n id ro hold ops k env σ D rc K}  p  (c:(hold.find? λe=>e.id==id)=some ⟨id,p⟩)
 (h:aK P m ops n (Uq ⟨env,σ,D,rc⟩ K) p env σ (Up P m fid n ro hold k ⟨env,σ,D,rc⟩ K)):aa P m fid n ro hold (.code (.region id ops true)::k) ⟨env,σ,D,rc⟩ K:=λa=>by
 have b:ve ops ⟨id,p⟩=true:=by simp only[lh,acd,mX,c,zj]at a;exact a.1
 simp only[ve,zj]at b;refine Go.draw L.mixed b.1 λl d f g=>?_
 exact dz.mono (λenv σ h=>h (by simp only[lh,acd,zj]at a ⊢;exact a.2)) _ _ _ (h _ _ _ b.2 l d f g (λ_ _ _ h=>by cases h))
def aK.one{P m ops n Kp R i o p env σ}(d:ops[i]?=some o)(b:Oper.ok n o=true)(e:o.guard=none)(f:∀c,o.op≠.defer c)(h:aT P o env σ (λa σ'=>aK P m ops n Kp p (bu env o.dst a) σ' R) Kp):aK P m ops n Kp (.one i p) env σ R:=jV.one ⟨o,d,b,.inl ⟨cH e,.inr ⟨f,h⟩⟩⟩
def aK.take{P}(L:jq P){m}  mu  {ops n Kp R S lt p env σ}(h:DW L mu ops n lt σ (λa=>aK P m ops n Kp p a σ R) .mk S env):aK P m ops n Kp (.take S lt p) env σ R:=jV.take L mu (qf L h)
def aa.X6{P fid n ro hold s kk K A Fin c}(I:Nat->St->Prop)(d:I 0 s)
 (e:∀r k s,k+(r+1)=A.n->I k s->(∀s',I (k+1) s'->aa P (rX P A Fin r) fid n ro hold (.inLoop c::kk) s' K)->aa P (rX P A Fin (r+1)) fid n ro hold (.code c::.inLoop c::kk) s K)
 (j:∀s,I A.n s->aa P (rX P A Fin 0) fid n ro hold (.code c::.inLoop c::kk) s K):aa P (rX P A Fin A.n) fid n ro hold (.code (.loop c)::kk) s K:=λa=>by
 have f:mX hold c=true:=by simp only[lh,acd,mX,zj]at a;exact a.1
 have key:∀r k s,k+r=A.n->I k s->aa P (rX P A Fin r) fid n ro hold (.code c::.inLoop c::kk) s K:=λr=>by
  induction r with
  |zero=>simp_all
  |succ r g=>exact λk s h i=>e r k s h i λs' b=>aa.again f (g (k+1) s' (by omega) b)
 exact aa.xj (key A.n 0 s (by omega) d) a
def V.cp1{k v a a'}(e:a.cells=[a])(m:a'.cells=[a'])(h:∀u,V k u a->V k u a')(f:V k v (.cp a 0)):V k v (.cp a' 0):=by
 cases f with
 | cp b base off N E v c g i d l=>
   rw[e]at i d l;refine .cp b base 0 N E a' c g (by simp_all) (λj n=>d j (by simp_all)) (λj x ha=>?_)
   grind
def aa.X7{P fid g ro s K m todo hold}(d:m.solo=true){n fb fo gb mb GI}  val  {nm ng} (C:iV P ng) (X:jH P ng) (r:iH P nm) (t:iI P nm) (F:oC P nm) (u:n<=900) (v:fb≠gb) (w:fb≠mb) (x:gb≠mb){a e}
 (y:s.σ gb=some (.cells [.lit (.int .u64 0),.lit (.int .u32 0)])) (z:s.σ fb=some (.part e)) (i:e fo=some (.int .i32 0)) (k:e (fo+1)=some (.int .u32 0)) (l:∀j,j<n->e (fo+2+j)≠none) (B:s.σ mb=some a) (o:a.gone=false) (p:GI a) (q:s.rc=.no)
 (h:∀  A ,(A.n=n/\A.fb=fb/\A.fo=fo/\A.gb=gb/\A.mb=mb/\A.nm=nm/\A.ng=ng/\A.dir=true/\A.GI=GI/\A.val=val)->∀  Fin   kd   c   f ,ub P m fid g ro K kd c f Fin ->
   aa P (rX P A Fin A.n) fid g ro hold todo {s with σ:=((s.σ.del gb).del mb).set fb .jf,rc:=.told kd c f} (λ_ _=>False)):aa P m fid g ro hold todo s K:=
 aa.X4 d ⟨n,true,fb+gb+mb+1,fb,fo,gb,mb,GI,λ_=>.cX,val,nm,ng,u,by omega,by omega,by omega,v,w,x⟩ rfl C X r t F y z i k l B o p q λb hb Fin kd c f D=>h _ ⟨rfl,rfl,rfl,rfl,rfl,rfl,rfl,jc.AN _ _ _,rfl,rfl⟩ Fin kd c f D
def A8(ft:Nat):Option TypeDesc->Bool
 |some (.struct fs)=>(match fs.toList with|[f,g]=>(f.name !=  "_" && g.name !=  "_") && (f.type==ft && g.type==ft) && (f.offset==0 && g.offset==1)|_=>false)
 |_=>false
def FN.of{P mt b c ft kd}(e:P.underlying mt=some (.map b c))(a:A8 ft (P.underlying b)=true)(h:P.underlying ft=some (.int kd))(i:P.stoodInHeld b=false):FN P mt b c ft kd:=by
 refine⟨e,?_,h,i⟩;generalize P.underlying b=d at a;unfold A8 at a;split at a
 . next fs=>
   split at a
   . next f g j=>
     simp only[zj,bne_iff_ne,adA]at a;refine⟨f,g,?_,a.1.1,a.1.2,a.2⟩;congr 2
     grind
   . cases a
 . cases a
end
open Go.Conc Go.Extern
section
variable{P:afn}{σ:ab}{K:aeP}{b o:Nat}{a:AV}{l:afk}{n n':Int}
def IN(ha:kV b o a)(f:σ b=some (.cells l))(i:l[o]?=some (.lit (.int .u32 n)))(j:K (.lit (.int .u32 n)) σ):ye P (Atomic.loadT (.int .u32)) [a] σ K:=λk O t m h=>by
 obtain⟨v,rfl,g⟩:=m.one;obtain rfl:=ha _ _ g;obtain⟨c,e,p,w,q,x⟩:=h.yP f;have d:o<c.size:=by grind
 have r:c[o]?=some (.int .u32 n):=by rw[aaJ d];have:=q o c[o] _ (aaJ d) i;generalize c[o]=u at this;cases this;rfl
 show eP P (Atomic.loadT (.int .u32) #[.pointer (some ⟨b,o,none⟩)]) k O _ _;unfold Atomic.loadT;refine af (ag ?_);unfold Atomic.read;refine af (s:=load ⟨b,o,none⟩ .atomic) ⟨rfl,_,⟨rfl,.inr ⟨c,e,_,p,r⟩⟩,ag ?_⟩;simp only[aay];exact ag λ_=>⟨_,σ,.lit _,h,j⟩
def GR(ha:kV b o a)(f:σ b=some (.cells l))(j:o<l.length)(m:K (.bL []) (σ.set b (.cells (l.set o (.lit (.int .u32 n)))))):ye P Atomic.storeT [a,.lit (.int .u32 n)] σ K:=λk O p d g=>by
 match p,d with
 | [v, x],d=>
   obtain rfl:=ha _ _ (d.2 0 v a rfl rfl);obtain rfl:=CY.1 (d.2 1 x _ rfl rfl);obtain⟨c,e,q,r,t,u⟩:=g.yP f;show eP P (Atomic.storeT #[.pointer (some ⟨b,o,none⟩),.int .u32 n]) k O _ _;unfold Atomic.storeT;refine af (ag ?_);refine af (s:=store ⟨b,o,none⟩ (.int .u32 n) .atomic) ⟨rfl,rfl,rfl,.inl ⟨c,e,q,by simp_all,ag (ag λ_=>⟨_,_,.bL _ _ rfl (λi v a h=>by simp at h),g.set (.cells _ _ _ (by simp_all) (λi v a d ha=>?_) (λi v d=>?_)),m⟩)⟩⟩
   . by_cases e:i=o
     . subst e
       rw[aah (by simp_all)]at d;rw[acn j]at ha;cases d;cases ha;exact .lit _
     grind
   . by_cases e:i=o
     . subst e
       rw[aah (by simp_all)]at d;cases d;rfl
     grind
end

import Derived.Test.YtabmephejpgigaaGreatDoorC13
set_option linter.all false
namespace Go.cr
section
open Go.Conc
def eu{α}(P:abm):Sem α->Option α
 |.pure a=>some a
 |.program g=>eu P (g P)
 |_=>none
def nR{α P k O K Kp a}:∀(s:Sem α),eu P s=some a->K a k O->dD P s k O K Kp
 |.pure b,h,c=>by simp only[eu,kn]at h;subst h;exact c
 |.program g,h,c=>nR (g P) h c
 |.load ..,h,_=>by simp[eu]at h
 |.store ..,h,_=>by simp[eu]at h
 |.new ..,h,_=>by simp[eu]at h
 |.shape ..,h,_=>by simp[eu]at h
 |.freeze ..,h,_=>by simp[eu]at h
 |.frozen ..,h,_=>by simp[eu]at h
 |.getObj ..,h,_=>by simp[eu]at h
 |.setObj ..,h,_=>by simp[eu]at h
 |.choose ..,h,_=>by simp[eu]at h
 |.sys ..,h,_=>by simp[eu]at h
 |.mark ..,h,_=>by simp[eu]at h
 |.halt ..,h,_=>by simp[eu]at h
def uG(P:abm)(e:aaS->Sem Value)(args:abj)(σ:ab)(K:aaP):Prop:=∀k O (d:List Value),Vs k d args->Rel k O σ->dD P (e d.toArray) k O (λv c f=>k.Le c->∃a b,V c v a/\Rel c f b/\K a b) (λ_ _ _=>False)
section
variable{P:abm}(L:iT P){m:Mo}{f:FuncId}{fn:Func}
def uH{e k O b K Kp}(c:P.funcs[f]?=some fn)(hb:fn.body=none)(a:(fn.name==  "runtime.NumGoroutine")=false)(d:Extern.findNext fn=none)(g:Extern.find fn=some e)
 (h:dD P (e b) k O (λv k' O'=>K (.value v) k' O') Kp):dD P (callFunc f b) k O K Kp:=by
 unfold callFunc;refine af (bY ?_);rw[c];simp only[a,hb,Option.isNone_none,LK,Rp,YD];refine af (s:=mark (.extern f)) ⟨rfl,?_⟩;simp only[d,g];exact af (iU _ h (λ_ _ _ h=>ag h) (λ_ _ _ h=>h))
def cX.ext{e args σ n}(o:P.funcs[f]?=some fn)(hb:fn.body=none)(d:(fn.name==  "runtime.NumGoroutine")=false)(p:Extern.findNext fn=none)(q:Extern.find fn=some e)
 (h:uG P e args σ λa σ'=>n (.val a) σ'):cX P m (.fn (.func f) [] []) args σ n:=λQ k O cf b fr cs g c r i j l w x=>by
 cases g with
 | fn _ s t y z A B C D=>
   refine dF ?_;simp only[Deferred.ofValue];refine af (ag ?_);simp only[Go.invoke];obtain rfl:s=#[]:=by simp_all
   obtain rfl:t=#[]:=by simp_all
   refine uH o hb d p q ?_;rw[show(#[]++b.toArray++#[]:aaS)=b.toArray by simp];refine iU _ (h k O b c r) (λv E F G u=>?_) (λ_ _ _ h=>h.elim)
   grind
variable{fid n:Nat}{ro:aaX}{hold:aaV}{s:St}{K:aaN}{k:abb}
def aa.NZ{ops i is o recv name args u}{t f:Nat}{a a' fn e}(I:ops[i]?=some o)(y:o.op=.call ⟨.invoke recv name,args,u⟩)(M:bT ops n s.env o)(z:Oper.ok n o=true)
 (N:ak s.env recv=.kz t a) (R:nC P t name f a a') (S:P.funcs[f]?=some fn) (hb:fn.body=none) (A:(fn.name==  "runtime.NumGoroutine")=false) (U:Extern.findNext fn=none) (W:Extern.find fn=some e)
 (h:uG P e (a'::args.toList.map (ak s.env)) s.σ (λx σ'=>aa P m fid n ro hold (.inRegion ops is::k) {s with env:=bd s.env o.dst x,σ:=σ'} K)):
 aa P m fid n ro hold (.inRegion ops (i::is)::k) s K:=λB Q kk O tmps defs kind cs X p Y=>by
 refine T.ns (λw=>dH I (gx p.size p.env M) (.inr λc e=>by simp_all) w) (dF ?_)
 have b:∀x∈o.op.operands,V kk (Frame.eval ⟨fid,tmps,.inRegion ops (i::is)::k,defs,.run,kind,ro⟩ x) (ak s.env x):=λx Z=>by
  refine V.eval p.env p.size x ?_;simp only[Oper.ok,za,YK]at z
  grind
 have q:=b recv (by simp_all);rw[N]at q;have d:=Vs.ofArray (k:=kk) (ρ:=Frame.eval ⟨fid,tmps,.inRegion ops (i::is)::k,defs,.run,kind,ro⟩) (env:=s.env) (xs:=args) (λx Z=>b x (by simp_all));generalize hq:Frame.eval _ recv=cf at q;cases q with
 | kz _ v _ C=>
   simp only[execOp,y,resolve,hq];refine af (ag ?_);rw[qv];unfold callMethod;simp only;refine af (bY ?_);refine af (R kk O v _ _ C λr D=>?_);refine uH S hb A U W ?_;have e:#[r]++args.map (Frame.eval ⟨fid,tmps,.inRegion ops (i::is)::k,defs,.run,kind,ro⟩)=(r::(args.map (Frame.eval ⟨fid,tmps,.inRegion ops (i::is)::k,defs,.run,kind,ro⟩)).toList).toArray:=by simp
   rw[e];refine iU _ (h kk O _ (.cons D ⟨by grind,λj v a q ha=>d.2 j v a (by grind) ha⟩) p.rel) (λcv J L E g=>?_) (λ_ _ _ h=>h.elim);obtain⟨av,σ',F,H,E⟩:=E g;obtain⟨l,e1,e2⟩:=p.put (fid:=fid) (ro:=ro) (rest:=is) (kk:=k) g I F H;show T P m Q J L (G (Frame.finish ⟨fid,tmps,.inRegion ops (i::is)::k,defs,.run,kind,ro⟩ cv) (fy s.rc cs));rw[e1];exact E (by simpa[js,kB]using B) Q J L l defs kind cs X e2 (Y.mono g)
end
def zn{k v u}:V k v (.lit u)↔v=u:=⟨λh=>by cases h;rfl,λh=>h ▸ .lit v⟩
def S6{k v b off}:V k v (.ref b off)↔v=.pointer (some ⟨b,off,none⟩):=⟨λh=>by cases h;rfl,λh=>h ▸ .ref b off⟩
def Pj{k v t a}:V k v (.kz t a)↔∃u,v=.iface t u/\V k u a:=⟨λh=>by cases h with|kz _ u _ h=>simp_all,λ⟨u,e,h⟩=>e ▸ .kz t u a h⟩
def EC{k v a}:V k v (.agg [a])↔∃x,v=.agg #[x]/\V k x a:=by
 constructor
 . intro h
   cases h with
   | agg c _ b d=>
     obtain⟨c⟩:=c
     match c,b with
     |[x],_=>exact⟨x,rfl,d 0 x a rfl rfl⟩
 . rintro⟨x,rfl,h⟩
   refine .agg _ _ rfl λi v e f g=>?_
   grind
section
open Go.Extern
variable{P:abm}(L:iT P){σ:ab}{K:aaP}
def uG.pure{e args v a}(c:∀k b,Vs k b args->eu P (e b.toArray)=some v)(d:∀k,V k v a)(f:K a σ):uG P e args σ K:=λk O b g h=>by exact nR _ (c k b g) λ_=>⟨a,σ,d k,h,f⟩
end
section
variable{P:abm}(L:iT P){o:Oper}{env:Env}{σ:ab}{K:aaP}{Kp:aaP}
def po{t n e:Nat}{parts i b l}(c:o.op=.build t parts)(f:L.tt t=some i)(h:i.kind=.array n e)(m:L.tt e=some b)(q:(kX i.zero).cells.all AV.flat=true)
 (r:ko (λj=>some (j*b.size,b.size)) (kX i.zero).cells (parts.toList.map λp=>(p.1,ak env p.2))=some l) (u:K (.agg l) σ):aJ P o env σ K Kp:=
 aJ.val (s:=λρ=>Instr.build t (parts.map λ(i,x)=>(i,ρ x))) (λρ=>by simp[execOp,c]) λk O ρ v w=>by
  obtain⟨y,g⟩:=sV (k:=k) (ρ:=ρ) (env:=env) (parts:=parts) λp g=>v p.2 (by simp[c,Op.operands];grind)
  obtain⟨A,z,a⟩:=vd _ _ i.zero.cells _ l y g (vM q) r;unfold Instr.build;refine af (cM L f (af (aD L f λd _ hd=>?_)));rw[nv hd h];dsimp only;refine af (bF L m ?_);rw[z];exact ag (.here ⟨.refl k,.agg l,σ,.agg _ _ a.1 a.2.1,w,u⟩)
def nT{op}{t d:Nat}{x y vx vy r}(c:o.op=.binOp op t x y d)(e:∀k v,V k v (ak env x)->v=vx)(f:∀k v,V k v (ak env y)->v=vy)(g:eu P (do eqGuard op t x y vx vy;binOp op t vx vy)=some r)(h:K (.lit r) σ):aJ P o env σ K Kp:=
 aJ.val (s:=λa=>do eqGuard op t x y (a x) (a y);binOp op t (a x) (a y)) (λa=>by simp[execOp,c]) λk O a b i=>by
  have j:=e k _ (b x (by simp[c,Op.operands]));have l:=f k _ (b y (by simp[c,Op.operands]));simp only[j,l];exact nR _ g (.here ⟨.refl k,_,σ,.lit _,i,h⟩)
def V.N1{k v}{t:Nat}(h:V k v (.kz t (.agg []))):v=.iface t (.agg #[]):=by
 obtain⟨u,rfl,a⟩:=Pj.1 h;cases a with
 |agg c l b _=>simp_all
end
def Qd(b:Nat)(l:abj)(hole:abf)(a a':AV):Prop:=a=a'\/∃off,a=.ref b off/\a'=.kp b l hole off
def Qd.sound{k b l hole a a' v}(h:Qd b l hole a a')(d:∀off,V k (.pointer (some ⟨b,off,none⟩)) (.kp b l hole off))(c:V k v a):V k v a':=by
 rcases h with rfl|⟨off,rfl,rfl⟩
 . exact c
 . cases c;exact d off
section
variable{P:abm}{m:Mo}{fid n:Nat}{ro:aaX}{hold:aaV}{todo:abb}{K:aaN}{env env':Env}{σ:ab}{D:List ye}{rc:Rec}
def Rel.Qe{k O b l hole bw l1 l2}(g:Rel k O σ)(o:∀off,V k (.pointer (some ⟨b,off,none⟩)) (.kp b l hole off))(h:σ bw=some (.cells l1))(w:l1.length=l2.length)(p:∀(i:Nat) a a',l1[i]?=some a->l2[i]?=some a'->Qd b l hole a a'):Rel k O (σ.set bw (.cells l2)):=⟨λc y d f=>by
 by_cases e:c=bw
 . subst e
   simp only[ab.set,YD,kn]at d;subst d;obtain⟨z,q,j⟩:=g.1 c _ h (by simp);cases j with
   | cells r e _ x s t=>
     refine⟨_,q,.cells r e l2 (by omega) (λi v a' u m=>?_) t⟩;have n:i<l1.length:=by grind
     exact(p i l1[i] a' (by simp[n]) m).sound o (s i v _ u (by simp[n]))
 . exact g.1 c y (by simpa[ab.set,e]using d) f,λc y d f=>by
 by_cases e:c=bw
 . subst e
   simp only[ab.set,YD,kn]at d;subst d;cases f
 . exact g.2 c y (by simpa[ab.set,e]using d) f⟩
def Go.part  b   l   hole   f  {bw l1 l2}(hb:σ b=some (.cells l)) (q:∀i v,f i=some v->l[i]?=some (.lit v)) (r:∀i,f i=none↔i∉hole) (d:∀t,Qd b l hole (env t) (env' t)) (j:bw≠b) (o:σ bw=some (.cells l1)) (s:l1.length=l2.length) (u:∀(i:Nat) a a',l1[i]?=some a->l2[i]?=some a'->Qd b l hole a a')
 (h:Go P m fid n ro todo ⟨env',(σ.set b (.part f)).set bw (.cells l2),D,rc⟩ K):Go P m fid n ro todo ⟨env,σ,D,rc⟩ K:=by
 intro Q k O tmps defs kind cs w e x;refine T.OQ e.rel hb q r rfl λy z c p g=>?_
 exact h Q y z tmps defs kind cs w ⟨e.size,λt A=>(d t).sound p ((e.env t A).mono c),g.Qe p (by rw[ab.ah _ _ j];exact o) s u,e.ds.mono c,e.rc.mono c⟩ (x.mono c)
def aa.part  b   l   hole   f  {bw l1 l2}(hb:σ b=some (.cells l)) (j:∀i v,f i=some v->l[i]?=some (.lit v)) (k:∀i,f i=none↔i∉hole) (c:∀t,Qd b l hole (env t) (env' t)) (d:bw≠b) (e:σ bw=some (.cells l1)) (o:l1.length=l2.length) (p:∀(i:Nat) a a',l1[i]?=some a->l2[i]?=some a'->Qd b l hole a a')
 (h:aa P m fid n ro hold todo ⟨env',(σ.set b (.part f)).set bw (.cells l2),D,rc⟩ K):aa P m fid n ro hold todo ⟨env,σ,D,rc⟩ K:=λg=>Go.part b l hole f hb j k c d e o p (h g)
end
def aa.draw{P}(L:iT P){m fid n id ro hold ops k env σ D rc K}  p  (c:(hold.find? λe=>e.id==id)=some ⟨id,p⟩)
 (h:aN P m ops n (PB ⟨env,σ,D,rc⟩ K) p env σ (PA P m fid n ro hold k ⟨env,σ,D,rc⟩ K)):aa P m fid n ro hold (.code (.region id ops true)::k) ⟨env,σ,D,rc⟩ K:=λa=>by
 have b:rI ops ⟨id,p⟩=true:=by simp only[js,Zl,kB,c,za]at a;exact a.1
 simp only[rI,za]at b;refine Go.draw L.mixed b.1 λl d f g=>?_
 exact cO.mono (λenv σ h=>h (by simp only[js,Zl,za]at a ⊢;exact a.2)) _ _ _ (h _ _ _ b.2 l d f g (λ_ _ _ h=>by cases h))
def aN.one{P m ops n Kp R i o p env σ}(d:ops[i]?=some o)(b:Oper.ok n o=true)(e:o.guard=none)(f:∀c,o.op≠.defer c)(h:aJ P o env σ (λa σ'=>aN P m ops n Kp p (bd env o.dst a) σ' R) Kp):aN P m ops n Kp (.one i p) env σ R:=iC.one ⟨o,d,b,.inl ⟨bU e,.inr ⟨f,h⟩⟩⟩
def aN.take{P}(L:iT P){m}  mu  {ops n Kp R S lt p env σ}(h:Ak L mu ops n lt σ (λa=>aN P m ops n Kp p a σ R) .mk S env):aN P m ops n Kp (.take S lt p) env σ R:=iC.take L mu (mS L h)
def aa.S7{P fid n ro hold s kk K A Fin c}(I:Nat->St->Prop)(d:I 0 s)
 (e:∀r k s,k+(r+1)=A.n->I k s->(∀s',I (k+1) s'->aa P (ot P A Fin r) fid n ro hold (.inLoop c::kk) s' K)->aa P (ot P A Fin (r+1)) fid n ro hold (.code c::.inLoop c::kk) s K)
 (j:∀s,I A.n s->aa P (ot P A Fin 0) fid n ro hold (.code c::.inLoop c::kk) s K):aa P (ot P A Fin A.n) fid n ro hold (.code (.loop c)::kk) s K:=λa=>by
 have f:kB hold c=true:=by simp only[js,Zl,kB,za]at a;exact a.1
 have key:∀r k s,k+r=A.n->I k s->aa P (ot P A Fin r) fid n ro hold (.code c::.inLoop c::kk) s K:=λr=>by
  induction r with
  |zero=>simp_all
  |succ r g=>exact λk s h i=>e r k s h i λs' b=>aa.again f (g (k+1) s' (by omega) b)
 exact aa.tE (key A.n 0 s (by omega) d) a
def V.XB{k v a a'}(e:a.cells=[a])(m:a'.cells=[a'])(h:∀u,V k u a->V k u a')(f:V k v (.cp a 0)):V k v (.cp a' 0):=by
 cases f with
 | cp b base off N E v c g i d l=>
   rw[e]at i d l;refine .cp b base 0 N E a' c g (by simp_all) (λj n=>d j (by simp_all)) (λj x o=>?_)
   grind
def aa.S8{P fid g ro s K m todo hold}(d:m.solo=true){n fb fo gb mb GI}  val  {nm ng} (C:ga P ng) (X:il P ng) (r:fQ P nm) (t:fR P nm) (F:lO P nm) (u:n<=900) (v:fb≠gb) (w:fb≠mb) (x:gb≠mb){a e}
 (y:s.σ gb=some (.cells [.lit (.int .u64 0),.lit (.int .u32 0)])) (z:s.σ fb=some (.part e)) (i:e fo=some (.int .i32 0)) (k:e (fo+1)=some (.int .u32 0)) (l:∀j,j<n->e (fo+2+j)≠none) (B:s.σ mb=some a) (o:a.gone=false) (p:GI a) (q:s.rc=.no)
 (h:∀  A ,(A.n=n/\A.fb=fb/\A.fo=fo/\A.gb=gb/\A.mb=mb/\A.nm=nm/\A.ng=ng/\A.dir=true/\A.GI=GI/\A.val=val)->∀  Fin   kd   c   f ,qD P m fid g ro K kd c f Fin ->
   aa P (ot P A Fin A.n) fid g ro hold todo {s with σ:=((s.σ.del gb).del mb).set fb .gu,rc:=.told kd c f} (λ_ _=>False)):aa P m fid g ro hold todo s K:=
 aa.S4 d ⟨n,true,fb+gb+mb+1,fb,fo,gb,mb,GI,λ_=>.cu,val,nm,ng,u,by omega,by omega,by omega,v,w,x⟩ rfl C X r t F y z i k l B o p q λb hb Fin kd c f D=>h _ ⟨rfl,rfl,rfl,rfl,rfl,rfl,rfl,gh.wR _ _ _,rfl,rfl⟩ Fin kd c f D
def xf(a:Nat):Option TypeDesc->Bool
 |some (.struct fs)=>(match fs.toList with|[f,g]=>(f.name !=  "_" && g.name !=  "_") && (f.type==a && g.type==a) && (f.offset==0 && g.offset==1)|_=>false)
 |_=>false
def BM.of{P mt b e c kd}(h:P.underlying mt=some (.map b e))(a:xf c (P.underlying b)=true)(i:P.underlying c=some (.int kd))(j:P.stoodInHeld b=false):BM P mt b e c kd:=by
 refine⟨h,?_,i,j⟩;generalize P.underlying b=d at a;unfold xf at a;split at a
 . next fs=>
   split at a
   . next f g k=>
     simp only[za,bne_iff_ne,ZJ]at a;refine⟨f,g,?_,a.1.1,a.1.2,a.2⟩;congr 2
     grind
   . cases a
 . cases a
end
open Go.Conc Go.Extern
section
variable{P:abm}{σ:ab}{K:aaP}{b o:Nat}{a:AV}{l:abj}{n n':Int}
def ED(i:jh b o a)(f:σ b=some (.cells l))(j:l[o]?=some (.lit (.int .u32 n)))(m:K (.lit (.int .u32 n)) σ):uG P (Atomic.loadT (.int .u32)) [a] σ K:=λk O w p h=>by
 obtain⟨v,rfl,g⟩:=p.one;obtain rfl:=i _ _ g;obtain⟨c,e,q,x,r,y⟩:=h.vn f;have d:o<c.size:=by grind
 have t:c[o]?=some (.int .u32 n):=by rw[YM d];have:=r o c[o] _ (YM d) j;generalize c[o]=u at this;cases this;rfl
 show dD P (Atomic.loadT (.int .u32) #[.pointer (some ⟨b,o,none⟩)]) k O _ _;unfold Atomic.loadT;refine af (ag ?_);unfold Atomic.read;refine af (s:=load ⟨b,o,none⟩ .atomic) ⟨rfl,_,⟨rfl,.inr ⟨c,e,_,q,t⟩⟩,ag ?_⟩;simp only[YD];exact ag λ_=>⟨_,σ,.lit _,h,m⟩
def CD(f:jh b o a)(g:σ b=some (.cells l))(m:o<l.length)(p:K (.cH []) (σ.set b (.cells (l.set o (.lit (.int .u32 n)))))):uG P Atomic.storeT [a,.lit (.int .u32 n)] σ K:=λk O q d j=>by
 match q,d with
 | [v, x],d=>
   obtain rfl:=f _ _ (d.2 0 v a rfl rfl);obtain rfl:=zn.1 (d.2 1 x _ rfl rfl);obtain⟨c,e,r,t,u,w⟩:=j.vn g;show dD P (Atomic.storeT #[.pointer (some ⟨b,o,none⟩),.int .u32 n]) k O _ _;unfold Atomic.storeT;refine af (ag ?_);refine af (s:=store ⟨b,o,none⟩ (.int .u32 n) .atomic) ⟨rfl,rfl,rfl,.inl ⟨c,e,r,by simp_all,ag (ag λ_=>⟨_,_,.cH _ _ rfl (λi v a h=>by simp at h),j.set (.cells _ _ _ (by simp_all) (λi v a d f=>?_) (λi v d=>?_)),p⟩)⟩⟩
   . by_cases e:i=o
     . subst e
       rw[zU (by simp_all)]at d;rw[Zx m]at f;cases d;cases f;exact .lit _
     grind
   . by_cases e:i=o
     . subst e
       rw[zU (by simp_all)]at d;cases d;rfl
     grind
end

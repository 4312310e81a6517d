import Derived.Test.YtebcbkhnlnkolaaGreatDoorC13
set_option linter.all false
namespace Go.ck
section
open Go.Conc
section
variable{P:adT}(L:jJ P){o:Oper}{env:Env}{σ:ab}{K:adv}{Kp:adv}
def o0{t e:Nat}{x y it g n u}(S:o.op=.makeSlice t x y)(T:L.tt t=some it)(U:it.kind=.slice e)(B:L.tt e=some g)(W:g.size=1)(hb:g.bytes<=1024)
 (X:(lY g.zero).cells=[u]) (Y:u.flat=true) (Z:ak env x=.lit (.int .i64 n)) (hy:ak env y=.lit (.int .i64 n)) (Q:0<=n/\n<=1000000)
 (hK:∀b,σ b=none->K (.fN b 0 n.toNat n.toNat) (σ.set b (.cells (List.replicate n.toNat u)))):aJ P o env σ K Kp:=
 aJ.val (s:=λC=>Instr.makeSlice t (C x) (C y)) (λC=>by simp[execOp,S]) λk O C w hr=>by
  have G:=w x (by simp_all)
  have D:=w y (by simp_all)
  rw[Z]at G;rw[hy]at D;have e1:=dB G;have e2:=dB D
  have hw:IntKind.i64.wrap n=n:=by simp[IntKind.wrap,IntKind.signed,IntKind.bits];omega
  have a7:g.zero.cells.size=1:=by obtain⟨_,_,_,_,_,_,h⟩:=L.facts B;omega
  have m:=xL (k:=k) (z:=g.zero) (by simp_all)
  rw[X]at m;rw[e1,e2];unfold Instr.makeSlice;refine af (aF L T λd _ hd=>?_)
  rw[bT hd U];dsimp only;refine af (s:=asInt (.int .i64 n)) (ag ?_);refine af (s:=asInt (.int .i64 n)) (ag ?_);refine af (dg L B λinfo _ _ H _=>?_)
  dsimp only;rw[hw]
  have I:((decide (n<0)||decide ((info.bytes:Int)*n>2 ^ 48))||decide (n<0)||decide (n>n))=false:=by
   have q:(info.bytes:Int)*n<=1024*1000000:=by rw[H];exact Int.mul_le_mul (by omega) Q.2 Q.1 (by omega)
   grind
  simp only[I,zs,zD];refine af (pZ ?_);refine af (bL L B ?_);rw[W]
  have j:∀zero:ady,(n.toNat≠0->zero=g.zero.cells)->dT P (do let a <-newRow e ((Array.range (n.toNat*1)).map (zero[· % zero.size]!));pure (Value.slice (some a) n.toNat n.toNat)) k O (λv p E=>mS p E λJ O2=>k.Le J/\∃a c,V J v a/\Rel J O2 c/\K a c) (λv p E=>k.Le p/\∃a c,V p v a/\Rel p E c/\Kp a c):=λzero hzero=>by
   have f:∀(i:Nat) v,((Array.range (n.toNat*1)).map (zero[· % zero.size]!))[i]?=some v->i<n.toNat/\g.zero.cells[0]?=some v:=λi v F=>by grind
   refine af (jN (l:=List.replicate n.toNat u) hr (by simp) (λi v a F ha=>?_) (λi v F=>?_) λr p E M N A=>ag (.here ⟨N,.fN r 0 n.toNat n.toNat,_,.fN ..,A,hK r M⟩))
   . obtain⟨G,D⟩:=f i v F
     have:a=u:=(List.mem_replicate.1 (List.mem_of_getElem? ha)).2;subst this;exact m.2.1 0 v a D rfl
   exact m.2.2 0 v (f i v F).2
  by_cases R:n.toNat*1=0
  . rw[zR R]
    refine af (ag ?_);exact j _ (λh=>by omega)
  rw[zA R];refine af (de L B (af (ag ?_)));exact j _ (λ_=>rfl)
end
def Te{es b sp}(f:es.length=b.length)(m:∀e∈es,e.cells=[e])(n:∀e∈b,e.cells=[e])(o:∀(i:Nat) a a',es[i]?=some a->b[i]?=some a'->a.W a'):(AV.sl 1 es sp).W (.sl 1 b .any):=λk v p=>by
 have f1:=fB m;have q:=fB n;rcases p.DH with⟨r,rfl,rfl,s⟩|⟨t,off,cap,N,u,c,rfl,y,w,x,z,g,h,A⟩
 . have:b=[]:=adb.1 f.symm
   subst this;exact .slnil r 1 .any (.inl rfl)
 rw[f1]at g h;rw[f];refine .sl t off cap 1 N u b .any c (by omega) w x (λe B=>by simp_all) (λj d=>g j (by simp_all)) (λj a l=>?_) trivial;rw[q]at l;have d:j<es.length:=by grind
 exact o j es[j] a (by simp[d]) l k _ (h j _ (by simp[d]))
section
variable{P:adT}{m:Mo}{ξ n:Nat}{ro:adD}{ω:adB}{K:adt}{todo:adH}
def aa.QU{env σ D rc b d i l cs es sp at_}(hd:d≠b)(hb:σ b=some (.cells l))(z:∀e∈l,e.cells=[e])(A:σ d=some (.cells cs))(f:cs[at_]?=some (.sl 1 es sp))(q:∀e∈es,e.cells=[e])(hi:es[i]?=some (.fN b 0 l.length l.length))
 (B:aa P m ξ n ro ω todo ⟨env,(σ.del b).set d (.cells (cs.set at_ (.sl 1 (es.set i (.sl 1 l .any)) sp))),D,rc⟩ K):aa P m ξ n ro ω todo ⟨env,σ,D,rc⟩ K:=by
 have C:=fB z;refine aa.freeze b l hb (λu=>.refl _) (λy x o=>?_) B;by_cases e:y=d
 . subst e
   simp[ab.set]at o;subst o;refine⟨hd,.inr ⟨cs,_,A,rfl,by simp,λj a E r g=>?_⟩⟩;by_cases t:j=at_
   . subst t
     rw[f]at r;cases r;have c:=(aaE.1 f).1;rw[abQ c]at g;cases g;refine .rows es _ sp (by simp) q (λx v=>?_) (λp a E s k=>?_)
     . rcases abU v with v|rfl
       . simp_all
       rfl
     by_cases w:p=i
     . subst w
       rw[hi]at s;cases s;have c:=(aaE.1 hi).1;rw[abQ c]at k;cases k;exact .sl 0 l.length 1 l .any (aaG _) (by omega) (λe F=>by simp_all) (λj a h=>by simp_all) (.inl rfl)
     rw[abM (wK w)]at k;rw[s]at k;cases k;exact .refl _
   rw[abM (wK t)]at g;rw[r]at g;cases g;exact .refl _
 rw[ab.ah _ _ e]at o;unfold ab.del at o
 simp_all
end
section
variable{P:adT}{m:Mo}{ξ n:Nat}{ro:adD}{ω:adB}{s:St}{K:adt}{k:adH}
def aa.op{ζ i μ o}(f:ζ[i]?=some o)(g:bZ ζ n s.env o)(b:Oper.ok n o=true)(d:∀c,o.op≠.defer c)
 (h:aJ P o s.env s.σ (λa σ'=>aa P m ξ n ro ω (.inRegion ζ μ::k) {s with env:=bp s.env o.dst a,σ:=σ'} K) (λa σ'=>K (.panic a) {s with σ:=σ'})):
 aa P m ξ n ro ω (.inRegion ζ (i::μ)::k) s K:=λe=>Go.op f g b d (h.mono λa σ' q=>q (by simpa[kh,lE]using e))
end
def fG{α}(P:adT):Sem α->Option α
 |.pure a=>some a
 |.program g=>fG P (g P)
 |_=>none
def o6{α P k O K Kp a}:∀(s:Sem α),fG P s=some a->K a k O->dT P s k O K Kp
 |.pure b,h,c=>by simp only[fG,kn]at h;subst h;exact c
 |.program g,h,c=>o6 (g P) h c
 |.load ..,h,_=>by simp[fG]at h
 |.store ..,h,_=>by simp[fG]at h
 |.new ..,h,_=>by simp[fG]at h
 |.shape ..,h,_=>by simp[fG]at h
 |.freeze ..,h,_=>by simp[fG]at h
 |.frozen ..,h,_=>by simp[fG]at h
 |.getObj ..,h,_=>by simp[fG]at h
 |.setObj ..,h,_=>by simp[fG]at h
 |.choose ..,h,_=>by simp[fG]at h
 |.sys ..,h,_=>by simp[fG]at h
 |.mark ..,h,_=>by simp[fG]at h
 |.halt ..,h,_=>by simp[fG]at h
def vY(P:adT)(e:ady->Sem Value)(args:adQ)(σ:ab)(K:adv):Prop:=∀k O (d:List Value),Vs k d args->Rel k O σ->dT P (e d.toArray) k O (λv c f=>k.Le c->∃a b,V c v a/\Rel c f b/\K a b) (λ_ _ _=>False)
section
variable{P:adT}(L:jJ P){m:Mo}{f:FuncId}{fn:Func}
def vZ{e k O b K Kp}(c:P.funcs[f]?=some fn)(hb:fn.body=none)(a:(fn.name==  "runtime.NumGoroutine")=false)(d:Extern.findNext fn=none)(g:Extern.find fn=some e)
 (h:dT P (e b) k O (λv k' O'=>K (.value v) k' O') Kp):dT P (callFunc f b) k O K Kp:=by
 unfold callFunc;refine af (bz ?_);rw[c];simp only[a,hb,Option.isNone_none,zs,zD,Rp];refine af (s:=mark (.extern f)) ⟨rfl,?_⟩;simp only[d,g];exact af (jL _ h (λ_ _ _ h=>ag h) (λ_ _ _ h=>h))
def cq.ext{e args σ n}(o:P.funcs[f]?=some fn)(hb:fn.body=none)(d:(fn.name==  "runtime.NumGoroutine")=false)(p:Extern.findNext fn=none)(q:Extern.find fn=some e)
 (h:vY P e args σ λa σ'=>n (.val a) σ'):cq P m (.fn (.func f) [] []) args σ n:=λQ k O cf b fr cs g c r i j l w x=>by
 cases g with
 | fn _ s t y z A B C D=>
   refine dZ ?_;simp only[Deferred.ofValue];refine af (ag ?_);simp only[Go.invoke];obtain rfl:s=#[]:=by simp_all
   obtain rfl:t=#[]:=by simp_all
   refine vZ o hb d p q ?_;rw[show(#[]++b.toArray++#[]:ady)=b.toArray by simp];refine jL _ (h k O b c r) (λv E F G u=>?_) (λ_ _ _ h=>h.elim)
   grind
variable{ξ n:Nat}{ro:adD}{ω:adB}{s:St}{K:adt}{k:adH}
def aa.QV{ζ i is o recv name args u}{t f:Nat}{a a' fn e}(I:ζ[i]?=some o)(y:o.op=.call ⟨.invoke recv name,args,u⟩)(M:bZ ζ n s.env o)(z:Oper.ok n o=true)
 (N:ak s.env recv=.mL t a) (R:oE P t name f a a') (S:P.funcs[f]?=some fn) (hb:fn.body=none) (A:(fn.name==  "runtime.NumGoroutine")=false) (U:Extern.findNext fn=none) (W:Extern.find fn=some e)
 (h:vY P e (a'::args.toList.map (ak s.env)) s.σ (λx σ'=>aa P m ξ n ro ω (.inRegion ζ is::k) {s with env:=bp s.env o.dst x,σ:=σ'} K)):
 aa P m ξ n ro ω (.inRegion ζ (i::is)::k) s K:=λB Q kk O η θ τ cs X p Y=>by
 refine T.oy (λw=>ew I (iC p.size p.env M) (.inr λc e=>by simp_all) w) (dZ ?_)
 have b:∀x∈o.op.operands,V kk (Frame.eval ⟨ξ,η,.inRegion ζ (i::is)::k,θ,.run,τ,ro⟩ x) (ak s.env x):=λx Z=>by
  refine V.eval p.env p.size x ?_;simp only[Oper.ok,wL,abn]at z
  grind
 have q:=b recv (by simp_all);rw[N]at q;have d:=Vs.ofArray (k:=kk) (ρ:=Frame.eval ⟨ξ,η,.inRegion ζ (i::is)::k,θ,.run,τ,ro⟩) (env:=s.env) (xs:=args) (λx Z=>b x (by simp_all));generalize hq:Frame.eval _ recv=cf at q;cases q with
 | mL _ v _ C=>
   simp only[execOp,y,resolve,hq];refine af (ag ?_);rw[rL];unfold callMethod;simp only;refine af (bz ?_);refine af (R kk O v _ _ C λr D=>?_);refine vZ S hb A U W ?_;have e:#[r]++args.map (Frame.eval ⟨ξ,η,.inRegion ζ (i::is)::k,θ,.run,τ,ro⟩)=(r::(args.map (Frame.eval ⟨ξ,η,.inRegion ζ (i::is)::k,θ,.run,τ,ro⟩)).toList).toArray:=by simp
   rw[e];refine jL _ (h kk O _ (.cons D ⟨by grind,λj v a q ha=>d.2 j v a (by grind) ha⟩) p.rel) (λcv J L E g=>?_) (λ_ _ _ h=>h.elim);obtain⟨av,σ',F,H,E⟩:=E g;obtain⟨l,e1,e2⟩:=p.put (ξ:=ξ) (ro:=ro) (μ:=is) (kk:=k) g I F H;show T P m Q J L (G (Frame.finish ⟨ξ,η,.inRegion ζ (i::is)::k,θ,.run,τ,ro⟩ cv) (gJ s.rc cs));rw[e1];exact E (by simpa[kh,lE]using B) Q J L l θ τ cs X e2 (Y.mono g)
end
def Bl{k v u}:V k v (.lit u)↔v=u:=⟨λh=>by cases h;rfl,λh=>h ▸ .lit v⟩
def V9{k v b off}:V k v (.ref b off)↔v=.pointer (some ⟨b,off,none⟩):=⟨λh=>by cases h;rfl,λh=>h ▸ .ref b off⟩
def R9{k v t a}:V k v (.mL t a)↔∃u,v=.iface t u/\V k u a:=⟨λh=>by cases h with|mL _ u _ h=>simp_all,λ⟨u,e,h⟩=>e ▸ .mL t u a h⟩
def GK{k v a}:V k v (.agg [a])↔∃x,v=.agg #[x]/\V k x a:=by
 constructor
 . intro h
   cases h with
   | agg c _ b d=>
     obtain⟨c⟩:=c
     match c,b with
     |[x],_=>exact⟨x,rfl,d 0 x a rfl rfl⟩
 . rintro⟨x,rfl,h⟩
   refine .agg _ _ rfl λi v e f g=>?_
   grind
section
open Go.Extern
variable{P:adT}(L:jJ P){σ:ab}{K:adv}
def vY.pure{e args v a}(c:∀k b,Vs k b args->fG P (e b.toArray)=some v)(d:∀k,V k v a)(f:K a σ):vY P e args σ K:=λk O b g h=>by exact o6 _ (c k b g) λ_=>⟨a,σ,d k,h,f⟩
end
section
variable{P:adT}(L:jJ P){o:Oper}{env:Env}{σ:ab}{K:adv}{Kp:adv}
def qz{t n e:Nat}{parts i b l}(c:o.op=.build t parts)(f:L.tt t=some i)(h:i.kind=.array n e)(m:L.tt e=some b)(q:(lY i.zero).cells.all AV.flat=true)
 (r:lx (λj=>some (j*b.size,b.size)) (lY i.zero).cells (parts.toList.map λp=>(p.1,ak env p.2))=some l) (u:K (.agg l) σ):aJ P o env σ K Kp:=
 aJ.val (s:=λρ=>Instr.build t (parts.map λ(i,x)=>(i,ρ x))) (λρ=>by simp[execOp,c]) λk O ρ v w=>by
  obtain⟨y,g⟩:=uG (k:=k) (ρ:=ρ) (env:=env) (parts:=parts) λp g=>v p.2 (by simp[c,Op.operands];grind)
  obtain⟨A,z,a⟩:=wV _ _ i.zero.cells _ l y g (xL q) r;unfold Instr.build;refine af (de L f (af (aF L f λd _ hd=>?_)));rw[oA hd h];dsimp only;refine af (bL L m ?_);rw[z];exact ag (.here ⟨.refl k,.agg l,σ,.agg _ _ a.1 a.2.1,w,u⟩)
def pe{op}{t d:Nat}{x y vx vy r}(c:o.op=.binOp op t x y d)(e:∀k v,V k v (ak env x)->v=vx)(f:∀k v,V k v (ak env y)->v=vy)(g:fG P (do eqGuard op t x y vx vy;binOp op t vx vy)=some r)(h:K (.lit r) σ):aJ P o env σ K Kp:=
 aJ.val (s:=λa=>do eqGuard op t x y (a x) (a y);binOp op t (a x) (a y)) (λa=>by simp[execOp,c]) λk O a b i=>by
  have j:=e k _ (b x (by simp[c,Op.operands]));have l:=f k _ (b y (by simp[c,Op.operands]));simp only[j,l];exact o6 _ g (.here ⟨.refl k,_,σ,.lit _,i,h⟩)
def V.QW{k v}{t:Nat}(h:V k v (.mL t (.agg []))):v=.iface t (.agg #[]):=by
 obtain⟨u,rfl,a⟩:=R9.1 h;cases a with
 |agg c l b _=>simp_all
end
def Tf(b:Nat)(l:adQ)(hole:adL)(a a':AV):Prop:=a=a'\/∃off,a=.ref b off/\a'=.kp b l hole off
def Tf.sound{k b l hole a a' v}(h:Tf b l hole a a')(d:∀off,V k (.pointer (some ⟨b,off,none⟩)) (.kp b l hole off))(c:V k v a):V k v a':=by
 rcases h with rfl|⟨off,rfl,rfl⟩
 . exact c
 . cases c;exact d off
section
variable{P:adT}{m:Mo}{ξ n:Nat}{ro:adD}{ω:adB}{todo:adH}{K:adt}{env env':Env}{σ:ab}{D:List wA}{rc:Rec}
def Rel.Tg{k O b l hole bw l1 l2}(g:Rel k O σ)(o:∀off,V k (.pointer (some ⟨b,off,none⟩)) (.kp b l hole off))(h:σ bw=some (.cells l1))(w:l1.length=l2.length)(p:∀(i:Nat) a a',l1[i]?=some a->l2[i]?=some a'->Tf b l hole a a'):Rel k O (σ.set bw (.cells l2)):=⟨λc y d f=>by
 by_cases e:c=bw
 . subst e
   simp only[ab.set,Rp,kn]at d;subst d;obtain⟨z,q,j⟩:=g.1 c _ h (by simp);cases j with
   | cells r e _ x s t=>
     refine⟨_,q,.cells r e l2 (by omega) (λi v a' u m=>?_) t⟩;have n:i<l1.length:=by grind
     exact(p i l1[i] a' (by simp[n]) m).sound o (s i v _ u (by simp[n]))
 . exact g.1 c y (by simpa[ab.set,e]using d) f,λc y d f=>by
 by_cases e:c=bw
 . subst e
   simp only[ab.set,Rp,kn]at d;subst d;cases f
 . exact g.2 c y (by simpa[ab.set,e]using d) f⟩
def Go.part  b   l   hole   f  {bw l1 l2}(hb:σ b=some (.cells l)) (q:∀i v,f i=some v->l[i]?=some (.lit v)) (r:∀i,f i=none↔i∉hole) (d:∀t,Tf b l hole (env t) (env' t)) (j:bw≠b) (o:σ bw=some (.cells l1)) (s:l1.length=l2.length) (u:∀(i:Nat) a a',l1[i]?=some a->l2[i]?=some a'->Tf b l hole a a')
 (h:Go P m ξ n ro todo ⟨env',(σ.set b (.part f)).set bw (.cells l2),D,rc⟩ K):Go P m ξ n ro todo ⟨env,σ,D,rc⟩ K:=by
 intro Q k O η θ τ cs w e x;refine T.RF e.rel hb q r rfl λy z c p g=>?_
 exact h Q y z η θ τ cs w ⟨e.size,λt A=>(d t).sound p ((e.env t A).mono c),g.Tg p (by rw[ab.ah _ _ j];exact o) s u,e.ds.mono c,e.rc.mono c⟩ (x.mono c)
def aa.part  b   l   hole   f  {bw l1 l2}(hb:σ b=some (.cells l)) (j:∀i v,f i=some v->l[i]?=some (.lit v)) (k:∀i,f i=none↔i∉hole) (c:∀t,Tf b l hole (env t) (env' t)) (d:bw≠b) (e:σ bw=some (.cells l1)) (o:l1.length=l2.length) (p:∀(i:Nat) a a',l1[i]?=some a->l2[i]?=some a'->Tf b l hole a a')
 (h:aa P m ξ n ro ω todo ⟨env',(σ.set b (.part f)).set bw (.cells l2),D,rc⟩ K):aa P m ξ n ro ω todo ⟨env,σ,D,rc⟩ K:=λg=>Go.part b l hole f hb j k c d e o p (h g)
end
def aa.draw{P}(L:jJ P){m ξ n id ro ω ζ k env σ D rc K}  p  (c:(ω.find? λe=>e.id==id)=some ⟨id,p⟩)
 (h:aM P m ζ n (Sx ⟨env,σ,D,rc⟩ K) p env σ (Sw P m ξ n ro ω k ⟨env,σ,D,rc⟩ K)):aa P m ξ n ro ω (.code (.region id ζ true)::k) ⟨env,σ,D,rc⟩ K:=λa=>by
 have b:s8 ζ ⟨id,p⟩=true:=by simp only[kh,abL,lE,c,wL]at a;exact a.1
 simp only[s8,wL]at b;refine Go.draw L.mixed b.1 λl d f g=>?_
 exact dh.mono (λenv σ h=>h (by simp only[kh,abL,wL]at a ⊢;exact a.2)) _ _ _ (h _ _ _ b.2 l d f g (λ_ _ _ h=>by cases h))
def aM.one{P m ζ n Kp R i o p env σ}(d:ζ[i]?=some o)(b:Oper.ok n o=true)(e:o.guard=none)(f:∀c,o.op≠.defer c)(h:aJ P o env σ (λa σ'=>aM P m ζ n Kp p (bp env o.dst a) σ' R) Kp):aM P m ζ n Kp (.one i p) env σ R:=jo.one ⟨o,d,b,.inl ⟨cd e,.inr ⟨f,h⟩⟩⟩
def aM.take{P}(L:jJ P){m}  mu  {ζ n Kp R S lt p env σ}(h:B8 L mu ζ n lt σ (λa=>aM P m ζ n Kp p a σ R) .mk S env):aM P m ζ n Kp (.take S lt p) env σ R:=jo.take L mu (nW L h)
def aa.V'{P ξ n ro ω s kk K A Fin c}(I:Nat->St->Prop)(d:I 0 s)
 (e:∀r k s,k+(r+1)=A.n->I k s->(∀s',I (k+1) s'->aa P (pI P A Fin r) ξ n ro ω (.inLoop c::kk) s' K)->aa P (pI P A Fin (r+1)) ξ n ro ω (.code c::.inLoop c::kk) s K)
 (j:∀s,I A.n s->aa P (pI P A Fin 0) ξ n ro ω (.code c::.inLoop c::kk) s K):aa P (pI P A Fin A.n) ξ n ro ω (.code (.loop c)::kk) s K:=λa=>by
 have f:lE ω c=true:=by simp only[kh,abL,lE,wL]at a;exact a.1
 have key:∀r k s,k+r=A.n->I k s->aa P (pI P A Fin r) ξ n ro ω (.code c::.inLoop c::kk) s K:=λr=>by
  induction r with
  |zero=>simp_all
  |succ r g=>exact λk s h i=>e r k s h i λs' b=>aa.again f (g (k+1) s' (by omega) b)
 exact aa.vd (key A.n 0 s (by omega) d) a
def V.cp1{k v a a'}(e:a.cells=[a])(m:a'.cells=[a'])(h:∀u,V k u a->V k u a')(f:V k v (.cp a 0)):V k v (.cp a' 0):=by
 cases f with
 | cp b base off N E v c g i d l=>
   rw[e]at i d l;refine .cp b base 0 N E a' c g (by simp_all) (λj n=>d j (by simp_all)) (λj x o=>?_)
   grind
def aa.Wa{P ξ g ro s K m todo ω}(d:m.solo=true){n fb fo gb mb GI}  val  {nm ng} (C:iu P ng) (X:iW P ng) (r:ib P nm) (t:ig P nm) (F:mP P nm) (u:n<=900) (v:fb≠gb) (w:fb≠mb) (x:gb≠mb){a e}
 (y:s.σ gb=some (.cells [.lit (.int .u64 0),.lit (.int .u32 0)])) (z:s.σ fb=some (.part e)) (i:e fo=some (.int .i32 0)) (k:e (fo+1)=some (.int .u32 0)) (l:∀j,j<n->e (fo+2+j)≠none) (B:s.σ mb=some a) (o:a.gone=false) (p:GI a) (q:s.rc=.no)
 (h:∀  A ,(A.n=n/\A.fb=fb/\A.fo=fo/\A.gb=gb/\A.mb=mb/\A.nm=nm/\A.ng=ng/\A.dir=true/\A.GI=GI/\A.val=val)->∀  Fin   kd   c   f ,rV P m ξ g ro K kd c f Fin ->
   aa P (pI P A Fin A.n) ξ g ro ω todo {s with σ:=((s.σ.del gb).del mb).set fb .iB,rc:=.told kd c f} (λ_ _=>False)):aa P m ξ g ro ω todo s K:=
 aa.V8 d ⟨n,true,fb+gb+mb+1,fb,fo,gb,mb,GI,λ_=>.cJ,val,nm,ng,u,by omega,by omega,by omega,v,w,x⟩ rfl C X r t F y z i k l B o p q λb hb Fin kd c f D=>h _ ⟨rfl,rfl,rfl,rfl,rfl,rfl,rfl,iw.yE _ _ _,rfl,rfl⟩ Fin kd c f D
def yR(a:Nat):Option TypeDesc->Bool
 |some (.struct fs)=>(match fs.toList with|[f,g]=>(f.name !=  "_" && g.name !=  "_") && (f.type==a && g.type==a) && (f.offset==0 && g.offset==1)|_=>false)
 |_=>false
def DK.of{P mt b e c kd}(h:P.underlying mt=some (.map b e))(a:yR c (P.underlying b)=true)(i:P.underlying c=some (.int kd))(j:P.stoodInHeld b=false):DK P mt b e c kd:=by
 refine⟨h,?_,i,j⟩;generalize P.underlying b=d at a;unfold yR at a;split at a
 . next fs=>
   split at a
   . next f g k=>
     simp only[wL,bne_iff_ne,acm]at a;refine⟨f,g,?_,a.1.1,a.1.2,a.2⟩;congr 2
     grind
   . cases a
 . cases a
end
open Go.Conc Go.Extern
section
variable{P:adT}{σ:ab}{K:adv}{b o:Nat}{a:AV}{l:adQ}{n n':Int}
def GL(i:jX b o a)(f:σ b=some (.cells l))(j:l[o]?=some (.lit (.int .u32 n)))(m:K (.lit (.int .u32 n)) σ):vY P (Atomic.loadT (.int .u32)) [a] σ K:=λk O w p h=>by
 obtain⟨v,rfl,g⟩:=p.one;obtain rfl:=i _ _ g;obtain⟨c,e,q,x,r,y⟩:=h.xh f;have d:o<c.size:=by grind
 have t:c[o]?=some (.int .u32 n):=by rw[abo d];have:=r o c[o] _ (abo d) j;generalize c[o]=u at this;cases this;rfl
 show dT P (Atomic.loadT (.int .u32) #[.pointer (some ⟨b,o,none⟩)]) k O _ _;unfold Atomic.loadT;refine af (ag ?_);unfold Atomic.read;refine af (s:=load ⟨b,o,none⟩ .atomic) ⟨rfl,_,⟨rfl,.inr ⟨c,e,_,q,t⟩⟩,ag ?_⟩;simp only[Rp];exact ag λ_=>⟨_,σ,.lit _,h,m⟩
def EO(f:jX b o a)(g:σ b=some (.cells l))(m:o<l.length)(p:K (.cH []) (σ.set b (.cells (l.set o (.lit (.int .u32 n)))))):vY P Atomic.storeT [a,.lit (.int .u32 n)] σ K:=λk O q d j=>by
 match q,d with
 | [v, x],d=>
   obtain rfl:=f _ _ (d.2 0 v a rfl rfl);obtain rfl:=Bl.1 (d.2 1 x _ rfl rfl);obtain⟨c,e,r,t,u,w⟩:=j.xh g;show dT P (Atomic.storeT #[.pointer (some ⟨b,o,none⟩),.int .u32 n]) k O _ _;unfold Atomic.storeT;refine af (ag ?_);refine af (s:=store ⟨b,o,none⟩ (.int .u32 n) .atomic) ⟨rfl,rfl,rfl,.inl ⟨c,e,r,by simp_all,ag (ag λ_=>⟨_,_,.cH _ _ rfl (λi v a h=>by simp at h),j.set (.cells _ _ _ (by simp_all) (λi v a d f=>?_) (λi v d=>?_)),p⟩)⟩⟩
   . by_cases e:i=o
     . subst e
       rw[zj (by simp_all)]at d;rw[abQ m]at f;cases d;cases f;exact .lit _
     grind
   . by_cases e:i=o
     . subst e
       rw[zj (by simp_all)]at d;cases d;rfl
     grind
end

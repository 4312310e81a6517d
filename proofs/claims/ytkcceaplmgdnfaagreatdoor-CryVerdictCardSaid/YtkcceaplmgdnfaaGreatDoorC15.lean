import Derived.Test.YtkcceaplmgdnfaaGreatDoorC14
set_option linter.all false
namespace Go.cG
section
open Go.Conc
section
variable{P:adS}{m:Mo}{fid n:Nat}{ro:adw}{hold:adv}{s:St}{k todo:adD}{K:ada}
def af.goto{l:Nat}(b:gotoIn l k=some todo)(a:jS hold todo=true)(h:af P m fid n ro hold todo s K):af P m fid n ro hold (.code (.goto l)::k) s K:=λ_=>Go.dq (λ_ _ _ _ _=>by simp[G,stepG,stepG.exec,b]) (h a)
def af.lower(I:Nat->St->Prop)(a:Nat)(c:I a s)(d:∀a s,I a s->(∀a' s',a'<a->I a' s'->af P m fid n ro hold todo s' K)->af P m fid n ro hold todo s K):af P m fid n ro hold todo s K:=by
 have key:∀b a s,a<b->I a s->af P m fid n ro hold todo s K:=λb=>by
  induction b with
  |zero=>omega
  |succ b e=>grind
 grind
end
section
variable{P:adS}(L:jo P){o:Oper}{env:Env}{σ:aa}{K:adm}{Kp:adm}
def Jc{t b off:Nat}{p x:adT}{i:TI}{f:Nat->adn}{v0 u:Value}(m:o.op=.store t p x)(ht:L.tt t=some i)(n:i.size=1)(q:jH b off (ao env p))(r:ao env x=.lit u)(d:flat u=true)(c:σ b=some (.part f))(w:f off=some v0)
 (y:K (.lit undef) (σ.set b (.part λj=>if j=off then some u else f j))):aJ P o env σ K Kp:=λk O g h l=>by
 have e:=q _ _ (h p (by simp_all));have a:=h x (by simp_all);rw[r]at a;generalize z:g x=v at a;cases a;have:execOp g o=(do storeVar t ⟨b,off,none⟩ u;pure .skip):=by simp[execOp,m,Instr.storeAt,e,Instr.sureAddr,z]
 rw[this];have A:u.cells=#[u]:=by cases u<;>first|rfl|cases d
 refine ag ?_;unfold storeVar;refine ag (bG L ht ?_);rw[aay (by simp_all)];refine ag (ah ?_);rw[A];unfold storeCells;refine ag (s:=store ⟨b,off,none⟩ u) ⟨rfl,d,rfl,.inr (.inr ⟨f,v0,l.Ax c,w,?_⟩)⟩;unfold storeCells;exact ah (ah ⟨undef,.inr ⟨rfl,rfl⟩,.here ⟨.refl k,.lit undef,_,.lit _,l.set (.part _),y⟩⟩)
end
def aj.mc(k:aj)(r n:Nat)(v:Value):aj:={k with cell:=λb j=>if b=r/\j=n then some v else k.cell b j}
def Ca(f:Nat->adn)(n:Nat):Nat->adn:=λi=>if i=n then none else f i
def AE{f:Nat->adn}{n i:Nat}{u:Value}(h:Ca f n i=some u):f i=some u/\i≠n:=by
 unfold Ca at h
 simp_all
def Cb{f:Nat->adn}{n i:Nat}(h:Ca f n i≠none):f i≠none/\i≠n:=by
 cases q:Ca f n i with
 |none=>simp_all
 |some u=>have:=AE q;simp_all
def Ea{k:aj}{O:ak}{r n:Nat}{v:Value}{f:Nat->adn}(l:O r=some (.part f))(E:f n=some v):kS k O (k.mc r n v) (O.set r (.part (Ca f n))):=λw h=>by
 obtain⟨c,e,B,F,C⟩:=h.part _ _ l
 have G:k.cell r n=none:=by
  cases q:k.cell r n with
  |none=>rfl
  |some u=>exact(h.apart _ _ _ q (.inr (.inr ⟨_,l,by grind⟩))).elim
 have z:k.Le (k.mc r n v):=⟨λb i u j=>by
  have:¬(b=r/\i=n):=λx=>by simp_all
  simpa[aj.mc,this]using j,λ_ _ h=>h⟩
 have p:∀b,b≠r->(O.set r (.part (Ca f n))) b=O b:=λb hb=>by simp[ak.set,hb]
 have a:(O.set r (.part (Ca f n))) r=some (.part (Ca f n)):=by simp[ak.set]
 refine⟨⟨λb i u j D=>?_,λb i u j=>?_,h.sh,λb o hb=>?_,λb m hb=>?_,λb g hb=>?_⟩,⟨z,aaE _,λ_ _ _=>rfl,λ_ _ _ _ c _ h=>⟨c,h,rfl,λ_ _=>rfl⟩,λ_ _ _ _ c _ h=>⟨c,h,rfl,λ_ _=>rfl⟩,λ_ _=>rfl,λb x t=>?_,λb i u j=>?_,λ_ _ h=>.inl h,by simp,rfl,rfl,rfl,by simp,λb g hb=>?_⟩⟩
 . have s:aV O b i/\¬(b=r/\i=n):=by
    by_cases hb:b=r
    . subst hb
      rcases D with⟨o,y⟩|⟨m,y,A⟩|⟨g,y,A⟩
      . simp_all
      . simp_all
      . rw[a]at y;cases y
        exact⟨.inr (.inr ⟨f,l,(Cb A).1⟩),λx=>(Cb A).2 x.2⟩
    . exact⟨by simpa[aV,ak.set,hb]using D,λx=>hb x.1⟩
   exact h.apart b i u (by simpa[aj.mc,s.2]using j) s.1
 . by_cases hb:b=r/\i=n
   . obtain⟨rfl,rfl⟩:=hb
     simp only[aj.mc,and_self,aaA,kn]at j;subst j;simp[World.cell?,B,C _ _ E]
   . exact h.cell b i u (by simpa only[aj.mc,hb,Rp]using j)
 . by_cases d:b=r
   . simp_all
   . exact h.obj b o (by simp_all)
 . by_cases d:b=r
   . simp_all
   . exact h.tail b m (by simp_all)
 . by_cases d:b=r
   . subst d;rw[a]at hb;cases hb
     exact⟨c,e,B,F,λi u j=>C i u (AE j).1⟩
   . exact h.part b g (by simp_all)
 . by_cases d:b=r
   . subst d
     rw[a]at t;cases t;exact .inl ⟨_,l,λi H=>(Cb H).1⟩
   . rw[p b d]at t;exact .inl ⟨x,t,.refl x⟩
 . by_cases hb:b=r/\i=n
   . obtain⟨rfl,rfl⟩:=hb;exact .inr (.inl (.inr (.inr ⟨f,l,by grind⟩)))
   . exact .inl (by simpa only[aj.mc,hb,Rp]using j)
 grind
section
variable{P:adS}{fid n:Nat}{ro:adw}{s:St}{k:adD}{K:ada}{A:bH}{Fin:acP}{j:Nat}
def bH.own(A:bH)(j:Nat)(v:Value):Nat->adn:=λi=>if i=A.cell j then some v else none
def F9(hd:A.dir=true){l:adL}{h:adH}(s:A.cell j<l.length){σ:aa}{r:adl}(d:σ A.fb=some .ig)(t:∀x v,A.GI x->(∀y,σ A.mb=some y->y.gone=true)->r (.val (.ck [])) ((σ.set A.mb x).set A.fb (.part (A.own j v)))):aA P (iE P A j) A.nm.lock [.kp A.fb l h A.fo] σ r:=by
 intro Q k O e c rest kind w B g C L;obtain⟨v,rfl,D⟩:=B.one;cases D with
 | kp _ _ N E _ _ M F G _ _=>
   obtain⟨H,_,_⟩:=g.2 _ _ d rfl;refine .dh (λm I J=>T P (iE P A j) Q m I J) rfl (.inl ⟨kind,c,rest,_,w,rfl,H,F,λ_=>aaU s G,λm x y f b n o K p=>?_⟩) (λ_ _ _ h=>h)
   obtain⟨u,rfl⟩:∃u,f=A.own j u:=by unfold bH.Tk at p;rw[aaB hd]at p;exact p
   refine C m _ (.tuple #[]) (.ck []) _ b (.ck _ _ rfl λi v a h=>by simp at h) (((g.mono b).set n).set (.part _)) (t y u o λz hz=>?_)
   cases q:z.gone with
   |true=>rfl
   | false=>
     obtain⟨R,S,_⟩:=g.1 _ z hz q
     simp_all
def Sg(P:adS)(A:bH)(j:Nat)(fn:Func):ada:=λe s=>fn.results=#[]/\(e=.leave none\/e=.leave (some .ret))/\(∃a,s.rc=.told .deferred [cE P] a)/\∃pl f y,jH A.fb A.fo pl/\s.D=[.call (.func A.nm.unlock) [] [pl],.call (.func A.ng.done) [] [.ref A.gb 0]]/\
 s.σ A.fb=some (.part f)/\f (A.cell j)=some (A.val j)/\s.σ A.mb=some y/\A.GI y/\y.gone=false
def Vd{k:aj}{d:Deferred}{f:Fn}{a:AV}(h:uA k d (.call f [] [a])):∃v,V k v a/\d={target:=.fn f #[],args:=#[v]}:=by
 obtain⟨g,i,rfl,b,c⟩:=h;have j:g=#[]:=by have:=b.1;simp_all
 obtain⟨v,l,e⟩:=Vs.one c;exact⟨v,e,by rw[j,show i=#[v]by grind]⟩
def Mw{f:FuncId}{fd:Func}{v:Value}{g:FuncId}{tmps:adq}{todo:adD}{ds:adj}{cs:adt}(d:P.funcs[f]?=some fd)(hb:fd.body.isSome=true)(a:(fd.name==  "runtime.NumGoroutine")=false){b:Bool}(w:World):
 stepG P b (G ⟨g,tmps,todo,{target:=.fn (.func f) #[],args:=#[v]}::ds,.returning,.deferred,none⟩ cs) w=.go (G (Frame.enter P f #[v] .deferred) (⟨g,tmps,todo,ds,.returning,.deferred,none⟩::cs)) w #[]:=by
 have hinv:∀w,(invoke (.fn (.func f) #[]) #[v]).runT P w #[]=(.ok (.enter f #[v]) w,#[]):=λw=>by
  show Sem.runT P (callFunc f _) w #[]=_;unfold callFunc;have c:fd.body.isNone=false:=by simp_all
  rw[gz,d];simp only[a,c,LK,Rp];simp
 simp only[G,stepG,unwind,callDeferred,hinv];simp;rfl
def Jd(hd:A.dir=true){f:FuncId}{fn fd i:Func}(hf:P.funcs[f]?=some fn)(k:P.funcs[A.ng.done]?=some fd)(l:fd.body.isSome=true)(b:(fd.name==  "runtime.NumGoroutine")=false)(n:P.funcs[A.nm.unlock]?=some i)(o:i.body.isSome=true)(c:(i.name==  "runtime.NumGoroutine")=false){kk:aj}:
 xf P (iE P A j) gV f fn.ntmps none .deferred [cE P] (Sg P A j fn) kk where
 leave k' O' tmps defs s todo F hle hs J p:=by
  obtain⟨d,O,⟨Q,e⟩,pl,K,y,q,H,g,a,CJ,r,t⟩:=p;obtain⟨env,σ,D,rc⟩:=s;simp only at e H g CJ;subst e H;show T P (iE P A j) gV k' O' (G ⟨f,tmps,todo,defs,.run,.deferred,none⟩ [cE P]);have u:=hs.ds
  match defs,u with
  | [d1,d2],⟨L,M,_⟩=>
    obtain⟨v1,v,rfl⟩:=Vd L;obtain⟨v2,z,rfl⟩:=Vd M;cases z;obtain rfl:=q _ _ v;obtain⟨x,hx,B⟩:=hs.rel.1 _ _ CJ t;have I:=hs.rel.Ax g;refine T.dq (g':=G ⟨f,tmps,todo,[{target:=.fn (.func A.nm.unlock) #[],args:=#[.pointer (some ⟨A.fb,A.fo,none⟩)]},{target:=.fn (.func A.ng.done) #[],args:=#[.pointer (some ⟨A.gb,0,none⟩)]}],.returning,.deferred,none⟩ [cE P]) rfl (λw=>?_) ?_
    . rcases J with⟨rfl,rfl⟩|⟨kk,rfl,rfl⟩|⟨_,_,_,_,rfl⟩
      . simp[G,stepG,stepG.exec]
      . simp[G,stepG,stepG.exec]
      grind
    refine T.dq rfl (λw=>Mw n o c w) (T.sat rfl λ⟨w,hw⟩=>?_);have C:=((Ea I a) w hw).2.le;refine .ghost (Ea I a) ?_;have E:A.mb≠A.fb:=za A.d5;refine .dh gV rfl (.inr (.inl ⟨.deferred,_,_,Ca K (A.cell j),x,y,by simp,rfl,by simp[ak.set],by simp only[ak.set,E,Rp];exact hx,B.mono C,r,λ_=>by simp[aj.mc],?_⟩)) (λ_ _ _ h=>h.elim);rw[show Ff P A gV=T P (lh P A) gV by simp[Ff,hd]];refine T.dq (m:=lh P A) rfl (λw=>Mw k l b w) ?_;exact .dh gV rfl ⟨rfl,f,fn,tmps,todo,hf,d,rfl⟩ (λ_ _ _ h=>h.elim)
 panic k' O' tmps defs s todo R S hle hs N p:=by obtain⟨_,h|h,_⟩:=p<;>cases h
def af.QO(hd:A.dir=true){m:Nat}{ops:adu}{i:Nat}{rest:adH}{o:Oper}{fo:adT}{args:adi}{d:ado}{f:FuncId}{fn fd e:Func}{body:Code}{first cap:adL}{hold hold':adv}(z:ops[i]?=some o)(g:o.op=.go ⟨.value fo,args,d⟩)(B:o.guard=none)(j:Oper.ok n o=true)
 (l:ao s.env fo=.fn (.func f) first cap) (y:P.funcs[f]?=some fn) (hb:fn.body=some body) (p:(fn.name==  "runtime.NumGoroutine")=false) (C:((first++args.toList.map (ao s.env))++cap).length<=fn.ntmps) (q:s.σ A.fb=some .ig) (a:jS hold' [.code body]=true)
 (r:P.funcs[A.ng.done]?=some fd) (t:fd.body.isSome=true) (b:(fd.name==  "runtime.NumGoroutine")=false) (u:P.funcs[A.nm.unlock]?=some e) (v:e.body.isSome=true) (c:(e.name==  "runtime.NumGoroutine")=false)
 (D:∀w,af P (iE P A (A.n-(m+1))) f fn.ntmps none hold' [.code body] ⟨dw ((first++args.toList.map (ao s.env))++cap),jU A.fb,[],.told .deferred [cE P] w⟩ (Sg P A (A.n-(m+1)) fn))
 (h:af P (pH P A Fin m) fid n ro hold (.inRegion ops rest::k) {s with env:=bd s.env o.dst .cD} (λ_ _=>False)):af P (FN P A Fin m) fid n ro hold (.inRegion ops (i::rest)::k) s K:=λx=>
 Go.Iv z g (bW B) j l y hb p C q (λ_=>Jd hd y r t b u v c) (λw=>D w a) (h (by simpa[jS,lg]using x))
def P1{kk:aj}{v:Value}{b off:Nat}{l e:adL}{hole d:adH}(hlen:e.length=l.length)(m:∀j,j<l.length->j∉d->(j∉hole/\e[j]?=l[j]?)\/∃u,kk.cell b j=some u/\flat u=true/\e[j]?=some (.lit u))(h:V kk v (.kp b l hole off)):V kk v (.kp b e d off):=by
 cases h with
 | kp _ _ N E _ _ c n p q r=>
   have key:∀j,∃u,j<l.length->j∉d->(kk.cell b j=some u/\flat u=true)/\∀a,e[j]?=some a->V kk u a:=λj=>by
    by_cases f:j<l.length/\j∉d
    . rcases m j f.1 f.2 with⟨i,k⟩|⟨u,i,k,o⟩
      . grind
      . exact⟨u,λ_ _=>⟨⟨i,k⟩,λa ha=>by rw[o]at ha;cases ha;exact .lit _⟩⟩
    simp_all
   refine .kp b off N E e d (λj=>(key j).choose) n (by omega) (λj f g=>((key j).choose_spec (by omega) g).1) (λj a g ha=>((key j).choose_spec (by grind) g).2 a ha)
def Go.Mx(e:A.dir=true){m:Mo}{J:ada}{kd:adK}{f:adt}{L:aj}{ops:adu}{i:Nat}{rest:adH}{o:Oper}{args:adi}{r:ado}{fn:Func}{env':Env}(M:ops[i]?=some o)(u:o.op=.call ⟨.value (.func A.ng.wait),args,r⟩)(R:bV ops n s.env o)(w:Oper.ok n o=true)
 (S:P.funcs[A.ng.wait]?=some fn) (hb:fn.body.isSome=true) (y:(fn.name==  "runtime.NumGoroutine")=false) (ha:args.toList.map (ao s.env)=[.ref A.gb 0]) (z:s.σ A.fb=some .ig) (g:s.rc=.told kd f L) (l:rU P m fid n ro J kd f L Fin)
 (T:∀kk,(∀j,j<A.n->kk.cell A.fb (A.cell j)=some (A.val j))->∀t v,V kk v (bd s.env o.dst (.ck []) t)->V kk v (env' t))
 (h:∀a,A.GI a->Go P m fid n ro (.inRegion ops rest::k) {s with env:=env',σ:=(s.σ.set A.mb a).set A.fb (.part (bE A.fo)),rc:=.no} J):Go P (pH P A Fin 0) fid n ro (.inRegion ops (i::rest)::k) s K:=by
 intro Q kk O tmps defs kind cs W p X;refine F5 M u R w S hb y p λB N=>?_
 rw[ha]at N;obtain⟨v,rfl,C⟩:=Vs.one N;cases C;have b:=p.rc;rw[g]at b;obtain⟨rfl,rfl,D⟩:=b;rw[show pH P A Fin 0=_ from aaB e];refine .dh gV rfl ⟨rfl,_,_,rfl,(p.rel.2 _ _ z rfl).2.1,λE x a c F H I=>?_⟩ (λ_ _ _ h=>h.elim);obtain⟨d,U,q⟩:=p.put (fid:=fid) (ro:=ro) (rest:=rest) (kk:=k) (σ':=(s.σ.set A.mb a).set A.fb (.part (bE A.fo))) (O':=(O.set A.mb x).set A.fb (.part (bE A.fo))) (v:=.tuple #[]) (a:=.ck []) c M (.ck _ _ rfl λi v a h=>by simp at h) (((p.rel.mono c).set H).set (.part _));show Fin E _ (G (Frame.finish ⟨fid,tmps,.inRegion ops (i::rest)::k,defs,.run,kind,ro⟩ (.tuple #[])) (fU s.rc cs));rw[U,g];exact l _ _ E _ d defs (h a I) rfl ⟨q.size,λt ht=>T E F t _ (q.env t ht),q.rel,q.ds,trivial⟩ (D.trans c)
def af.Mx(b:A.dir=true){m:Mo}{hold:adv}{u:ada}{kd:adK}{c:adt}{w:aj}{ops:adu}{i:Nat}{rest:adH}{o:Oper}{args:adi}{e:ado}{fn:Func}(env':Env)(x:ops[i]?=some o)(f:o.op=.call ⟨.value (.func A.ng.wait),args,e⟩)(y:o.guard=none)(g:Oper.ok n o=true)
 (z:P.funcs[A.ng.wait]?=some fn) (hb:fn.body.isSome=true) (l:(fn.name==  "runtime.NumGoroutine")=false) (ha:args.toList.map (ao s.env)=[.ref A.gb 0]) (p:s.σ A.fb=some .ig) (q:s.rc=.told kd c w) (d:rU P m fid n ro u kd c w Fin)
 (B:∀kk,(∀j,j<A.n->kk.cell A.fb (A.cell j)=some (A.val j))->∀t v,V kk v (bd s.env o.dst (.ck []) t)->V kk v (env' t))
 (h:∀a,A.GI a->af P m fid n ro hold (.inRegion ops rest::k) {s with env:=env',σ:=(s.σ.set A.mb a).set A.fb (.part (bE A.fo)),rc:=.no} u):af P (pH P A Fin 0) fid n ro hold (.inRegion ops (i::rest)::k) s K:=λr=>
 Go.Mx b x f (bW y) g z hb l ha p q d B λa ha=>h a ha (by simpa[jS,lg]using r)
def af.Ve{m:Mo}{todo:adD}{hold:adv}(f:m.solo=true)(B:gW)(x:B.dir=true)(C:gT P B.ng)(X:iN P B.ng)(A:gF P B.nm)(D:gJ P B.nm)(F:mI P B.nm){a:gn}{g:Nat->adn}
 (E:s.σ B.gb=some (.cells [.lit (.int .u64 0),.lit (.int .u32 0)])) (G:s.σ B.fb=some (.part g)) (k:g B.fo=some (.int .i32 0)) (l:g (B.fo+1)=some (.int .u32 0)) (o:∀j,j<B.n->g (B.fo+2+j)≠none) (H:s.σ B.mb=some a) (p:a.gone=false) (r:B.GI a) (t:s.rc=.no)
 (h:∀(b:Nat) (hb:0<b) (Fin:acP) (kd:adK) (c:adt) (i:aj),rU P m fid n ro K kd c i Fin ->
   af P (pH P (B.at b hb) Fin B.n) fid n ro hold todo {s with σ:=((s.σ.del B.gb).del B.mb).set B.fb .ig,rc:=.told kd c i} (λ_ _=>False)):af P m fid n ro hold todo s K:=λu=>
 Go.Ra f B C X A D F (λq=>by simp_all) E G k l (λ_=>o) H p r t (λd y e=>by
  by_cases v:d=B.fb
  . simp_all
  by_cases w:d=B.mb
  . subst w;simp[aa.set,aa.del,v]at e
  by_cases z:d=B.gb
  . subst z;simp[aa.set,aa.del,v,w]at e
  simp only[aa.set,aa.del,v,w,z,Rp]at e
  simp_all) λb hb Fin kd c i I=>h b hb Fin kd c i I u
end
structure HW(P:adS)(t ft:Nat):Prop where
 hk:∃f g,P.underlying t=some (.struct #[f,g])/\(f.name≠ "_"/\f.type=ft/\f.offset=0)/\(g.name≠ "_"/\g.type=ft/\g.offset=1)
 hf:P.underlying ft=some (.int .i64)
 hs:P.stoodInHeld t=false
 hg:P.eqGuardType P.depth t=false
def HW.of{P:adS}{t ft:Nat}(a:(match P.underlying t with|some (.struct fs)=>(match fs.toList with|[f,g]=>f.name !=  "_" && f.type==ft && f.offset==0 && (g.name !=  "_" && g.type==ft && g.offset==1)|_=>false)|_=>false)=true)(b:P.underlying ft=some (.int .i64))(c:P.stoodInHeld t=false)(d:P.eqGuardType P.depth t=false):HW P t ft:=by
 refine⟨?_,b,c,d⟩;split at a
 . next fs e=>
   split at a
   . next f g h=>
     simp only[zj,bne_iff_ne,abI]at a;refine⟨f,g,?_,⟨a.1.1.1,a.1.1.2,a.1.2⟩,a.2.1.1,a.2.1.2,a.2.2⟩;rw[e];congr 2
     grind
   . cases a
 . cases a
section
variable{P:adS}(L:jo P){k:aj}{O:ak}{Kp:acR}{t ft:Nat}
def lH{K:acR}{i:TI}{c:adq}{n:Nat}{v:Value}(ht:L.tt ft=some i)(ha:i.agg=false)(a:c[n]?=some v)(h:K v k O):dK P (part ft c n) k O K Kp:=by unfold part;refine ag (qN L ht ?_);rw[ha];simp only[LK,Rp];rw[a];exact ah h
variable(M:HW P t ft){i:TI}(ht:L.tt ft=some i)(ha:i.agg=false)
include M ht ha
theorem yv{K:acT}{a b c d:Int}(h:K (a==c && b==d) k O):dK P (Op.equal t (.agg #[.int .i64 a,.int .i64 b]) (.agg #[.int .i64 c,.int .i64 d])) k O K Kp:=by
 obtain⟨f,g,j,⟨l,m,n⟩,o,p,q⟩:=M.hk;show dK P (Op.equalIn (9998+1+1) t (.agg #[.int .i64 a,.int .i64 b]) (.agg #[.int .i64 c,.int .i64 d])) k O K Kp;rw[Op.equalIn];refine ag (cC j ?_);refine ag (bo ?_);rw[M.hs];simp only[LK,Rp,abY,abV,aci];rw[aaB l,m,n,aaB o,p,q];refine ag (ag (ag (lH L ht ha rfl ?_)));refine ag (lH L ht ha rfl ?_);refine ag ?_;rw[Op.equalIn];refine ag (cC M.hf ?_);simp only;refine ah ?_;cases e:(a==c)with
 |false=>rw[e]at h;exact ah (ah (ah h))
 | true=>
   rw[e]at h;refine ah ?_;simp only[];refine ag (ag (lH L ht ha rfl ?_));refine ag (lH L ht ha rfl ?_);refine ag ?_;rw[Op.equalIn];refine ag (cC M.hf ?_);simp only;refine ah ?_;cases i:(b==d)with
   |false=>rw[i]at h;exact ah (ah (ah h))
   |true=>rw[i]at h;exact ah (ah (ah h))
theorem Eb{c:Value}{a b:Int}(h:V k c (.agg [.lit (.int .i64 a),.lit (.int .i64 b)])):c=.agg #[.int .i64 a,.int .i64 b]:=by
 cases h with
 | agg c l e d=>
   obtain⟨f⟩:=c
   match f,e,d with
   |[p,q],_,d=>have g:=d 0 p _ rfl rfl;have i:=d 1 q _ rfl rfl;cases g;cases i;rfl
theorem Je{o:Oper}{env:Env}{σ:aa}{K Kp:adm}{op:BinOp}{p:Nat}{x y:adT}{a b c d:Int}{r:Bool}(q:o.op=.binOp op t x y p)(u:ao env x=.agg [.lit (.int .i64 a),.lit (.int .i64 b)])(v:ao env y=.agg [.lit (.int .i64 c),.lit (.int .i64 d)])
 (f:(op=.eql/\r=(a==c && b==d))\/(op=.neq/\r=!(a==c && b==d))) (i:K (.lit (.bool r)) σ):aJ P o env σ K Kp:=
 aJ.val (s:=λe=>do eqGuard op t x y (e x) (e y);binOp op t (e x) (e y)) (λe=>by simp[execOp,q]) λk O e g j=>by
  have l:=g x (by simp_all);have m:=g y (by simp_all);rw[u]at l;rw[v]at m;rw[Eb L M ht ha l,Eb L M ht ha m]
  have h:∀{R:acU}{w:acR},R () k O->dK P (eqGuard op t x y (.agg #[.int .i64 a,.int .i64 b]) (.agg #[.int .i64 c,.int .i64 d])) k O R w:=λn=>by
   rcases f with⟨rfl,_⟩|⟨rfl,_⟩
   . unfold eqGuard
     simp only[Bool.not_true,LK,Rp];refine ag (bo ?_);refine ag (bo ?_);rw[M.hg];exact ah n
   . unfold eqGuard
     simp only[Bool.not_true,LK,Rp];refine ag (bo ?_);refine ag (bo ?_);rw[M.hg];exact ah n
  refine ag (h ?_);rcases f with⟨rfl,rfl⟩|⟨rfl,rfl⟩
  . exact ag (s:=Op.equal t _ _) (yv L M ht ha (ah (.here ⟨.refl k,_,σ,.lit _,j,i⟩)))
  . exact ag (s:=Op.equal t _ _) (yv L M ht ha (ah (.here ⟨.refl k,_,σ,.lit _,j,i⟩)))
end
structure Rb(P:adS)(t ft:Nat):Prop where
 hk:P.underlying t=some (.array 4 ft)
 hf:P.underlying ft=some (.int .i64)
 hg:P.eqGuardType P.depth t=false
section
variable{P:adS}(L:jo P){k:aj}{O:ak}{Kp:acR}{t ft:Nat}
variable(M:Rb P t ft){i:TI}(ht:L.tt ft=some i)(ha:i.agg=false)(hz:i.size=1)
include M
theorem P4{K:acT}{a b:Int}(h:K (a==b) k O):dK P (Op.equalIn 9999 ft (.int .i64 a) (.int .i64 b)) k O K Kp:=by show dK P (Op.equalIn (9998+1) ft _ _) k O K Kp;rw[Op.equalIn];refine ag (cC M.hf ?_);exact ah h
include ht ha
theorem wV{β:Type}{K:β->adp}{x y:adq}{n:Nat}{a b:Int}{f:Bool->Sem β}(c:x[n]?=some (.int .i64 a))(d:y[n]?=some (.int .i64 b))(h:dK P (f (a==b)) k O K Kp):dK P (do let p <-part ft x n;let q <-part ft y n;let r <-Op.equalIn 9999 ft p q;f r) k O K Kp:=ag (lH L ht ha c (ag (lH L ht ha d (ag (P4 M h)))))
include hz
theorem Ga{K:acT}{a b c d a' b' c' d':Int}(h:K (a==a' && (b==b' && (c==c' && d==d'))) k O):dK P (Op.equal t (.agg #[.int .i64 a,.int .i64 b,.int .i64 c,.int .i64 d]) (.agg #[.int .i64 a',.int .i64 b',.int .i64 c',.int .i64 d'])) k O K Kp:=by
 show dK P (Op.equalIn (9998+1+1) t _ _) k O K Kp;rw[Op.equalIn];refine ag (cC M.hk ?_);refine ag (bG L ht ?_);rw[hz];simp only[Std.Legacy.Range.forIn_eq_forIn_range',Std.Legacy.Range.size,List.range',Nat.reduceAdd,Nat.reduceSub,Nat.reduceDiv,abV,aci];refine ag (ag (wV L M ht ha rfl rfl ?_));cases e:(a==a')with
 |false=>rw[e]at h;exact ah (ah (ah h))
 |true=>
 rw[e]at h;refine ah (ag (wV L M ht ha rfl rfl ?_));cases f:(b==b')with
 |false=>rw[f]at h;exact ah (ah (ah h))
 |true=>
 rw[f]at h;refine ah (ag (wV L M ht ha rfl rfl ?_));cases g:(c==c')with
 |false=>rw[g]at h;exact ah (ah (ah h))
 |true=>
 rw[g]at h;refine ah (ag (wV L M ht ha rfl rfl ?_));cases i:(d==d')with
 |false=>rw[i]at h;exact ah (ah (ah h))
 |true=>rw[i]at h;exact ah (ah (ah h))
omit M ht ha hz in
theorem Ec{c:Value}{x y z w:Int}(h:V k c (.agg [.lit (.int .i64 x),.lit (.int .i64 y),.lit (.int .i64 z),.lit (.int .i64 w)])):c=.agg #[.int .i64 x,.int .i64 y,.int .i64 z,.int .i64 w]:=by
 cases h with
 | agg c l b a=>
   obtain⟨d⟩:=c
   match d,b,a with
   |[p,q,r,s],_,a=>have e:=a 0 p _ rfl rfl;have f:=a 1 q _ rfl rfl;have g:=a 2 r _ rfl rfl;have i:=a 3 s _ rfl rfl;cases e;cases f;cases g;cases i;rfl
theorem Gb{o:Oper}{env:Env}{σ:aa}{K Kp:adm}{i:Nat}{x y:adT}{a b c d a' b' c' d':Int}(j:o.op=.binOp .neq t x y i)(l:ao env x=.agg [.lit (.int .i64 a),.lit (.int .i64 b),.lit (.int .i64 c),.lit (.int .i64 d)])(m:ao env y=.agg [.lit (.int .i64 a'),.lit (.int .i64 b'),.lit (.int .i64 c'),.lit (.int .i64 d')])
 (n:K (.lit (.bool (!(a==a' && (b==b' && (c==c' && d==d')))))) σ):aJ P o env σ K Kp:=
 aJ.val (s:=λe=>do eqGuard .neq t x y (e x) (e y);binOp .neq t (e x) (e y)) (λe=>by simp[execOp,j]) λk O e f p=>by
  have g:=f x (by simp_all);have h:=f y (by simp_all);rw[l]at g;rw[m]at h;rw[Ec g,Ec h];refine ag (?_:dK P (eqGuard .neq t x y _ _) k O _ _);unfold eqGuard;simp only[Bool.not_true,LK,Rp];refine ag (bo (ag ?_));refine bo ?_;rw[M.hg];refine ah ?_;exact ag (s:=Op.equal t _ _) (Ga L M ht ha hz (ah (.here ⟨.refl k,_,σ,.lit _,p,n⟩)))
end
section
variable{P:adS}{m:Mo}{fid n:Nat}{ro:adw}{hold:adv}{s:St}{K:ada}{k:adD}
def af.op{ops:adu}{i:Nat}{rest:adH}{o:Oper}(f:ops[i]?=some o)(g:bV ops n s.env o)(b:Oper.ok n o=true)(d:∀c,o.op≠.defer c)
 (h:aJ P o s.env s.σ (λa σ'=>af P m fid n ro hold (.inRegion ops rest::k) {s with env:=bd s.env o.dst a,σ:=σ'} K) (λa σ'=>K (.panic a) {s with σ:=σ'})):
 af P m fid n ro hold (.inRegion ops (i::rest)::k) s K:=λe=>Go.op f g b d (h.mono λa σ' q=>q (by simpa[jS,lg]using e))
end
def eY{α:Type}(P:adS):Sem α->Option α
 |.pure a=>some a
 |.program g=>eY P (g P)
 |_=>none
def o6{α:Type}{P:adS}{k:aj}{O:ak}{K:α->adp}{Kp:acR}{a:α}:∀(s:Sem α),eY P s=some a->K a k O->dK P s k O K Kp
 |.pure b,h,c=>by simp only[eY,kn]at h;subst h;exact c
 |.program g,h,c=>o6 (g P) h c
 |.load ..,h,_=>by simp[eY]at h
 |.store ..,h,_=>by simp[eY]at h
 |.new ..,h,_=>by simp[eY]at h
 |.shape ..,h,_=>by simp[eY]at h
 |.freeze ..,h,_=>by simp[eY]at h
 |.frozen ..,h,_=>by simp[eY]at h
 |.getObj ..,h,_=>by simp[eY]at h
 |.setObj ..,h,_=>by simp[eY]at h
 |.choose ..,h,_=>by simp[eY]at h
 |.sys ..,h,_=>by simp[eY]at h
 |.mark ..,h,_=>by simp[eY]at h
 |.halt ..,h,_=>by simp[eY]at h
def vR(P:adS)(e:adq->Sem Value)(args:adL)(σ:aa)(K:adm):Prop:=∀k O (d:adx),Vs k d args->Rel k O σ->dK P (e d.toArray) k O (λv c f=>k.Le c->∃a b,V c v a/\Rel c f b/\K a b) (λ_ _ _=>False)
section
variable{P:adS}(L:jo P){m:Mo}{f:FuncId}{fn:Func}
def vS{e:adq->Sem Value}{k:aj}{O:ak}{b:adq}{K:Go.Next->adp}{Kp:acR}(c:P.funcs[f]?=some fn)(hb:fn.body=none)(a:(fn.name==  "runtime.NumGoroutine")=false)(d:Extern.findNext fn=none)(g:Extern.find fn=some e)
 (h:dK P (e b) k O (λv k' O'=>K (.value v) k' O') Kp):dK P (callFunc f b) k O K Kp:=by
 unfold callFunc;refine ag (bo ?_);rw[c];simp only[a,hb,Option.isNone_none,LK,Rp,aaA];refine ag (s:=mark (.extern f)) ⟨rfl,?_⟩;simp only[d,g];exact ag (ju _ h (λ_ _ _ h=>ah h) (λ_ _ _ h=>h))
def bI.ext{e:adq->Sem Value}{args:adL}{σ:aa}{n:adl}(o:P.funcs[f]?=some fn)(hb:fn.body=none)(d:(fn.name==  "runtime.NumGoroutine")=false)(p:Extern.findNext fn=none)(q:Extern.find fn=some e)
 (h:vR P e args σ λa σ'=>n (.val a) σ'):bI P m (.fn (.func f) [] []) args σ n:=λQ k O cf b fr cs g c r i j l w x=>by
 cases g with
 | fn _ s t y z A B C D=>
   refine dP ?_;simp only[Deferred.ofValue];refine ag (ah ?_);simp only[Go.invoke];obtain rfl:s=#[]:=by simp_all
   obtain rfl:t=#[]:=by simp_all
   refine vS o hb d p q ?_;rw[show(#[]++b.toArray++#[]:adq)=b.toArray by simp];refine ju _ (h k O b c r) (λv E F G u=>?_) (λ_ _ _ h=>h.elim)
   grind
variable{fid n:Nat}{ro:adw}{hold:adv}{s:St}{K:ada}{k:adD}
def af.P5{ops:adu}{i:Nat}{is:adH}{o:Oper}{recv:adT}{name:String}{args:adi}{u:ado}{t f:Nat}{a a':AV}{fn:Func}{e:adq->Sem Value}(I:ops[i]?=some o)(y:o.op=.call ⟨.invoke recv name,args,u⟩)(M:bV ops n s.env o)(z:Oper.ok n o=true)
 (N:ao s.env recv=.lM t a) (R:oE P t name f a a') (S:P.funcs[f]?=some fn) (hb:fn.body=none) (A:(fn.name==  "runtime.NumGoroutine")=false) (U:Extern.findNext fn=none) (W:Extern.find fn=some e)
 (h:vR P e (a'::args.toList.map (ao s.env)) s.σ (λx σ'=>af P m fid n ro hold (.inRegion ops is::k) {s with env:=bd s.env o.dst x,σ:=σ'} K)):
 af P m fid n ro hold (.inRegion ops (i::is)::k) s K:=λB Q kk O tmps defs kind cs X p Y=>by
 refine T.oz (λw=>dT I (ij p.size p.env M) (.inr λc e=>by simp_all) w) (dP ?_)
 have b:∀x∈o.op.operands,V kk (Frame.eval ⟨fid,tmps,.inRegion ops (i::is)::k,defs,.run,kind,ro⟩ x) (ao s.env x):=λx Z=>by
  refine V.eval p.env p.size x ?_;simp only[Oper.ok,zj,aaK]at z
  grind
 have q:=b recv (by simp_all);rw[N]at q;have d:=Vs.ofArray (k:=kk) (ρ:=Frame.eval ⟨fid,tmps,.inRegion ops (i::is)::k,defs,.run,kind,ro⟩) (env:=s.env) (xs:=args) (λx Z=>b x (by simp_all));generalize hq:Frame.eval _ recv=cf at q;cases q with
 | lM _ v _ C=>
   simp only[execOp,y,resolve,hq];refine ag (ah ?_);rw[rK];unfold callMethod;simp only;refine ag (bo ?_);refine ag (R kk O v _ _ C λr D=>?_);refine vS S hb A U W ?_;have e:#[r]++args.map (Frame.eval ⟨fid,tmps,.inRegion ops (i::is)::k,defs,.run,kind,ro⟩)=(r::(args.map (Frame.eval ⟨fid,tmps,.inRegion ops (i::is)::k,defs,.run,kind,ro⟩)).toList).toArray:=by simp
   rw[e];refine ju _ (h kk O _ (.cons D ⟨by grind,λj v a q ha=>d.2 j v a (by grind) ha⟩) p.rel) (λcv J L E g=>?_) (λ_ _ _ h=>h.elim);obtain⟨av,σ',F,H,E⟩:=E g;obtain⟨l,e1,e2⟩:=p.put (fid:=fid) (ro:=ro) (rest:=is) (kk:=k) g I F H;show T P m Q J L (G (Frame.finish ⟨fid,tmps,.inRegion ops (i::is)::k,defs,.run,kind,ro⟩ cv) (fU s.rc cs));rw[e1];exact E (by simpa[jS,lg]using B) Q J L l defs kind cs X e2 (Y.mono g)
end
def AF{k:aj}{v u:Value}:V k v (.lit u)↔v=u:=⟨λh=>by cases h;rfl,λh=>h ▸ .lit v⟩
def Vf{k:aj}{v:Value}{b off:Nat}:V k v (.ref b off)↔v=.pointer (some ⟨b,off,none⟩):=⟨λh=>by cases h;rfl,λh=>h ▸ .ref b off⟩
def Rc{k:aj}{v:Value}{t:TypeId}{a:AV}:V k v (.lM t a)↔∃u,v=.iface t u/\V k u a:=⟨λh=>by cases h with|lM _ u _ h=>simp_all,λ⟨u,e,h⟩=>e ▸ .lM t u a h⟩
def Gc{k:aj}{v:Value}{a:AV}:V k v (.agg [a])↔∃x,v=.agg #[x]/\V k x a:=by
 constructor
 . intro h
   cases h with
   | agg c _ b d=>
     obtain⟨c⟩:=c
     match c,b with
     |[x],_=>exact⟨x,rfl,d 0 x a rfl rfl⟩
 . rintro⟨x,rfl,h⟩
   refine .agg _ _ rfl λi v e f g=>?_
   grind
section
open Go.Extern
variable{P:adS}(L:jo P){σ:aa}{K:adm}
def vR.pure{e:adq->Sem Value}{args:adL}{v:Value}{a:AV}(c:∀k b,Vs k b args->eY P (e b.toArray)=some v)(ha:∀k,V k v a)(d:K a σ):vR P e args σ K:=λk O b f g=>by exact o6 _ (c k b f) λ_=>⟨a,σ,ha k,g,d⟩
end
section
variable{P:adS}(L:jo P){o:Oper}{env:Env}{σ:aa}{K:adm}{Kp:adm}
def qu{t n e:Nat}{parts:acQ}{i b:TI}{l:adL}(c:o.op=.build t parts)(ht:L.tt t=some i)(g:i.kind=.array n e)(h:L.tt e=some b)(hz:(lN i.zero).cells.all AV.flat=true)
 (m:kT (λj=>some (j*b.size,b.size)) (lN i.zero).cells (parts.toList.map λp=>(p.1,ao env p.2))=some l) (q:K (.agg l) σ):aJ P o env σ K Kp:=
 aJ.val (s:=λρ=>Instr.build t (parts.map λ(i,x)=>(i,ρ x))) (λρ=>by simp[execOp,c]) λk O ρ r u=>by
  obtain⟨v,f⟩:=uB (k:=k) (ρ:=ρ) (env:=env) (parts:=parts) λp f=>r p.2 (by simp[c,Op.operands];grind)
  obtain⟨y,w,a⟩:=wG _ _ i.zero.cells _ l v f (xp hz) m;unfold Instr.build;refine ag (cT L ht (ag (aG L ht λd _ hd=>?_)));rw[oB hd g];dsimp only;refine ag (bG L h ?_);rw[w];exact ah (.here ⟨.refl k,.agg l,σ,.agg _ _ a.1 a.2.1,u,q⟩)
def pe{op:BinOp}{t d:Nat}{x y:adT}{vx vy r:Value}(c:o.op=.binOp op t x y d)(e:∀k v,V k v (ao env x)->v=vx)(f:∀k v,V k v (ao env y)->v=vy)(g:eY P (do eqGuard op t x y vx vy;binOp op t vx vy)=some r)(h:K (.lit r) σ):aJ P o env σ K Kp:=
 aJ.val (s:=λa=>do eqGuard op t x y (a x) (a y);binOp op t (a x) (a y)) (λa=>by simp[execOp,c]) λk O a b i=>by
  have j:=e k _ (b x (by simp[c,Op.operands]));have l:=f k _ (b y (by simp[c,Op.operands]));simp only[j,l];exact o6 _ g (.here ⟨.refl k,_,σ,.lit _,i,h⟩)
def V.P6{k:aj}{v:Value}{t:Nat}(h:V k v (.lM t (.agg []))):v=.iface t (.agg #[]):=by
 obtain⟨u,rfl,a⟩:=Rc.1 h;cases a with
 |agg c l b _=>simp_all
end
def Si(b:Nat)(l:adL)(hole:adH)(a a':AV):Prop:=a=a'\/∃off,a=.ref b off/\a'=.kp b l hole off
def Si.sound{k:aj}{b:Nat}{l:adL}{hole:adH}{a a':AV}{v:Value}(h:Si b l hole a a')(d:∀off,V k (.pointer (some ⟨b,off,none⟩)) (.kp b l hole off))(c:V k v a):V k v a':=by
 rcases h with rfl|⟨off,rfl,rfl⟩
 . exact c
 . cases c;exact d off
section
variable{P:adS}{m:Mo}{fid n:Nat}{ro:adw}{hold:adv}{todo:adD}{K:ada}{env env':Env}{σ:aa}{D:adO}{rc:Rec}
def Rel.Sj{k:aj}{O:ak}{b:Nat}{l:adL}{hole:adH}{bw:Nat}{l1 l2:adL}(g:Rel k O σ)(o:∀off,V k (.pointer (some ⟨b,off,none⟩)) (.kp b l hole off))(h:σ bw=some (.cells l1))(u:l1.length=l2.length)(p:∀(i:Nat) a a',l1[i]?=some a->l2[i]?=some a'->Si b l hole a a'):Rel k O (σ.set bw (.cells l2)):=⟨λc y d f=>by
 by_cases e:c=bw
 . subst e
   simp only[aa.set,aaA,kn]at d;subst d;obtain⟨z,hz,j⟩:=g.1 c _ h (by simp);cases j with
   | cells q e _ w r s=>
     refine⟨_,hz,.cells q e l2 (by omega) (λi v a' t m=>?_) s⟩;have n:i<l1.length:=by grind
     exact(p i l1[i] a' (by simp[n]) m).sound o (r i v _ t (by simp[n]))
 . exact g.1 c y (by simpa[aa.set,e]using d) f,λc y d f=>by
 by_cases e:c=bw
 . subst e
   simp only[aa.set,aaA,kn]at d;subst d;cases f
 . exact g.2 c y (by simpa[aa.set,e]using d) f⟩
def Go.part(b:Nat)(l:adL)(hole:adH)(f:Nat->adn){bw:Nat}{l1 l2:adL}(hb:σ b=some (.cells l))(q:∀i v,f i=some v->l[i]?=some (.lit v))(r:∀i,f i=none↔i∉hole)(d:∀t,Si b l hole (env t) (env' t))(j:bw≠b)(o:σ bw=some (.cells l1))(s:l1.length=l2.length)(u:∀(i:Nat) a a',l1[i]?=some a->l2[i]?=some a'->Si b l hole a a')
 (h:Go P m fid n ro todo ⟨env',(σ.set b (.part f)).set bw (.cells l2),D,rc⟩ K):Go P m fid n ro todo ⟨env,σ,D,rc⟩ K:=by
 intro Q k O tmps defs kind cs w e x;refine T.QP e.rel hb q r rfl λy z c p g=>?_
 exact h Q y z tmps defs kind cs w ⟨e.size,λt ht=>(d t).sound p ((e.env t ht).mono c),g.Sj p (by rw[aa.ai _ _ j];exact o) s u,e.ds.mono c,e.rc.mono c⟩ (x.mono c)
def af.part(b:Nat)(l:adL)(hole:adH)(f:Nat->adn){bw:Nat}{l1 l2:adL}(hb:σ b=some (.cells l))(j:∀i v,f i=some v->l[i]?=some (.lit v))(k:∀i,f i=none↔i∉hole)(c:∀t,Si b l hole (env t) (env' t))(d:bw≠b)(e:σ bw=some (.cells l1))(o:l1.length=l2.length)(p:∀(i:Nat) a a',l1[i]?=some a->l2[i]?=some a'->Si b l hole a a')
 (h:af P m fid n ro hold todo ⟨env',(σ.set b (.part f)).set bw (.cells l2),D,rc⟩ K):af P m fid n ro hold todo ⟨env,σ,D,rc⟩ K:=λg=>Go.part b l hole f hb j k c d e o p (h g)
end
def af.draw{P:adS}(L:jo P){m:Mo}{fid n id:Nat}{ro:adw}{hold:adv}{ops:adu}{k:adD}{env:Env}{σ:aa}{D:adO}{rc:Rec}{K:ada}(p:jN)(c:(hold.find? λe=>e.id==id)=some ⟨id,p⟩)
 (h:aM P m ops n (RE ⟨env,σ,D,rc⟩ K) p env σ (RD P m fid n ro hold k ⟨env,σ,D,rc⟩ K)):af P m fid n ro hold (.code (.region id ops true)::k) ⟨env,σ,D,rc⟩ K:=λa=>by
 have b:sU ops ⟨id,p⟩=true:=by simp only[jS,abj,lg,c,zj]at a;exact a.1
 simp only[sU,zj]at b;refine Go.draw L.mixed b.1 λl d f g=>?_
 exact cW.mono (λenv σ h=>h (by simp only[jS,abj,zj]at a ⊢;exact a.2)) _ _ _ (h _ _ _ b.2 l d f g (λ_ _ _ h=>by cases h))
def aM.one{P:adS}{m:Mo}{ops:adu}{n:Nat}{Kp:adm}{R:adh}{i:Nat}{o:Oper}{p:jN}{env:Env}{σ:aa}(d:ops[i]?=some o)(b:Oper.ok n o=true)(e:o.guard=none)(f:∀c,o.op≠.defer c)(h:aJ P o env σ (λa σ'=>aM P m ops n Kp p (bd env o.dst a) σ' R) Kp):aM P m ops n Kp (.one i p) env σ R:=iX.one ⟨o,d,b,.inl ⟨bW e,.inr ⟨f,h⟩⟩⟩
def aM.take{P:adS}(L:jo P){m:Mo}(mu:adH){ops:adu}{n:Nat}{Kp:adm}{R:adh}{S:adH}{lt:Bool}{p:jN}{env:Env}{σ:aa}(h:BE L mu ops n lt σ (λa=>aM P m ops n Kp p a σ R) .mk S env):aM P m ops n Kp (.take S lt p) env σ R:=iX.take L mu (nO L h)
def af.Vg{P:adS}{fid n:Nat}{ro:adw}{hold:adv}{s:St}{kk:adD}{K:ada}{A:bH}{Fin:acP}{c:Code}(I:Nat->St->Prop)(d:I 0 s)
 (e:∀r k s,k+(r+1)=A.n->I k s->(∀s',I (k+1) s'->af P (pH P A Fin r) fid n ro hold (.inLoop c::kk) s' K)->af P (pH P A Fin (r+1)) fid n ro hold (.code c::.inLoop c::kk) s K)
 (j:∀s,I A.n s->af P (pH P A Fin 0) fid n ro hold (.code c::.inLoop c::kk) s K):af P (pH P A Fin A.n) fid n ro hold (.code (.loop c)::kk) s K:=λa=>by
 have f:lg hold c=true:=by simp only[jS,abj,lg,zj]at a;exact a.1
 have key:∀r k s,k+r=A.n->I k s->af P (pH P A Fin r) fid n ro hold (.code c::.inLoop c::kk) s K:=λr=>by
  induction r with
  |zero=>simp_all
  |succ r g=>exact λk s h i=>e r k s h i λs' b=>af.again f (g (k+1) s' (by omega) b)
 exact af.u6 (key A.n 0 s (by omega) d) a
def V.ZS{k:aj}{v:Value}{a a':AV}(e:a.cells=[a])(m:a'.cells=[a'])(h:∀u,V k u a->V k u a')(f:V k v (.cp a 0)):V k v (.cp a' 0):=by
 cases f with
 | cp b base off N E v c g i d l=>
   rw[e]at i d l;refine .cp b base 0 N E a' c g (by simp_all) (λj n=>d j (by simp_all)) (λj x ha=>?_)
   grind
def af.Vh{P:adS}{fid g:Nat}{ro:adw}{s:St}{K:ada}{m:Mo}{todo:adD}{hold:adv}(d:m.solo=true){n fb fo gb mb:Nat}{GI:gn->Prop}(val:adA){nm:zv}{ng:IL}(C:gT P ng)(X:iN P ng)(r:gF P nm)(t:gJ P nm)(F:mI P nm)(u:n<=900)(v:fb≠gb)(w:fb≠mb)(x:gb≠mb){a:gn}{e:Nat->adn}
 (y:s.σ gb=some (.cells [.lit (.int .u64 0),.lit (.int .u32 0)])) (z:s.σ fb=some (.part e)) (i:e fo=some (.int .i32 0)) (k:e (fo+1)=some (.int .u32 0)) (l:∀j,j<n->e (fo+2+j)≠none) (B:s.σ mb=some a) (o:a.gone=false) (p:GI a) (q:s.rc=.no)
 (h:∀(A:bH),(A.n=n/\A.fb=fb/\A.fo=fo/\A.gb=gb/\A.mb=mb/\A.nm=nm/\A.ng=ng/\A.dir=true/\A.GI=GI/\A.val=val)->∀(Fin:acP) (kd:adK) (c:adt) (f:aj),rU P m fid g ro K kd c f Fin ->
   af P (pH P A Fin A.n) fid g ro hold todo {s with σ:=((s.σ.del gb).del mb).set fb .ig,rc:=.told kd c f} (λ_ _=>False)):af P m fid g ro hold todo s K:=
 af.Ve d ⟨n,true,fb+gb+mb+1,fb,fo,gb,mb,GI,λ_=>.cD,val,nm,ng,u,by omega,by omega,by omega,v,w,x⟩ rfl C X r t F y z i k l B o p q λb hb Fin kd c f D=>h _ ⟨rfl,rfl,rfl,rfl,rfl,rfl,rfl,gW.yj _ _ _,rfl,rfl⟩ Fin kd c f D
def yw(ft:Nat):Option TypeDesc->Bool
 |some (.struct fs)=>(match fs.toList with|[f,g]=>(f.name !=  "_" && g.name !=  "_") && (f.type==ft && g.type==ft) && (f.offset==0 && g.offset==1)|_=>false)
 |_=>false
def C8.of{P:adS}{mt b c ft:Nat}{kd:IntKind}(e:P.underlying mt=some (.map b c))(a:yw ft (P.underlying b)=true)(h:P.underlying ft=some (.int kd))(i:P.stoodInHeld b=false):C8 P mt b c ft kd:=by
 refine⟨e,?_,h,i⟩;generalize P.underlying b=d at a;unfold yw at a;split at a
 . next fs=>
   split at a
   . next f g j=>
     simp only[zj,bne_iff_ne,abI]at a;refine⟨f,g,?_,a.1.1,a.1.2,a.2⟩;congr 2
     grind
   . cases a
 . cases a
end
open Go.Conc Go.Extern
section
variable{P:adS}{σ:aa}{K:adm}{b o:Nat}{a:AV}{l:adL}{n n':Int}
def Gd(ha:jH b o a)(f:σ b=some (.cells l))(i:l[o]?=some (.lit (.int .u32 n)))(j:K (.lit (.int .u32 n)) σ):vR P (Atomic.loadT (.int .u32)) [a] σ K:=λk O t m h=>by
 obtain⟨v,rfl,g⟩:=m.one;obtain rfl:=ha _ _ g;obtain⟨c,e,p,w,q,x⟩:=h.wU f;have d:o<c.size:=by grind
 have r:c[o]?=some (.int .u32 n):=by rw[aaM d];have:=q o c[o] _ (aaM d) i;generalize c[o]=u at this;cases this;rfl
 show dK P (Atomic.loadT (.int .u32) #[.pointer (some ⟨b,o,none⟩)]) k O _ _;unfold Atomic.loadT;refine ag (ah ?_);unfold Atomic.read;refine ag (s:=load ⟨b,o,none⟩ .atomic) ⟨rfl,_,⟨rfl,.inr ⟨c,e,_,p,r⟩⟩,ah ?_⟩;simp only[aaA];exact ah λ_=>⟨_,σ,.lit _,h,j⟩
def Ed(ha:jH b o a)(f:σ b=some (.cells l))(j:o<l.length)(m:K (.ck []) (σ.set b (.cells (l.set o (.lit (.int .u32 n)))))):vR P Atomic.storeT [a,.lit (.int .u32 n)] σ K:=λk O p d g=>by
 match p,d with
 | [v, x],d=>
   obtain rfl:=ha _ _ (d.2 0 v a rfl rfl);obtain rfl:=AF.1 (d.2 1 x _ rfl rfl);obtain⟨c,e,q,r,t,u⟩:=g.wU f;show dK P (Atomic.storeT #[.pointer (some ⟨b,o,none⟩),.int .u32 n]) k O _ _;unfold Atomic.storeT;refine ag (ah ?_);refine ag (s:=store ⟨b,o,none⟩ (.int .u32 n) .atomic) ⟨rfl,rfl,rfl,.inl ⟨c,e,q,by simp_all,ah (ah λ_=>⟨_,_,.ck _ _ rfl (λi v a h=>by simp at h),g.set (.cells _ _ _ (by simp_all) (λi v a d ha=>?_) (λi v d=>?_)),m⟩)⟩⟩
   . by_cases e:i=o
     . subst e
       rw[LF (by simp_all)]at d;rw[abB j]at ha;cases d;cases ha;exact .lit _
     grind
   . by_cases e:i=o
     . subst e
       rw[LF (by simp_all)]at d;cases d;rfl
     grind
end

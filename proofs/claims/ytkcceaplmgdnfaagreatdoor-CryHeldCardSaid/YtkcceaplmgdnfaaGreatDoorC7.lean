import Derived.Conc.ClockLaws
import Derived.Conc.MarkLaws
import Derived.Conc.AtomicLaws2
import Derived.Conc.SmallLaws
import Derived.Laws.LoneSync
import Derived.Test.YtkcceaplmgdnfaaGreatDoorC6
set_option linter.all false
namespace Go.cz
open Go.Conc
abbrev adi:=List (Nat × SV)
def ba(s:pD):Option (FuncId × List SV):=
 match s.mode,s.todo with
 | .run, .inRegion ops (i::_)::_=>match ops[i]? with
   | some o=>match z9 ops s.env o with
     | some true=>match o.op with
       | .call c=>match c.callee with
         |.value (.func f)=>some (f,c.args.toList.map (sv s.env))
         |_=>none
       |_=>none
     |_=>none
   |none=>none
 |_,_=>none
def rf(s:pD):Option (TypeId × SV):=
 match s.mode,s.todo with
 | .run,.inRegion ops (i::_)::_=>match ops[i]? with
   | some o=>match z9 ops s.env o with
     | some true=>match o.op with
       |.load t x=>some (t,sv s.env x)
       |_=>none
     |_=>none
   |none=>none
 |_,_=>none
structure Ext(P:adI)(f:FuncId)  e :Prop where
 ex:∃fn,P.funcs[f]?=some fn/\(fn.name==  "runtime.NumGoroutine")=false/\fn.body.isNone=true/\Extern.findNext fn=none/\Extern.find fn=some e
def dq {y s fr f svs} (j:FR y s fr) (h:ba s=some (f,svs)) :
 ∃ ops i rest kk o as a,ops[i]? = some o∧Region.wanted o (yielded ops fr.tmps)=true∧o.op = .call { callee:=.value (.func f),args:=as,argTypes:=a }∧svs=as.toList.map (sv s.env) ∧
   fr=(fr.at ⟨fr.tmps,fr.defers⟩ (.inRegion ops (i :: rest) :: kk))∧∀ v,fr.at ((⟨fr.tmps,fr.defers⟩:Act).put o.dst v) (.inRegion ops rest :: kk)=fr.finish v:=by
 have d:=j;obtain⟨fn,tmps,todo,defs,mode,kind,ro⟩:=fr;obtain⟨n,e,p,b,q,k,r,t⟩:=j;simp only at n e p b q k r t;subst k;unfold ba at h;split at h
 . rename_i ops i rest kk u w
   rw[u] at b;rw[w] at e;have b:mode = .run:=b;subst b;subst e;split at h
   . rename_i o l
     split at h
     . rename_i x
       split at h
       . rename_i c z
         split at h
         . rename_i g m
           simp only[kn,zH] at h;obtain⟨rfl,rfl⟩:=h;obtain⟨callee,args,a⟩:=c;simp only at m;subst m;refine⟨ops,i,rest,kk,o,args,a,l,pT d x,z,rfl,rfl,fun v=>?_⟩
           simp only[Frame.finish,l,Option.bind_some,Act.put,Frame.at]
           grind
         . cases h
       . cases h
     . cases h
   . cases h
 . cases h
section
variable{P:adI}{main:Bool}{y:Sy}{s:pD}{fr:Frame}{f:FuncId}{svs:List SV}{cs:adu}{w:World}
def Dg{fr:Frame}  x :(⟨fr.tmps,fr.defers⟩:Act).eval x=fr.eval x:=by cases x<;>rfl
def BI {as:Array adJ} (b:FR y s fr) {svs} (h:svs=as.toList.map (sv s.env)):∀ (j:Nat)  v ,svs[j]? = some v->∃ x,(as.map (⟨fr.tmps,fr.defers⟩:Act).eval)[j]? = some x∧SR y v x:=fun j v a=>by
 subst h;rw[abk,acX] at a;obtain⟨x,c,rfl⟩:=aaS.1 a;exact⟨fr.eval x,by simp[c,Dg],b.sv x⟩
def fa {m} (d:∀ g,m ≠ .extern g) (c:FR y s fr) (h:ba s=some (f,svs)) (e:s.kind ≠ .early) (j:Ext P f (fun _=>do mark m;pure Extern.Race.none_)):stepG P main (G fr cs) w = .go (G (fr.finish (.tuple #[])) cs) w #[⟨.mark m,false,true⟩]:=by
 obtain⟨ops,i,rest,kk,o,as,k,l,n,p,x,z,A⟩:=dq c h;obtain⟨fn,q,r,t,u,v⟩:=j.ex;have:=stepG_mark0 (P:=P) (main:=main) (b:=fr) (a:=⟨fr.tmps,fr.defers⟩) (kk:=kk) (cs:=cs) (w:=w) (rest:=rest) m d l n (by rw[c.kind];exact e) p q r t u v
 grind
def fN {mk} (j:∀ ad g,mk ad ≠ .extern g) {ad} (d:FR y s fr) (h:ba s=some (f,[.lit (.pointer (some ad))])) (k:s.kind ≠ .early) (l:Ext P f (Extern.Race.marked mk)):stepG P main (G fr cs) w = .go (G (fr.finish (.tuple #[])) cs) w #[⟨.mark (mk ad),false,true⟩]:=by
 obtain⟨ops,i,rest,kk,o,as,m,n,p,q,r,B,C⟩:=dq d h;obtain⟨fn,t,u,v,z,A⟩:=l.ex;obtain⟨x,e,c⟩:=BI d r 0 _ rfl;have c:x = .pointer (some ad):=c;rw[c] at e;have:=stepG_markAt (P:=P) (main:=main) (b:=fr) (a:=⟨fr.tmps,fr.defers⟩) (kk:=kk) (cs:=cs) (w:=w) (rest:=rest) mk j n p (by rw[d.kind];exact k) q t u v z A e
 grind
def Dh {as a b c} (h:[a,b,c]=as.toList.map (sv s.env)):∃ x z u,as=#[x,z,u]∧sv s.env x=a∧sv s.env z=b∧sv s.env u=c:=by
 obtain⟨l⟩:=as
 match l,h with
 | [x,z,u],h=>grind
def Lu {as a b} (h:[a,b]=as.toList.map (sv s.env)):∃ x z,as=#[x,z]∧sv s.env x=a∧sv s.env z=b:=by
 obtain⟨l⟩:=as
 match l,h with
 | [x,z],h=>grind
def Lv {as a} (h:[a]=as.toList.map (sv s.env)):∃ x,as=#[x]∧sv s.env x=a:=by
 obtain⟨l⟩:=as
 match l,h with
 | [x],h=>grind
def iT(b:FR y s fr){x a}(h:sv s.env x=a):SR y a ((⟨fr.tmps,fr.defers⟩:Act).eval x):=by subst h;rw[Dg];exact b.sv x
def il {k ad a b v n} (c:FR y s fr) (h:ba s=some (f,[.lit (.pointer (some ad)),a,b])) (e:s.kind ≠ .early) (g:Ext P f (Extern.Atomic.casT (.int k)))
 (j:∀ x,SR y a x->x = .int k v) (hb:∀ x,SR y b x->x = .int k n) (l:w.cell? ad=some (.int k v)) (m:w.frozen? ad=false) :
 stepG P main (G fr cs) w = .go (G (fr.finish (.bool true)) cs) (w.setCell ad (.int k n)) #[⟨.cell ad,false,true⟩,⟨.cell ad,true,true⟩]:=by
 obtain⟨ops,i,rest,kk,o,as,p,q,r,t,A,J,K⟩:=dq c h;obtain⟨fn,B,C,D,E,F⟩:=g.ex;obtain⟨x,z,u,rfl,H,d,I⟩:=Dh A;have:=stepG_cas_hit (P:=P) (main:=main) (b:=fr) (a:=⟨fr.tmps,fr.defers⟩) (kk:=kk) (cs:=cs) (w:=w) (rest:=rest) q r (by rw[c.kind];exact e) t B C D E k F (iT c H) (j _ (iT c d)) (hb _ (iT c I)) l m
 grind
def iJ {k ad a b v old n} (c:FR y s fr) (h:ba s=some (f,[.lit (.pointer (some ad)),a,b])) (g:s.kind ≠ .early) (j:Ext P f (Extern.Atomic.casT (.int k)))
 (l:∀ x,SR y a x->x = .int k old) (hb:∀ x,SR y b x->x = .int k n) (m:w.cell? ad=some (.int k v)) (p:w.frozen? ad=false) (d : ¬ v=old) :
 stepG P main (G fr cs) w = .go (G (fr.finish (.bool false)) cs) w #[⟨.cell ad,false,true⟩]:=by
 obtain⟨ops,i,rest,kk,o,as,q,r,t,A,B,K,L⟩:=dq c h;obtain⟨fn,C,D,E,F,H⟩:=j.ex;obtain⟨x,z,u,rfl,I,e,J⟩:=Dh B;have:=stepG_cas_miss (P:=P) (main:=main) (b:=fr) (a:=⟨fr.tmps,fr.defers⟩) (kk:=kk) (cs:=cs) (w:=w) (rest:=rest) r t (by rw[c.kind];exact g) A C D E F k H (iT c I) (l _ (iT c e)) (hb _ (iT c J)) m p d
 grind
def pU {k ad a v d} (c:FR y s fr) (h:ba s=some (f,[.lit (.pointer (some ad)),a])) (g:s.kind ≠ .early) (j:Ext P f (Extern.Atomic.update (Op.intArith .add) k true))
 (l:∀ x,SR y a x->x = .int k d) (m:w.cell? ad=some (.int k v)) (n:w.frozen? ad=false) :
 stepG P main (G fr cs) w = .go (G (fr.finish (.int k (k.wrap (v+d)))) cs) (w.setCell ad (.int k (k.wrap (v+d)))) #[⟨.cell ad,false,true⟩,⟨.cell ad,true,true⟩]:=by
 obtain⟨ops,i,rest,kk,o,as,p,q,r,t,u,H,I⟩:=dq c h;obtain⟨fn,A,B,C,D,E⟩:=j.ex;obtain⟨x,z,rfl,F,e⟩:=Lu u;have:=stepG_add_atomic (P:=P) (main:=main) (b:=fr) (a:=⟨fr.tmps,fr.defers⟩) (kk:=kk) (cs:=cs) (w:=w) (rest:=rest) q r (by rw[c.kind];exact g) t A B C D k E (iT c F) (l _ (iT c e)) m n
 grind
def sS {ad l n} (d:FR y s fr) (h:ba s=some (f,.lit (.pointer (some ad)) :: l)) (g:s.kind ≠ .early) (j:Ext P f Extern.Sync.semacquire) (k:w.cell? ad=some (.int .u32 n)) (m:n≠0) (p:w.frozen? ad=false) :
 stepG P main (G fr cs) w = .go (G (fr.finish (.tuple #[])) cs) (w.setCell ad (.int .u32 (n-1))) (semEvents ad):=by
 obtain⟨ops,i,rest,kk,o,as,q,r,t,u,v,E,F⟩:=dq d h;obtain⟨fn,z,A,B,C,D⟩:=j.ex;obtain⟨x,e,c⟩:=BI d v 0 _ rfl;have c:x = .pointer (some ad):=c;rw[c] at e;have:=stepG_semacquire (P:=P) (main:=main) (b:=fr) (a:=⟨fr.tmps,fr.defers⟩) (kk:=kk) (cs:=cs) (w:=w) (rest:=rest) r t (by rw[d.kind];exact g) u z A B C D e k m p
 grind
def Af {ad l} (d:FR y s fr) (h:ba s=some (f,.lit (.pointer (some ad)) :: l)) (g:Ext P f Extern.Sync.semacquire) (j:w.cell? ad=some (.int .u32 0)) :
 stepG P main (G fr cs) w = .go { G fr cs with status:=.blocked } w #[]:=by
 obtain⟨ops,i,rest,kk,o,as,k,m,n,p,q,A,B⟩:=dq d h;obtain⟨fn,r,t,u,v,z⟩:=g.ex;obtain⟨x,e,c⟩:=BI d q 0 _ rfl;have c:x = .pointer (some ad):=c;rw[c] at e;have:=stepG_semacquire_wait (P:=P) (main:=main) (b:=fr) (a:=⟨fr.tmps,fr.defers⟩) (kk:=kk) (cs:=cs) (w:=w) (rest:=rest) m n p r t u v z e j
 grind
def oy {ad l n} (d:FR y s fr) (h:ba s=some (f,.lit (.pointer (some ad)) :: l)) (g:s.kind ≠ .early) (j:Ext P f Extern.Sync.semrelease) (k:w.cell? ad=some (.int .u32 n)) (m:w.frozen? ad=false) :
 stepG P main (G fr cs) w = .go (G (fr.finish (.tuple #[])) cs) (w.setCell ad (.int .u32 (IntKind.u32.wrap (n+1)))) (semEvents ad):=by
 obtain⟨ops,i,rest,kk,o,as,p,q,r,t,u,D,E⟩:=dq d h;obtain⟨fn,v,z,A,B,C⟩:=j.ex;obtain⟨x,e,c⟩:=BI d u 0 _ rfl;have c:x = .pointer (some ad):=c;rw[c] at e;have:=stepG_semrelease (P:=P) (main:=main) (b:=fr) (a:=⟨fr.tmps,fr.defers⟩) (kk:=kk) (cs:=cs) (w:=w) (rest:=rest) q r (by rw[d.kind];exact g) t v z A B C e k m
 grind
def Ag (d:FR y s fr) (h:ba s=some (f,svs)) (e:s.kind ≠ .early) (g:Ext P f Extern.OsHooks.nano) (j:∃ fn,P.funcs[f]? = some fn∧fn.norace=true) :
 stepG P main (G fr cs) w = .go (G (fr.finish (.int .i64 ((w.os.mono+w.tick:Nat):Int))) cs) w.later #[]:=by
 obtain⟨ops,i,rest,kk,o,as,k,l,m,n,x,z,A⟩:=dq d h;obtain⟨fn,p,q,r,t,u⟩:=g.ex;obtain⟨c,B,v⟩:=j;obtain rfl:c=fn:=by grind
 have:=stepG_nanotime (P:=P) (main:=main) (b:=fr) (a:=⟨fr.tmps,fr.defers⟩) (kk:=kk) (cs:=cs) (w:=w) (rest:=rest) l m (by rw[d.kind];exact e) n p q r t u v
 grind
def IE {n} (d:FR y s fr) (h:ba s=some (f,[.lit (.int .i64 n)])) (g:s.kind ≠ .early) (v:Ext P f Extern.Sync.canSpin) :
 ∃ b w',stepG P main (G fr cs) w = .go (G (fr.finish (.bool b)) cs) w' #[]∧(b=true->n<4)∧(w'=w∨w'=w.asked):=by
 obtain⟨ops,i,rest,kk,o,as,z,j,l,m,e,B,C⟩:=dq d h;obtain⟨fn,p,q,r,t,u⟩:=v.ex;obtain⟨x,rfl,A⟩:=Lv e;have c:(⟨fr.tmps,fr.defers⟩:Act).eval x = .int .i64 n:=iT d A
 by_cases e:n<4
 . have:=stepG_canSpin_ask (P:=P) (main:=main) (b:=fr) (a:=⟨fr.tmps,fr.defers⟩) (kk:=kk) (cs:=cs) (w:=w) (rest:=rest) j l (by rw[d.kind];exact g) m p q r t u (n:=n) (k:=.i64) (by simp[c]) e
   grind
 . have:=stepG_canSpin_no (P:=P) (main:=main) (b:=fr) (a:=⟨fr.tmps,fr.defers⟩) (kk:=kk) (cs:=cs) (w:=w) (rest:=rest) j l (by rw[d.kind];exact g) m p q r t u (n:=n) (k:=.i64) (by simp[c]) (by omega)
   grind
def ui {v} (c:FR y s fr) (h:ba s=some (f,svs)) (d:s.kind ≠ .early) (e:Ext P f (fun _=>pure v)):stepG P main (G fr cs) w = .go (G (fr.finish v) cs) w #[]:=by
 obtain⟨ops,i,rest,kk,o,as,g,j,k,l,t,u,x⟩:=dq c h;obtain⟨fn,m,n,p,q,r⟩:=e.ex;have:=stepG_entry (P:=P) (main:=main) (b:=fr) (a:=⟨fr.tmps,fr.defers⟩) (kk:=kk) (cs:=cs) (w:=w) (rest:=rest) (v:=v) (w':=w) (evs:=#[]) j k (by rw[c.kind];exact d) l m n p q r (by simp) (by simp) (by simp)
 grind
def Lw{α β P}{f:α->Sem β}  s :∀{a},nf P s=some a->∀w es,(s.bind f).runT P w es=(f a).runT P w es:=by
 induction s with
 |pure b=>intro a h w es;simp only[nf,kn]at h;subst h;rfl
 |program g c=>intro a h w es;simp only[nf]at h;exact c P h w es
 |_=>intro a h;simp[nf]at h
def qN{t:Nat}{ad v}(q:FR y s fr)(h:rf s=some (t,.lit (.pointer (some ad))))(C:nf P (isAgg t)=some false)(D:∃fn,P.funcs[s.fn]?=some fn/\fn.norace=true)(E:w.cell? ad=some v):
 stepG P main (G fr cs) w=.go (G (fr.finish v) cs) w #[]:=by
 have f:=q;obtain⟨fn,tmps,todo,defs,mode,kind,ro⟩:=fr;obtain⟨r,i,F,g,H,u,I,J⟩:=q;simp only at r i F g H u I J;subst u;unfold rf at h;split at h
 . rename_i ops z rest A K j
   rw[K]at g;rw[j]at i;have g:mode=.run:=g;subst g;subst i;split at h
   . rename_i o L
     split at h
     . rename_i M
       split at h
       . rename_i a x k
         simp only[kn,zH]at h;obtain⟨rfl,N⟩:=h;have d:=f.sv x;rw[N]at d;have d:Frame.eval ⟨fn,tmps,.inRegion ops (z::rest)::A,defs,.run,kind,none⟩ x=.pointer (some ad):=d;obtain⟨O,l,p⟩:=D;subst r;rw[nM L (pT f M)];have hex:execOp (Frame.eval ⟨s.fn,tmps,.inRegion ops (z::rest)::A,defs,.run,kind,none⟩) o=Sem.bind (Instr.loadAt a (.pointer (some ad))) (λv=>pure (Next.value v)):=by simp only[execOp,k,d];rfl
         have e:(Sem.bind (Instr.loadAt a (.pointer (some ad))) (λv=>(pure (Next.value v):Sem Next))).runT P w #[]=(.ok (.value v) w,#[⟨.cell ad,false,false⟩]):=by
          have Q:Instr.loadAt a (.pointer (some ad))=Sem.bind (isAgg a) (λb=>if b=true then Sem.bind (sizeOf a) (λn=>Sem.bind (loadCells ad n) (λc=>pure (.agg c)))else load ad):=rfl
          rw[Q]
          have R:Sem.bind (Sem.bind (isAgg a) (λb=>if b=true then Sem.bind (sizeOf a) (λn=>Sem.bind (loadCells ad n) (λc=>pure (.agg c)))else load ad)) (λv=>(pure (Next.value v):Sem Next))=
           Sem.bind (isAgg a) (λb=>Sem.bind (if b=true then Sem.bind (sizeOf a) (λn=>Sem.bind (loadCells ad n) (λc=>pure (.agg c)))else load ad) (λv=>(pure (Next.value v):Sem Next))):=bind_assoc (m:=Sem) _ _ _
          rw[R,Lw _ C];show(Sem.bind (load ad) (λv=>(pure (Next.value v):Sem Next))).runT P w #[]=_
          unfold load;show Sem.runT P (Sem.load .plain ad λv=>pure (Next.value v)) w #[]=_
          simp only[Sem.runT,E];rfl
         rw[hex]
         have S:seen P s.fn #[⟨.cell ad,false,false⟩]=#[]:=by rw[seen_def];simp[l,p,seenStep]
         simp only[stepG.apply,aaO,e,GStep.after]
         by_cases B:(kind==CallKind.early)=true
         . simp[B,gS,G]
         . simp[B,S,G]
       . cases h
     . cases h
   . cases h
 . cases h
def kL(s:pD):Option (TypeId × TypeId × SV):=
 match s.mode,s.todo with
 | .run,.inRegion ops (i::_)::_=>match ops[i]? with
   | some o=>match z9 ops s.env o with
     | some true=>match o.op with
       |.convert a b x=>some (a,b,sv s.env x)
       |_=>none
     |_=>none
   |none=>none
 |_,_=>none
def uj{a b t ad}(l:FR y s fr)(h:kL s=some (a,b,.lit (.pointer (some ad))))(m:P.underlying a=some (.pointer t))(n:P.underlying b=some .unsafePointer)(p:(P.info? t).map (λi=>decide (i.size=0))=some false)(f:∃v,w.cell? ad=some v):
 stepG P main (G fr cs) w=.go (G (fr.finish (.pointer (some ad))) cs) w #[]:=by
 obtain⟨v,f⟩:=f;have d:=l;obtain⟨fn,tmps,todo,defs,mode,kind,ro⟩:=fr;obtain⟨z,g,A,e,B,q,C,D⟩:=l;simp only at z g A e B q C D;subst q;unfold kL at h;split at h
 . rename_i ops r rest u E j
   rw[E]at e;rw[j]at g;have e:mode=.run:=e;subst e;subst g;split at h
   . rename_i o F
     split at h
     . rename_i H
       split at h
       . rename_i I J x k
         simp only[kn,zH]at h;obtain⟨rfl,rfl,K⟩:=h;have c:=d.sv x;rw[K]at c;have c:Frame.eval ⟨fn,tmps,.inRegion ops (r::rest)::u,defs,.run,kind,none⟩ x=.pointer (some ad):=c;rw[nM F (pT d H)];have hex:execOp (Frame.eval ⟨fn,tmps,.inRegion ops (r::rest)::u,defs,.run,kind,none⟩) o=(do pure (.value (<-convert I J (.pointer (some ad)))):Sem Next):=by simp only[execOp,k,c]
         have L:=run_convert_to_unsafe m n p f;have M:=events_convert_to_unsafe m n p f #[];rw[hex];simp[stepG.apply,L,M,GStep.after,gS,G,Result.andThen]
       . cases h
     . cases h
   . cases h
 . cases h
end
def dJ(P:adI)(f:FuncId)(args:List SV)(kind:adE):pD:=
 match P.funcs[f]? with
 |some fn=>⟨f,[.code (fn.body.getD .skip)],args++List.replicate (fn.ntmps-args.length) .cJ,[],.run,kind⟩
 |none=>⟨f,[],args,[],.run,kind⟩
abbrev cT:=pD × List pD
def next(P:adI)(a:Fl)(c:cT)(v:SV):cT:=match xw c.1 v with|some s=>sgo P a 400 s c.2|none=>c
def pt(b o:Nat):SV:=.lit (.pointer (some ⟨b,o,none⟩))
def un:SV:=.lit (.tuple #[])
def tt:SV:=.lit (.bool true)
def ff:SV:=.lit (.bool false)
def Hm(live:adB)(env:List SV):List SV:=(List.range env.length).zipWith (λi v=>if live.contains i then v else .cJ) env
def keep(live:adB)(s:pD):pD:={s with env:=Hm live s.env}
def Lx(env:List SV):adi->List SV
 |[]=>env
 |(i,v)::l=>Lx (env.set i v) l
def FR.keep{y:Sy}{s:pD}{fr:Frame}(h:FR y s fr)(live:adB):FR y (keep live s) fr:=by
 refine⟨h.fn,h.todo,h.defers,h.mode,h.kind,h.ro,?_,λt=>?_⟩
 . rw[h.size]
   show s.env.length=(Hm live s.env).length;rw[Hm,List.length_zipWith,acw,Nat.min_self]
 . have:=h.env t
   simp only[Go.cz.keep,Hm];rw[zD,List.getElem?_zipWith];by_cases a:t<s.env.length
   . rw[List.getElem?_range a,zU a]
     simp only[abF];split
     . simp_all
     . trivial
   simp_all
def plain:SV->Bool
 |.cJ=>true
 |.lit _=>true
 |_=>false
def FR.gT{y y' s fr}(h:FR y s fr)(a:s.env.all plain=true):FR y' s fr:=by
 refine⟨h.fn,h.todo,h.defers,h.mode,h.kind,h.ro,h.size,λt=>?_⟩;have b:=h.env t
 have c:plain (s.env.getD t .cJ)=true:=by
  rw[zD];cases q:s.env[t]? with
  |none=>rfl
  |some v=>grind
 generalize s.env.getD t .cJ=v at *;cases v<;>simp_all [plain,SR]
structure Di where
 lock:Nat
 unlock:Nat
 Uq:Nat
 vX:Nat
 RX:Nat
 QY:Nat
 jy:Nat
 en:Nat
 acq:Nat
 rel:Nat
 kI:Nat
 add:Nat
 IF:Nat
 uk:Nat
 nano:Nat
 FC:Nat
 oz:Nat
 tM:Nat
 tU:Nat
 tI:Nat
def WL(c:cT):adB:=[c.1.fn,c.1.todo.length,(match c.1.todo with|.inRegion ops (i::_)::_=>i|_=>999),(match ba c.1 with|some (f,_)=>f|none=>match rf c.1 with|some (t,_)=>1000+t|none=>999)]++c.2.map (·.fn)
def lz:Fl:=⟨false,false,false,false,false,false⟩
def Ly(P:adI)(f:Fl):Nat->pD->List pD->cT
 |0,fr,st=>(fr,st)
 | n + 1,fr,st=>match ss P f fr st with
   | some (a,b)=>match a.todo with
     |.code _::.inLoop _::_=>(a,b)
     |_=>Ly P f n a b
   |none=>(fr,st)
def Dj(live:adB)(c:cT):cT:=(keep live c.1,c.2.map (keep []))
def aS(P:adI)(a:Fl)(live:adB)(c:cT)(v:SV):Option cT:=(xw c.1 v).map λs=>Dj live (sgo P a 400 s c.2)
def pV(P:adI)(a:Fl)(live:adB)(c:cT)(v:SV):Option cT:=(xw c.1 v).map λs=>Dj live (Ly P a 400 s c.2)
def Ur(P:adI)(a:Fl)(live:adB)(c:cT):cT:=Dj live (sgo P a 400 c.1 c.2)
def bl(x:Bool):SV:=.lit (.bool x)
def i64(n:Int):SV:=.lit (.int .i64 n)
def i32(n:Int):SV:=.lit (.int .i32 n)
def jk(n:Nat):List SV:=List.replicate n .cJ
section
variable(P:adI)(n:Di)(b o:Nat)(kind:adE)
def wf:SV:=.word false false false 0
def wl:SV:=.word true false false 0
def WM:cT:=Dj [0] (sgo P lz 400 (dJ P n.lock [pt b o] kind) [])
def Lz:cT:=next P lz (WM P n b o kind) un
def Us:cT:=next P lz (Lz P n b o kind) tt
def Ut:cT:=next P lz (Us P n b o kind) un
def WN:cT:=next P lz (Ut P n b o kind) (pt b o)
def FD:cT:=next P lz (Lz P n b o kind) ff
def ZO:cT:=(pV P lz [] (FD P n b o kind) wf).getD (FD P n b o kind)
def WO:cT:=next P lz (FD P n b o kind) wl
def XU:cT:=next P lz (WO P n b o kind) tt
def XV:cT:=next P lz (XU P n b o kind) tt
def WQ:cT:=next P lz (XV P n b o kind) un
def RY:cT:=next P lz (WO P n b o kind) ff
def WR:cT:=next P lz (RY P n b o kind) ff
def Uu:cT:=next P lz (next P lz (FD P n b o kind) wf) tt
def Uv:cT:=next P lz (Uu P n b o kind) un
def WT:cT:=next P lz (Uv P n b o kind) (pt b o)
def XW:cT:=next P lz (RY P n b o kind) tt
def XX:cT:=next P lz (XW P n b o kind) .ID
def XY:cT:=next P lz (XX P n b o kind) un
def XZ:cT:=next P lz (XY P n b o kind) .now
def ZP:cT:=next P lz (XZ P n b o kind) (.word false false true 0)
def Uw:List pD:=(WM P n b o kind).2
def Wq:List pD:=(FD P n b o kind).2.map (keep [])
def mL(a:adx)(l:adi):cT:=(⟨n.Uq,a,Lx (jk 13) l,[],.run,.normal⟩,Uw P n b o kind)
def cP(a:adx)(l:adi):cT:=(⟨n.RX,a,Lx (jk 139) l,[],.run,.normal⟩,Wq P n b o kind)
def LD:cT:=WM P n b o kind
def um:cT:=mL P n b o kind (Lz P n b o kind).1.todo [(0,pt b o),(5,pt b o)]
def QZ:cT:=mL P n b o kind (Us P n b o kind).1.todo [(0,pt b o)]
def Ty:cT:=mL P n b o kind (Ut P n b o kind).1.todo [(8,pt b o)]
def Q0:cT:=mL P n b o kind (WN P n b o kind).1.todo [(9,pt b o)]
def BK:cT:=(⟨n.lock,[],jk 6,[],.ret,kind⟩,[])
def Q1(aw sv:Bool)(it:Int):adi:=[(0,pt b o),(2,.ID),(3,bl sv),(4,bl aw),(5,i64 it)]
def Wr:cT:=cP P n b o kind (FD P n b o kind).1.todo [(0,pt b o),(2,i64 0),(3,ff),(4,ff),(5,i64 0),(12,pt b o)]
def RZ(aw sv:Bool)(it:Int):cT:=cP P n b o kind (FD P n b o kind).1.todo (Q1 b o aw sv it++[(12,pt b o)])
def Hn(aw sv:Bool)(it:Int):cT:=cP P n b o kind (WQ P n b o kind).1.todo (Q1 b o aw sv it++[(47,pt b o)])
def R1(aw sv:Bool)(it:Int):cT:=cP P n b o kind (WR P n b o kind).1.todo (Q1 b o aw sv it++[(133,pt b o)])
def HD(L K S aw sv:Bool)(it:Int):cT:=cP P n b o kind (ZO P n b o kind).1.todo (Q1 b o aw sv it++[(6,.word L K S 0)])
def SQ(K aw sv:Bool)(it:Int):cT:=cP P n b o kind (WO P n b o kind).1.todo (Q1 b o aw sv it++[(6,.word true K false 0),(17,tt),(18,i64 it)])
def SW(it:Int):cT:=cP P n b o kind (XU P n b o kind).1.todo (Q1 b o false false it++[(33,tt),(36,pt b o),(37,.word true false false 0),(39,.word true true false 0)])
def DS(aw sv:Bool)(it:Int):cT:=cP P n b o kind (XV P n b o kind).1.todo (Q1 b o aw sv it)
def Pp(L K S aw sv:Bool):SV:=.word (L||!S) (if aw then false else K) (S||(sv && L)) (if L||S then 1 else 0)
def Dk(L K S aw sv:Bool)(it:Int):cT:=cP P n b o kind (RY P n b o kind).1.todo (Q1 b o aw sv it++[(6,.word L K S 0),(77,pt b o),(78,.word L K S 0),(79,Pp L K S aw sv)])
def T1(sv:Bool):cT:=cP P n b o kind (XW P n b o kind).1.todo [(0,pt b o),(3,bl sv)]
def PK(sv:Bool):cT:=cP P n b o kind (XX P n b o kind).1.todo [(0,pt b o),(2,.ID),(3,bl sv),(91,pt b (o+1))]
def TQ:cT:=cP P n b o kind (XY P n b o kind).1.todo [(0,pt b o),(2,.ID),(95,ff)]
def UP(sv:Bool):cT:=cP P n b o kind (XZ P n b o kind).1.todo [(0,pt b o),(2,.ID),(3,bl sv),(103,pt b o)]
def AD(d:Int):cT:=cP P n b o kind (ZP P n b o kind).1.todo [(0,pt b o),(128,pt b o),(129,i32 d)]
def OW:cT:=cP P n b o kind (Uu P n b o kind).1.todo [(0,pt b o)]
def Tz:cT:=cP P n b o kind (Uv P n b o kind).1.todo [(136,pt b o)]
def Q2:cT:=cP P n b o kind (WT P n b o kind).1.todo [(137,pt b o)]
def WU:cT:=Dj [0,5] (sgo P lz 400 (dJ P n.unlock [pt b o] kind) [])
def Ux:cT:=next P lz (WU P n b o kind) .cJ
def X1:cT:=next P lz (Ux P n b o kind) (pt b o)
def X2:cT:=next P lz (X1 P n b o kind) un
def Ho:cT:=next P lz (X2 P n b o kind) un
def ZQ:cT:=next P {lz with n0:=true} (Ho P n b o kind) wf
def Wt:cT:=next P lz (Ho P n b o kind) wf
def ZR:cT:=next P lz (Ho P n b o kind) (.word false false true 0)
def ZS:cT:=next P lz (Wt P n b o kind) tt
def WV:cT:=next P lz (Wt P n b o kind) ff
def Uy:List pD:=(WU P n b o kind).2
def WW:List pD:=(Wt P n b o kind).2.map (keep [])
def pq(a:adx)(l:adi):cT:=(⟨n.vX,a,Lx (jk 21) l,[],.run,.normal⟩,Uy P n b o kind)
def vi(a:adx)(l:adi):cT:=(⟨n.QY,a,Lx (jk 43) l,[],.run,.normal⟩,WW P n b o kind)
def U0:cT:=WU P n b o kind
def TA:cT:=pq P n b o kind (Ux P n b o kind).1.todo [(0,pt b o),(7,pt b o)]
def UR:cT:=pq P n b o kind (X1 P n b o kind).1.todo [(0,pt b o),(8,pt b o)]
def UD:cT:=pq P n b o kind (X2 P n b o kind).1.todo [(0,pt b o)]
def rY:cT:=pq P n b o kind (Ho P n b o kind).1.todo [(0,pt b o),(13,pt b o),(14,.cJ)]
def UE:cT:=pq P n b o kind (ZQ P n b o kind).1.todo []
def UC:cT:=vi P n b o kind (Wt P n b o kind).1.todo [(0,pt b o),(27,pt b o),(28,wf),(29,.word false true false (-1))]
def G7:cT:=vi P n b o kind (ZS P n b o kind).1.todo [(33,pt b (o+1))]
def G9:cT:=vi P n b o kind (ZR P n b o kind).1.todo [(41,pt b (o+1))]
def OX:cT:=vi P n b o kind (WV P n b o kind).1.todo [(0,pt b o),(37,pt b o)]
def Uz:cT:=(⟨n.unlock,[],jk 6,[],.ret,kind⟩,[])
end
structure gF  P   n :Prop where
 e1:∀  fl  b o kind,aS P fl [0,5] (LD P n b o kind) un=some (um P n b o kind)
 e2:∀  fl  b o kind,aS P fl [0] (um P n b o kind) tt=some (QZ P n b o kind)
 e3:∀  fl  b o kind,aS P fl [0,2,3,4,5,12] (um P n b o kind) ff=some (Wr P n b o kind)
 e4:∀  fl  b o kind,aS P fl [8] (QZ P n b o kind) un=some (Ty P n b o kind)
 e5:∀  fl  b o kind,aS P fl [9] (Ty P n b o kind) (pt b o)=some (Q0 P n b o kind)
 e6:∀  fl  b o kind,aS P fl [] (Q0 P n b o kind) un=some (BK n kind)
 X3:∀  fl  b o kind L K S aw sv it,pV P fl [0,2,3,4,5,6] (RZ P n b o kind aw sv it) (.word L K S 0)=some (HD P n b o kind L K S aw sv it)
 R2:∀  fl  b o kind L K S aw sv it,pV P fl [0,2,3,4,5,6] (Hn P n b o kind aw sv it) (.word L K S 0)=some (HD P n b o kind L K S aw sv it)
 X4:∀  fl  b o kind L K S aw sv it,pV P fl [0,2,3,4,5,6] (R1 P n b o kind aw sv it) (.word L K S 0)=some (HD P n b o kind L K S aw sv it)
 e8:∀  fl  b o kind K aw sv it,Ur P fl [0,2,3,4,5,6,17,18] (HD P n b o kind true K false aw sv it)=SQ P n b o kind K aw sv it
 e9:∀  fl  b o kind L K S aw sv it,(L && !S)=false->(aw && !K)=false->Ur P fl [0,2,3,4,5,6,77,78,79] (HD P n b o kind L K S aw sv it)=Dk P n b o kind L K S aw sv it
 cX:∀(fl:Fl) b o kind it,aS P {fl with n0:=false} [0,2,3,4,5,33,36,37,39] (SQ P n b o kind false false false it) tt=some (SW P n b o kind it)
 UA:∀(fl:Fl) b o kind n0 K aw sv it,(!aw && !K && !n0)=false->aS P {fl with n0:=n0} [0,2,3,4,5] (SQ P n b o kind K aw sv it) tt=some (DS P n b o kind aw sv it)
 cq:∀  fl  b o kind K aw sv it,(aw && !K)=false->aS P fl [0,2,3,4,5,6,77,78,79] (SQ P n b o kind K aw sv it) ff=some (Dk P n b o kind true K false aw sv it)
 fq:∀  fl  b o kind r it,aS P fl [0,2,3,4,5] (SW P n b o kind it) (bl r)=some (DS P n b o kind r false it)
 FE:∀  fl  b o kind aw sv,aS P fl [0,2,3,4,5,47] (DS P n b o kind aw sv 0) un=some (Hn P n b o kind aw sv 1)
 FF:∀  fl  b o kind aw sv,aS P fl [0,2,3,4,5,47] (DS P n b o kind aw sv 1) un=some (Hn P n b o kind aw sv 2)
 UB:∀  fl  b o kind aw sv,aS P fl [0,2,3,4,5,47] (DS P n b o kind aw sv 2) un=some (Hn P n b o kind aw sv 3)
 UF:∀  fl  b o kind aw sv,aS P fl [0,2,3,4,5,47] (DS P n b o kind aw sv 3) un=some (Hn P n b o kind aw sv 4)
 pW:∀  fl  b o kind K aw sv it,aS P fl [0] (Dk P n b o kind false K false aw sv it) tt=some (OW P n b o kind)
 UG:∀(fl:Fl) b o kind L K S aw sv it,(L||S)=true->aS P {fl with wz:=true} [0,3] (Dk P n b o kind L K S aw sv it) tt=some (T1 P n b o kind sv)
 UH:∀(fl:Fl) b o kind L K S aw sv it,(L||S)=true->aS P {fl with wz:=false} [0,2,3,91] (Dk P n b o kind L K S aw sv it) tt=some (PK P n b o kind sv)
 rZ:∀  fl  b o kind L K S aw sv it,aS P fl [0,2,3,4,5,133] (Dk P n b o kind L K S aw sv it) ff=some (R1 P n b o kind aw sv it)
 xy:∀  fl  b o kind sv,aS P fl [0,2,3,91] (T1 P n b o kind sv) .ID=some (PK P n b o kind sv)
 UI:∀  fl  b o kind,aS P fl [0,2,3,103] (PK P n b o kind true) un=some (UP P n b o kind true)
 UJ:∀  fl  b o kind,aS P fl [0,2,95] (PK P n b o kind false) un=some (TQ P n b o kind)
 tT:∀(fl:Fl) b o kind x,aS P {fl with tb:=x} [0,2,3,103] (TQ P n b o kind) .now=some (UP P n b o kind x)
 Pq:∀(fl:Fl) b o kind sv n1,aS P {fl with n0:=false,n1:=n1} [0,128,129] (UP P n b o kind sv) (.word false false true 0)=some (AD P n b o kind (if !sv||n1 then -11 else -7))
 zt:∀(fl:Fl) b o kind L K sv,pV P fl [0,2,3,4,5,6] (UP P n b o kind sv) (.word L K false 0)=some (HD P n b o kind L K false true sv 0)
 vY:∀(fl:Fl) b o kind d,aS P fl [0] (AD P n b o kind d) .cJ=some (OW P n b o kind)
 vZ:∀(fl:Fl) b o kind,aS P fl [136] (OW P n b o kind) un=some (Tz P n b o kind)
 KL:∀(fl:Fl) b o kind,aS P fl [137] (Tz P n b o kind) (pt b o)=some (Q2 P n b o kind)
 IG:∀(fl:Fl) b o kind,aS P fl [] (Q2 P n b o kind) un=some (BK n kind)
 u1:∀(fl:Fl) b o kind,aS P fl [0,7] (U0 P n b o kind) .cJ=some (TA P n b o kind)
 u2:∀(fl:Fl) b o kind,aS P fl [0,8] (TA P n b o kind) (pt b o)=some (UR P n b o kind)
 u3:∀(fl:Fl) b o kind,aS P fl [0] (UR P n b o kind) un=some (UD P n b o kind)
 u4:∀(fl:Fl) b o kind,aS P fl [0,13] (UD P n b o kind) un=some (rY P n b o kind)
 u5:∀(fl:Fl) b o kind n0 K,(n0||K)=true->aS P {fl with n0:=n0} [] (rY P n b o kind) (.word false K false 0)=some (UE P n b o kind)
 X5:∀(fl:Fl) b o kind n0 K,aS P {fl with n0:=n0} [41] (rY P n b o kind) (.word false K true 0)=some (G9 P n b o kind)
 X6:∀(fl:Fl) b o kind,aS P {fl with n0:=false} [0,27,28,29] (rY P n b o kind) (.word false false false 0)=some (UC P n b o kind)
 X7:∀(fl:Fl) b o kind,aS P fl [33] (UC P n b o kind) tt=some (G7 P n b o kind)
 X8:∀(fl:Fl) b o kind,aS P fl [0,37] (UC P n b o kind) ff=some (OX P n b o kind)
 u7:∀(fl:Fl) b o kind n0 L K S,(n0||L||K||S)=true->aS P {fl with n0:=n0} [] (OX P n b o kind) (.word L K S 0)=some (UE P n b o kind)
 X9:∀(fl:Fl) b o kind,aS P {fl with n0:=false} [0,27,28,29] (OX P n b o kind) (.word false false false 0)=some (UC P n b o kind)
 u8:∀(fl:Fl) b o kind,aS P fl [] (G7 P n b o kind) un=some (UE P n b o kind)
 u9:∀(fl:Fl) b o kind,aS P fl [] (G9 P n b o kind) un=some (UE P n b o kind)
 Ya:∀(fl:Fl) b o kind,aS P fl [] (UE P n b o kind) un=some (Uz n kind)
 o1:∀b o kind,ba (LD P n b o kind).1=some (n.jy,[])/\(LD P n b o kind).1.kind=.normal
 o2:∀b o kind,ba (um P n b o kind).1=some (n.kI,[pt b o,i32 0,i32 1])
 o3:∀b o kind,ba (QZ P n b o kind).1=some (n.en,[])
 o4:∀b o kind,kL (Ty P n b o kind).1=some (n.tM,n.tU,pt b o)
 o5:∀b o kind,ba (Q0 P n b o kind).1=some (n.acq,[pt b o])
 Yb:∀b o kind aw sv it,rf (RZ P n b o kind aw sv it).1=some (n.tI,pt b o)
 Yc:∀b o kind aw sv it,rf (Hn P n b o kind aw sv it).1=some (n.tI,pt b o)
 Yd:∀b o kind aw sv it,rf (R1 P n b o kind aw sv it).1=some (n.tI,pt b o)
 o7:∀b o kind K aw sv it,ba (SQ P n b o kind K aw sv it).1=some (n.IF,[i64 it])
 o8:∀b o kind it,ba (SW P n b o kind it).1=some (n.kI,[pt b o,.word true false false 0,.word true true false 0])
 o9:∀b o kind aw sv it,ba (DS P n b o kind aw sv it).1=some (n.uk,[])
 WX:∀b o kind L K S aw sv it,ba (Dk P n b o kind L K S aw sv it).1=some (n.kI,[pt b o,.word L K S 0,Pp L K S aw sv])
 Ye:∀b o kind sv,ba (T1 P n b o kind sv).1=some (n.nano,[])
 WZ:∀b o kind sv,ba (PK P n b o kind sv).1=some (n.FC,[pt b (o+1),.cJ,i64 2])
 Yf:∀b o kind,ba (TQ P n b o kind).1=some (n.nano,[])
 Yg:∀b o kind sv,rf (UP P n b o kind sv).1=some (n.tI,pt b o)
 Yh:∀b o kind d,ba (AD P n b o kind d).1=some (n.add,[pt b o,i32 d])
 Yi:∀b o kind,ba (OW P n b o kind).1=some (n.en,[])
 Yj:∀b o kind,kL (Tz P n b o kind).1=some (n.tM,n.tU,pt b o)
 Yk:∀b o kind,ba (Q2 P n b o kind).1=some (n.acq,[pt b o])
 W2:∀b o kind,rf (U0 P n b o kind).1=some (n.tI,pt b o)/\(U0 P n b o kind).1.kind=.normal/\(U0 P n b o kind).1.fn=n.vX
 Yl:∀b o kind,kL (TA P n b o kind).1=some (n.tM,n.tU,pt b o)
 Ym:∀b o kind,ba (UR P n b o kind).1=some (n.rel,[pt b o])
 Yn:∀b o kind,ba (UD P n b o kind).1=some (n.jy,[])
 W6:∀b o kind,ba (rY P n b o kind).1=some (n.add,[pt b o,i32 (-1)])
 W7:∀b o kind,ba (UC P n b o kind).1=some (n.kI,[pt b o,wf,.word false true false (-1)])
 W8:∀b o kind,ba (G7 P n b o kind).1=some (n.oz,[pt b (o+1),ff,i64 2])
 W9:∀b o kind,ba (G9 P n b o kind).1=some (n.oz,[pt b (o+1),tt,i64 2])
 Yo:∀b o kind,rf (OX P n b o kind).1=some (n.tI,pt b o)
 Yp:∀b o kind,ba (UE P n b o kind).1=some (n.en,[])
 p1:∀b o kind,(Uw P n b o kind).all (·.env.all plain)=true/\(LD P n b o kind).1.env.all plain=true/\(LD P n b o kind).2=Uw P n b o kind
 p2:∀b o kind,(Wq P n b o kind).all (·.env.all plain)=true
 p3:∀b o kind,(Uy P n b o kind).all (·.env.all plain)=true/\(U0 P n b o kind).1.env.all plain=true/\(U0 P n b o kind).2=Uy P n b o kind
 p4:∀b o kind,(WW P n b o kind).all (·.env.all plain)=true
structure gJ  P  (n:Di):Prop where
 jy:Ext P n.jy (λ_=>do mark .disable;pure Extern.Race.none_)
 en:Ext P n.en (λ_=>do mark .enable;pure Extern.Race.none_)
 acq:Ext P n.acq (Extern.Race.marked .acquire)
 rel:Ext P n.rel (Extern.Race.marked .releaseMerge)
 kI:Ext P n.kI (Extern.Atomic.casT (.int .i32))
 add:Ext P n.add (Extern.Atomic.update (Op.intArith .add) .i32 true)
 IF:Ext P n.IF Extern.Sync.canSpin
 uk:Ext P n.uk (λ_=>pure (.tuple #[]))
 nano:Ext P n.nano Extern.OsHooks.nano
 LA:∃fn,P.funcs[n.nano]?=some fn/\fn.norace=true
 FC:Ext P n.FC Extern.Sync.semacquire
 oz:Ext P n.oz Extern.Sync.semrelease
 UK:nf P (isAgg n.tI)=some false
 Yq:∃t,P.underlying n.tM=some (.pointer t)/\P.underlying n.tU=some .unsafePointer/\(P.info? t).map (λi=>decide (i.size=0))=some false
 nS:∃fn,P.funcs[n.RX]?=some fn/\fn.norace=true
 nU:∃fn,P.funcs[n.vX]?=some fn/\fn.norace=true
 nV:∃fn,P.funcs[n.QY]?=some fn/\fn.norace=true
def Sy.ok(y:Sy):Prop:=(0<=y.N/\y.N<=1000)/\(0<=y.c/\y.c<=1000)
def Fl.of(y:Sy):Fl:=⟨decide (y.N=0),decide (y.N=1),decide (y.c=0),decide (y.c=1),decide (y.ws=0),decide (IntKind.i64.wrap (y.tn-y.ws)>1000000)⟩
def Fl.Dl{y}(h:y.ok):(Fl.of y).At y:=⟨h.1,h.2,rfl,rfl,rfl,rfl,rfl,rfl⟩
def Hp:SV->Bool|.word ..=>true|.cnt=>true|_=>false
def LB:SV->Bool|.eH _=>true|.Hl=>true|.IC=>true|_=>false
def LC:SV->Bool|.ID=>true|.Um=>true|_=>false
def LF:SV->Bool|.now=>true|.Um=>true|_=>false
def SR.re{y y' v x}(h:SR y v x)(a:y.N=y'.N\/Hp v=false)(b:y.c=y'.c\/LB v=false)(d:y.ws=y'.ws\/LC v=false)(e:y.tn=y'.tn\/LF v=false):SR y' v x:=by cases v<;>simp_all [SR,Hp,LB,LC,LF]
def FR.re{y y' s fr}(h:FR y s fr)(a:y.N=y'.N\/s.env.all (λv=>!Hp v)=true)(b:y.c=y'.c\/s.env.all (λv=>!LB v)=true)
 (d:y.ws=y'.ws\/s.env.all (λv=>!LC v)=true) (e:y.tn=y'.tn\/s.env.all (λv=>!LF v)=true):FR y' s fr:=by
 have key:∀(u:SV->Bool) (t:Nat),u .cJ=false->s.env.all (λv=>!u v)=true->u (s.env.getD t .cJ)=false:=λu t f g=>by grind
 exact⟨h.fn,h.todo,h.defers,h.mode,h.kind,h.ro,h.size,λt=>(h.env t).re (a.imp id (key _ t rfl)) (b.imp id (key _ t rfl)) (d.imp id (key _ t rfl)) (e.imp id (key _ t rfl))⟩
def my.gT{y y'}:∀{l fs},my y l fs->l.all (·.env.all plain)=true->my y' l fs
 |[],fs,h,_=>by rw[h.mK];trivial
 |s::l,fs,h,a=>by obtain⟨f,b,rfl,c,d⟩:=h.cons_inv;simp only[abr,za]at a;exact⟨c.gT a.1,d.gT a.2⟩
def my.keep{y}  live :∀{l fs},my y l fs->my y (l.map (Go.cz.keep live)) fs
 |[],fs,h=>by simp_all
 |s::l,fs,h=>by obtain⟨f,a,rfl,b,c⟩:=h.cons_inv;exact⟨b.keep live,c.keep live⟩
def Hq{P Wd f y}(i:f.At y):∀  n  {s st fr frs},FR y s fr->my y st frs ->
 ∃m b a,FR y (Ly P f n s st).1 b/\my y (Ly P f n s st).2 a/\∀cs,jm P Wd m (G fr (frs++cs)) (G b (a++cs))
 |0,s,st,fr,frs,g,c=>⟨0,fr,frs,g,c,λ_=>rfl⟩
 | n + 1,s,st,fr,frs,g,c=>by
   unfold Ly;cases e:ss P f s st with
   |none=>exact⟨0,fr,frs,g,c,λ_=>rfl⟩
   | some p=>
     obtain⟨u,o⟩:=p;obtain⟨b,a,j,k,l⟩:=QX i e g c;simp only;split
     . exact⟨1,b,a,j,k,λcs=>⟨_,l cs,rfl⟩⟩
     . obtain⟨m,h,d,q,r,t⟩:=Hq i n j k
       exact⟨m+1,h,d,q,r,λcs=>⟨_,l cs,t cs⟩⟩
section
variable{P:adI}{Wd:adp}{y:Sy}{c c':cT}{live:adB}{v:SV}{x:Value}{fr:Frame}{frs:adu}
def Q3(e:aS P (Fl.of y) live c v=some c')(f:y.ok)(g:FR y c.1 fr)(d:my y c.2 frs)(h:SR y v x):
 ∃b a,FR y c'.1 b/\my y c'.2 a/\∀cs,sQ P Wd (G (fr.finish x) (frs++cs)) (G b (a++cs)):=by
 obtain⟨s,i,rfl⟩:=aaS.1 e;obtain⟨m,b,a,j,k,l⟩:=lU (Wd:=Wd) (Fl.Dl f) 400 (P:=P) (g.fin i h) d;exact⟨b,a,j.keep live,k.keep [],λcs=>⟨m,l cs⟩⟩
def UL(e:pV P (Fl.of y) live c v=some c')(f:y.ok)(g:FR y c.1 fr)(d:my y c.2 frs)(h:SR y v x):
 ∃b a,FR y c'.1 b/\my y c'.2 a/\∀cs,sQ P Wd (G (fr.finish x) (frs++cs)) (G b (a++cs)):=by
 obtain⟨s,i,rfl⟩:=aaS.1 e;obtain⟨m,b,a,j,k,l⟩:=Hq (Wd:=Wd) (Fl.Dl f) 400 (P:=P) (g.fin i h) d;exact⟨b,a,j.keep live,k.keep [],λcs=>⟨m,l cs⟩⟩
def UM(e:Ur P (Fl.of y) live c=c')(f:y.ok)(g:FR y c.1 fr)(d:my y c.2 frs):
 ∃b a,FR y c'.1 b/\my y c'.2 a/\∀cs,sQ P Wd (G fr (frs++cs)) (G b (a++cs)):=by
 subst e;obtain⟨m,b,a,h,i,j⟩:=lU (Wd:=Wd) (Fl.Dl f) 400 (P:=P) g d;exact⟨b,a,h.keep live,i.keep [],λcs=>⟨m,j cs⟩⟩
end
open Mu in
inductive BJ where
 |ld|iA|rd (l:Lo)|sq (old:Wd) (l:Lo)|sw (old:Wd) (l:Lo)|kI (old:Wd) (l:Lo)|t1 (sv:Bool)|gM (sv:Bool)|tq|up (sv:Bool)|add (old:Wd) (sv:Bool)|le|la|back
 |Hr|ur|ud|held|jl (old:Wd)|vM|give|ue|Dm
section
variable(P:adI)(n:Di)(b o:Nat)(kind:adE)
def FA(p:BJ)(c:cT)(y:Sy):Prop:=
 match p with
 |.ld=>c=LD P n b o kind
 |.iA=>c=um P n b o kind
 |.rd l=>c=RZ P n b o kind l.aw l.sv l.it\/c=Hn P n b o kind l.aw l.sv l.it\/c=R1 P n b o kind l.aw l.sv l.it
 |.sq old l=>c=SQ P n b o kind old.K l.aw l.sv l.it/\y.N=old.N/\old.L=true/\old.S=false
 |.sw old l=>c=SW P n b o kind l.it/\y.N=old.N/\l.aw=false/\l.sv=false/\old.L=true/\old.K=false/\old.S=false
 |.kI old l=>c=Dk P n b o kind old.L old.K old.S l.aw l.sv l.it/\y.N=old.N
 |.t1 sv=>c=T1 P n b o kind sv
 |.gM sv=>c=PK P n b o kind sv
 |.tq=>c=TQ P n b o kind
 |.up sv=>c=UP P n b o kind sv
 |.add old sv=>c=AD P n b o kind (if !sv||decide (old.N=1)then -11 else -7)
 |.le=>c=QZ P n b o kind\/c=OW P n b o kind
 |.la=>c=Q0 P n b o kind\/c=Q2 P n b o kind
 |.back=>c=BK n kind
 |.Hr=>c=U0 P n b o kind
 |.ur=>c=UR P n b o kind
 |.ud=>c=UD P n b o kind
 |.held=>c=rY P n b o kind
 |.jl old=>c=UC P n b o kind/\y.N=old.N/\old.L=false/\old.K=false/\old.S=false/\old.N≠0
 |.vM=>c=OX P n b o kind
 |.give=>c=G7 P n b o kind\/c=G9 P n b o kind
 |.ue=>c=UE P n b o kind
 |.Dm=>c=Uz n kind
def oc(p:BJ)(cs:adu)(g:adz):Prop:=∃c y fr frs,FA P n b o kind p c y/\y.ok/\FR y c.1 fr/\my y c.2 frs/\g=G fr (frs++cs)
end
def oc.running{P n b o kind p cs g}(h:oc P n b o kind p cs g):g.status=.running/\g.offers=none:=by obtain⟨c,y,fr,frs,_,_,_,_,rfl⟩:=h;exact⟨rfl,rfl⟩
structure ShM  b o  (w:World) (s:Mu.Sh):Prop where
 cw:w.cell? ⟨b,o,none⟩=some (.int .i32 (enc s.w.L s.w.K s.w.S s.w.N))
 cs:w.cell? ⟨b,o+1,none⟩=some (.int .u32 s.ms)
 fz:∀i,w.frozen? ⟨b,i,none⟩=false
def MW(b o:Nat)(w w':World):Prop:=(mF w.os w'.os/\w'.output=w.output)/\(w'.heap=w.heap\/∃i v,(i=o\/i=o+1)/\flat v=true/\w'.heap=(w.setCell ⟨b,i,none⟩ v).heap)
def EvM(b o:Nat)(es:adq):Prop:=∀e∈es,(e.loc=.mark .disable\/e.loc=.mark .enable)\/(∃i,(i=o\/i=o+1)/\e.loc=.cell ⟨b,i,none⟩/\e.sync=true)
def qO{w w':World}(h:w'.heap=w.heap)  a :w'.cell? a=w.cell? a/\w'.frozen? a=w.frozen? a:=by simp[World.cell?,World.frozen?,h]
def ShM.heap{b o w w' s}(h:ShM b o w s)(e:w'.heap=w.heap):ShM b o w' s:=⟨by rw[(qO e _).1];exact h.cw,by rw[(qO e _).1];exact h.cs,λi=>by rw[(qO e _).2];exact h.fz i⟩
def j9{w:World}{b i u v}(h:w.cell? ⟨b,i,none⟩=some u):(w.setCell ⟨b,i,none⟩ v).cell? ⟨b,i,none⟩=some v:=by
 unfold World.cell? at h ⊢;unfold World.setCell
 grind
def oA{w:World}{a v b i}:(w.setCell a v).frozen? ⟨b,i,none⟩=w.frozen? ⟨b,i,none⟩:=by simp_all
def ShM.aV{b o w s}(h:ShM b o w s)  w' :ShM b o (w.setCell ⟨b,o,none⟩ (.int .i32 (enc w'.L w'.K w'.S w'.N))) {s with w:=w'}:=⟨j9 h.cw,by rw[dG (by simp)];exact h.cs,λi=>by rw[oA];exact h.fz i⟩
def ShM.FG{b o w s}(h:ShM b o w s)(m:Nat):ShM b o (w.setCell ⟨b,o+1,none⟩ (.int .u32 m)) {s with ms:=m}:=⟨by rw[dG (by simp)];exact h.cw,j9 h.cs,λi=>by rw[oA];exact h.fz i⟩
def fT{b o}:EvM b o #[]:=λe h=>by simp at h
def Ht{b o i}(hi:i=o\/i=o+1):EvM b o #[⟨.cell ⟨b,i,none⟩,false,true⟩]:=λe h=>by simp_all
def kM{b o i}(hi:i=o\/i=o+1):EvM b o #[⟨.cell ⟨b,i,none⟩,false,true⟩,⟨.cell ⟨b,i,none⟩,true,true⟩]:=λe h=>by grind
def v7{b o}:EvM b o (semEvents ⟨b,o+1,none⟩):=λe h=>by
 simp[semEvents]at h
 grind
section
variable{P:adI}{n:Di}(C:gF P n)(X:gJ P n){b o:Nat}{kind:adE}{Wd:adp}{cs:adu}{g:adz}{w:World}{main:Bool}
variable(hWd:∀w,Wd w->∃v,w.cell? ⟨b,o,none⟩=some v)
def Next(P:adI)(n:Di)(b o:Nat)(kind:adE)(Wd:adp)(cs:adu)(p:BJ)(a:adz):Prop:=a.status=.running/\∃c,sQ P Wd a c/\oc P n b o kind p cs c
def nxt{y c c' live v x fr frs p}(g:aS P (Fl.of y) live c v=some c')(f:y.ok)(h:FR y c.1 fr)(d:my y c.2 frs)(i:SR y v x)(j:FA P n b o kind p c' y):
 Next P n b o kind Wd cs p (G (fr.finish x) (frs++cs)):=by
 obtain⟨e,a,k,l,m⟩:=Q3 (Wd:=Wd) g f h d i;exact⟨rfl,_,m cs,c',y,e,a,j,f,k,l,rfl⟩
def y0:Sy:=⟨2,2,1,0⟩
def sT:y0.ok:=by unfold Sy.ok y0;decide
def FH(h:∃fn body,P.funcs[n.lock]?=some fn/\fn.body=some body/\fn.ntmps=6):∃e,sQ P Wd (G (Frame.enter P n.lock #[.pointer (some ⟨b,o,none⟩)] kind) cs) e/\oc P n b o kind .ld cs e:=by
 obtain⟨fn,body,a,i,g⟩:=h
 have j:FR y0 (dJ P n.lock [pt b o] kind) (Frame.enter P n.lock #[.pointer (some ⟨b,o,none⟩)] kind):=by
  refine⟨by simp[dJ,a,Frame.enter],by simp[dJ,a,i,Frame.enter],by simp[dJ,a,Frame.enter],by simp[dJ,a,Frame.enter,Dd.of],by simp[dJ,a,Frame.enter],rfl,by simp[dJ,a,g,Frame.enter],λt=>?_⟩;simp only[dJ,a,Frame.enter,g,abj,abF]
  match t with
  |0=>rfl
  |1|2|3|4|5=>trivial
  | t+6=>
    have:([pt b o]++List.replicate (6 - [pt b o].length) SV.cJ).getD (t+6) .cJ=.cJ:=by simp_all
    rw[this];trivial
 obtain⟨m,d,c,k,l,p⟩:=lU (Wd:=Wd) (P:=P) (f:=lz) (y:=y0) ⟨by decide,by decide,rfl,rfl,rfl,rfl,rfl,by decide⟩ 400 j (st:=[]) (frs:=[]) trivial;have q:=p cs;exact⟨_,⟨m,q⟩,_,y0,d,c,rfl,sT,k.keep [0],l.keep [],rfl⟩
def LG:∀g ,Mark.disable≠.extern g:=λg h=>by cases h
def LH:∀g ,Mark.enable≠.extern g:=λg h=>by cases h
include C X in
def BL(h:oc P n b o kind .ld cs g):∃d,stepG P main g w=.go d w #[⟨.mark .disable,false,true⟩]/\Next P n b o kind Wd cs .iA d:=by obtain⟨c,y,fr,frs,rfl,f,e,a,rfl⟩:=h;exact⟨_,fa LG e (C.o1 b o kind).1 (by rw[show(LD P n b o kind).1.kind=_ from(C.o1 b o kind).2];decide) X.jy,nxt (C.e1 _ b o kind) f e a rfl rfl⟩
include C X in
def Hu(h:oc P n b o kind .ud cs g):∃d,stepG P main g w=.go d w #[⟨.mark .disable,false,true⟩]/\Next P n b o kind Wd cs .held d:=by obtain⟨c,y,fr,frs,rfl,f,e,a,rfl⟩:=h;exact⟨_,fa LG e (C.Yn b o kind) (by simp[UD,pq]) X.jy,nxt (C.u4 _ b o kind) f e a rfl rfl⟩
include C X in
def BM(h:oc P n b o kind .ue cs g):∃d,stepG P main g w=.go d w #[⟨.mark .enable,false,true⟩]/\Next P n b o kind Wd cs .Dm d:=by obtain⟨c,y,fr,frs,rfl,f,e,a,rfl⟩:=h;exact⟨_,fa LH e (C.Yp b o kind) (by simp[UE,pq]) X.en,nxt (C.Ya _ b o kind) f e a rfl rfl⟩
include C X in
def Hv(h:oc P n b o kind .ur cs g):∃d,stepG P main g w=.go d w #[⟨.mark (.releaseMerge ⟨b,o,none⟩),false,true⟩]/\Next P n b o kind Wd cs .ud d:=by obtain⟨c,y,fr,frs,rfl,f,e,a,rfl⟩:=h;exact⟨_,fN (λi g h=>by cases h) e (C.Ym b o kind) (by simp[UR,pq]) X.rel,nxt (C.u3 _ b o kind) f e a rfl rfl⟩
include C X in
def Hw(h:oc P n b o kind .la cs g):∃e,stepG P main g w=.go e w #[⟨.mark (.acquire ⟨b,o,none⟩),false,true⟩]/\Next P n b o kind Wd cs .back e:=by
 obtain⟨c,y,fr,frs,i,f,d,a,rfl⟩:=h;rcases i with rfl|rfl
 . exact⟨_,fN (λj g h=>by cases h) d (C.o5 b o kind) (by simp[Q0,mL]) X.acq,nxt (C.e6 _ b o kind) f d a rfl rfl⟩
 . exact⟨_,fN (λj g h=>by cases h) d (C.Yk b o kind) (by simp[Q2,cP]) X.acq,nxt (C.IG _ b o kind) f d a rfl rfl⟩
include X hWd in
def through{y c c' live fr frs p}(f:kL c.1=some (n.tM,n.tU,pt b o))(g:aS P (Fl.of y) live c (pt b o)=some c')(h:y.ok)(e:FR y c.1 fr)(d:my y c.2 frs)(i:FA P n b o kind p c' y):
 ∃a,sQ P Wd (G fr (frs++cs)) a/\oc P n b o kind p cs a:=by
 obtain⟨t,j,k,l⟩:=X.Yq;obtain⟨_,a,m,q⟩:=nxt (P:=P) (n:=n) (b:=b) (o:=o) (kind:=kind) (Wd:=Wd) (cs:=cs) (x:=.pointer (some ⟨b,o,none⟩)) g h e d rfl i;refine⟨a,sQ.trans (sP.Aa ⟨rfl,λmain w r=>?_⟩) m,q⟩;exact uj e f j k l (hWd w r)
include C X hWd in
def Hx(h:oc P n b o kind .le cs g):∃s,stepG P main g w=.go s w #[⟨.mark .enable,false,true⟩]/\Next P n b o kind Wd cs .la s:=by
 obtain⟨c,y,fr,frs,t,e,f,a,rfl⟩:=h;rcases t with rfl|rfl
 . refine⟨_,fa LH f (C.o3 b o kind) (by simp[QZ,mL]) X.en,rfl,?_⟩
   obtain⟨i,d,j,k,l⟩:=Q3 (Wd:=Wd) (x:=.tuple #[]) (C.e4 _ b o kind) e f a rfl;obtain⟨m,q,r⟩:=through X hWd (cs:=cs) (p:=.la) (C.o4 b o kind) (C.e5 _ b o kind) e j k (.inl rfl);exact⟨m,(l cs).trans q,r⟩
 . refine⟨_,fa LH f (C.Yi b o kind) (by simp[OW,cP]) X.en,rfl,?_⟩
   obtain⟨i,d,j,k,l⟩:=Q3 (Wd:=Wd) (x:=.tuple #[]) (C.vZ _ b o kind) e f a rfl;obtain⟨m,q,r⟩:=through X hWd (cs:=cs) (p:=.la) (C.Yj b o kind) (C.KL _ b o kind) e j k (.inr rfl);exact⟨m,(l cs).trans q,r⟩
include C X hWd in
def xz{v}(j:w.cell? ⟨b,o,none⟩=some v)(h:oc P n b o kind .Hr cs g):∃d,stepG P main g w=.go d w #[]/\Next P n b o kind Wd cs .ur d:=by
 obtain⟨c,y,fr,frs,rfl,e,f,a,rfl⟩:=h;refine⟨_,qN f (C.W2 b o kind).1 X.UK (by rw[show(U0 P n b o kind).1.fn=_ from(C.W2 b o kind).2.2];exact X.nU) j,rfl,?_⟩;obtain⟨k,i,l,m,q⟩:=Q3 (Wd:=Wd) (x:=v) (C.u1 _ b o kind) e f a trivial;obtain⟨r,s,t⟩:=through X hWd (cs:=cs) (p:=.ur) (C.Yl b o kind) (C.u2 _ b o kind) e l m rfl;exact⟨r,(q cs).trans s,t⟩
include C X in
def Pr{sv}(h:oc P n b o kind (.t1 sv) cs g):∃f,stepG P main g w=.go f w.later #[]/\Next P n b o kind Wd cs (.gM sv) f:=by
 obtain⟨c,y,fr,frs,rfl,j,i,d,rfl⟩:=h;refine⟨_,Ag i (C.Ye b o kind sv) (by simp[T1,cP]) X.nano X.LA,?_⟩;have e:=i.re (y':={y with ws:=((w.os.mono+w.tick:Nat):Int)}) (.inl rfl) (.inl rfl) (.inr (by cases sv<;>rfl)) (.inl rfl);have a:=d.gT (y':={y with ws:=((w.os.mono+w.tick:Nat):Int)}) (by simpa[T1,cP]using C.p2 b o kind);exact nxt (y:={y with ws:=((w.os.mono+w.tick:Nat):Int)}) (x:=.int .i64 ((w.os.mono+w.tick:Nat):Int)) (C.xy _ b o kind sv) j e a rfl rfl
end
inductive To:Mu.Pc->BJ->Prop
 |out:To .out .ue
 |rd (l:Mu.Lo):To (.rd l) (.rd l)
 |sq (old:Mu.Wd) (l:Mu.Lo):To (.sq old l) (.sq old l)
 |sw (old:Mu.Wd) (l:Mu.Lo):To (.sw old l) (.sw old l)
 |kI (old:Mu.Wd) (l:Mu.Lo):To (.kI old l) (.kI old l)
 |t1 (sv:Bool):To (.gM sv) (.t1 sv)
 |gM (sv:Bool):To (.gM sv) (.gM sv)
 |tq:To .tq .tq
 |up (sv:Bool):To (.up sv) (.up sv)
 |add (old:Mu.Wd) (sv:Bool):To (.add old sv) (.add old sv)
 |held:To .held .le
 |jl (old:Mu.Wd):To (.jl old) (.jl old)
 |vM:To .vM .vM
 |give:To .give .give
def lV(P:adI)(n:Di)(b o:Nat)(kind:adE)(Wd:adp)(cs:adu)(g:adz)(w:World)(main:Bool)(pc:Mu.Pc)(s:Mu.Sh):Prop:=∃c a es q e f,stepG P main g w=.go c a es/\(q,e)∈Mu.mv pc s/\To q f/\Next P n b o kind Wd cs f c/\MW b o w a/\ShM b o a e/\EvM b o es/\∀d,deafBehind d es=d
def bj{b o w w'}(h:w'.heap=w.heap)(a:mF w.os w'.os/\w'.output=w.output:=by exact⟨mF.refl _,rfl⟩):MW b o w w':=⟨a,.inl h⟩
def vO{b o w v}(h:flat v=true):MW b o w (w.setCell ⟨b,o,none⟩ v):=⟨⟨.refl _,rfl⟩,.inr ⟨o,v,.inl rfl,h,rfl⟩⟩
def Ps{b o w v}(h:flat v=true):MW b o w (w.setCell ⟨b,o+1,none⟩ v):=⟨⟨.refl _,rfl⟩,.inr ⟨o+1,v,.inr rfl,h,rfl⟩⟩
def Hy{L K S a b c}{N d:Nat}:enc L K S N=enc a b c d↔(L=a/\K=b/\S=c/\N=d):=by
 unfold enc;constructor
 . intro h
   cases L<;>cases K<;>cases S<;>cases a<;>cases b<;>cases c<;>simp[Bool.toNat]at h ⊢<;>omega
 simp_all
section
variable{P:adI}{n:Di}(C:gF P n)(X:gJ P n){b o:Nat}{kind:adE}{Wd:adp}{cs:adu}{g:adz}{w:World}{main:Bool}{s:Mu.Sh}
def Hz{w}:w=Mu.Wd.zero↔(enc w.L w.K w.S w.N=0):=by
 obtain⟨L,K,S,N⟩:=w;rw[xv (by simp)];simp[Mu.Wd.zero]
include C X in
def IH(d:ShM b o w s)(h:oc P n b o kind .iA cs g):lV P n b o kind Wd cs g w main .iA s:=by
 obtain⟨c,y,fr,frs,rfl,l,j,f,rfl⟩:=h;have q:(um P n b o kind).1.kind≠.early:=by simp[um,mL]
 by_cases k:s.w=Mu.Wd.zero
 . have m:enc s.w.L s.w.K s.w.S s.w.N=0:=Hz.1 k
   have r:=d.cw;rw[m]at r;refine⟨_,_,_,.held,{s with w:={Mu.Wd.zero with L:=true}},.le,il j (C.o2 b o kind) q X.kI (v:=0) (n:=1) (λx h=>h) (λx h=>h) r (d.fz o),by simp[Mu.mv,k],.held,nxt (C.e2 _ b o kind) l j f rfl (.inl rfl),vO rfl,?_,kM (.inl rfl),λ_=>rfl⟩;have:=d.aV {Mu.Wd.zero with L:=true};exact this
 . have m:¬enc s.w.L s.w.K s.w.S s.w.N=0:=λe=>k (Hz.2 e)
   refine⟨_,_,_,.rd ⟨false,false,0⟩,s,.rd ⟨false,false,0⟩,iJ j (C.o2 b o kind) q X.kI (old:=0) (n:=1) (λx h=>h) (λx h=>h) d.cw (d.fz o) m,by simp[Mu.mv,k],.rd _,⟨rfl,?_⟩,bj rfl,d,Ht (.inl rfl),λ_=>rfl⟩;obtain⟨p,i,A,B,D⟩:=Q3 (Wd:=Wd) (x:=.bool false) (C.e3 _ b o kind) l j f rfl;refine⟨_,D cs,RZ P n b o kind false false 0,{y with ws:=0},p,i,.inl rfl,l,?_,?_,rfl⟩
   . have a:=A.re (y':={y with ws:=0}) (.inl rfl) (.inl rfl) (.inr rfl) (.inl rfl)
     refine⟨a.fn,a.todo,a.defers,a.mode,a.kind,a.ro,a.size.trans rfl,λt=>?_⟩;have u:=a.env t;by_cases z:t=2
     . subst z;exact u
     . have e:(RZ P n b o kind false false 0).1.env=(Wr P n b o kind).1.env.set 2 .ID:=rfl
       rw[e,zD,abA (zj z),<-List.getD_eq_getElem?_getD];exact u
   . exact B.gT (by simpa[Wr,cP]using C.p2 b o kind)
def qP{y:Sy}{L K S}{N:Nat}(h:y.N=N):SR y (.word L K S 0) (.int .i32 (enc L K S N)):=by
 refine⟨?_,?_,by decide⟩
 . simp_all
 omega
def HA{y x}(h:decide (y.N=0)=x):{Fl.of y with n0:=x}=Fl.of y:=by subst h;rfl
def R3{y x z}(h:decide (y.N=0)=x)(a:decide (y.N=1)=z):{Fl.of y with n0:=x,n1:=z}=Fl.of y:=by subst h;subst a;rfl
def Q4{y x}(h:decide (y.ws=0)=x):{Fl.of y with wz:=x}=Fl.of y:=by subst h;rfl
def UN{y x}(h:decide (IntKind.i64.wrap (y.tn-y.ws)>1000000)=x):{Fl.of y with tb:=x}=Fl.of y:=by subst h;rfl
def TB(old:Mu.Wd)(l:Mu.Lo):BJ:=if old.L && !old.S then .sq old l else .kI old l
def Q5  old   l :To (Mu.nx old l) (TB old l):=by
 unfold Mu.nx TB;split
 . exact .sq _ _
 . exact .kI _ _
include C in
def HB{y old l fr frs}(e:y.ok)(m:y.N=old.N)(p:FR y (HD P n b o kind old.L old.K old.S l.aw l.sv l.it).1 fr)(d:my y (HD P n b o kind old.L old.K old.S l.aw l.sv l.it).2 frs)(f:Mu.loc (Mu.nx old l)):
 ∃q,sQ P Wd (G fr (frs++cs)) q/\oc P n b o kind (TB old l) cs q:=by
 obtain⟨L,K,S,N⟩:=old;obtain⟨aw,sv,it⟩:=l;unfold TB;unfold Mu.nx at f;by_cases h:(L && !S)=true
 . simp only[h,aaO]at f ⊢
   simp only[za,abZ]at h;obtain⟨rfl,rfl⟩:=h;obtain⟨c,a,g,i,j⟩:=UM (Wd:=Wd) (C.e8 (Fl.of y) b o kind K aw sv it) e p d;exact⟨_,j cs,_,y,c,a,⟨rfl,m,rfl,rfl⟩,e,g,i,rfl⟩
 . have r:(L && !S)=false:=by simpa using h
   rw[aaJ h]at f ⊢
   have k:(aw && !K)=false:=by
    cases aw with
    |false=>rfl
    |true=>have:=f.1 rfl;simp at this;simp[this]
   obtain⟨c,a,g,i,j⟩:=UM (Wd:=Wd) (C.e9 (Fl.of y) b o kind L K S aw sv it r k) e p d;exact⟨_,j cs,_,y,c,a,⟨rfl,m⟩,e,g,i,rfl⟩
include C X in
def Pt{l}(i:ShM b o w s)(hb:s.w.N<=1000)(m:Mu.loc (Mu.nx s.w l))(h:oc P n b o kind (.rd l) cs g):lV P n b o kind Wd cs g w main (.rd l) s:=by
 obtain⟨c,y,fr,frs,p,q,j,e,rfl⟩:=h;have a:({y with N:=(s.w.N:Int)}:Sy).ok:=⟨⟨by simp,by show(s.w.N:Int)<=1000;omega⟩,q.2⟩
 have key:rf c.1=some (n.tI,pt b o)->c.1.fn=n.RX->(c.1.env.all (λv=>!Hp v)=true)->c.2=Wq P n b o kind->pV P (Fl.of {y with N:=(s.w.N:Int)}) [0,2,3,4,5,6] c (.word s.w.L s.w.K s.w.S 0)=some (HD P n b o kind s.w.L s.w.K s.w.S l.aw l.sv l.it) ->
  lV P n b o kind Wd cs (G fr (frs++cs)) w main (.rd l) s:=λr t u x z=>by
  have f:=j.re (y':={y with N:=(s.w.N:Int)}) (.inr u) (.inl rfl) (.inl rfl) (.inl rfl);have d:=e.gT (y':={y with N:=(s.w.N:Int)}) (by rw[x];exact C.p2 b o kind);obtain⟨A,k,B,D,E⟩:=UL (Wd:=Wd) z a f d (qP rfl);obtain⟨F,H,I⟩:=HB C (Wd:=Wd) (cs:=cs) (old:=s.w) (l:=l) a rfl B D m;exact⟨_,w,#[],_,s,TB s.w l,qN j r X.UK (by rw[t];exact X.nS) i.cw,by simp[Mu.mv],Q5 _ _,⟨rfl,F,(E cs).trans H,I⟩,bj rfl,i,fT,λ_=>rfl⟩
 rcases p with rfl|rfl|rfl
 . exact key (C.Yb ..) rfl rfl rfl (C.X3 ..)
 . exact key (C.Yc ..) rfl rfl rfl (C.R2 ..)
 . exact key (C.Yd ..) rfl rfl rfl (C.X4 ..)
include C X in
def BN{y aw sv}{it:Nat}{fr frs}(f:it<4)(g:y.ok)(e:FR y (DS P n b o kind aw sv it).1 fr)(d:my y (DS P n b o kind aw sv it).2 frs):
 ∃c,sQ P Wd (G fr (frs++cs)) c/\oc P n b o kind (.rd ⟨aw,sv,it+1⟩) cs c:=by
 have a:sP P Wd (G fr (frs++cs)) (G (fr.finish (.tuple #[])) (frs++cs)):=⟨rfl,λmain w _=>ui e (C.o9 b o kind aw sv it) (by simp[DS,cP]) X.uk⟩
 have key:aS P (Fl.of y) [0,2,3,4,5,47] (DS P n b o kind aw sv it) un=some (Hn P n b o kind aw sv (it+1:Nat)):=by
  have:it=0\/it=1\/it=2\/it=3:=by omega
  rcases this with rfl|rfl|rfl|rfl
  . exact C.FE ..
  . exact C.FF ..
  . exact C.UB ..
  . exact C.UF ..
 obtain⟨_,c,h,i⟩:=nxt (P:=P) (n:=n) (b:=b) (o:=o) (kind:=kind) (Wd:=Wd) (cs:=cs) (x:=.tuple #[]) (p:=.rd ⟨aw,sv,it+1⟩) key g e d rfl (.inr (.inl rfl));exact⟨c,a.Aa.trans h,i⟩
include C X in
def Pu{old l}(t:ShM b o w s)(J:Mu.loc (.sq old l))(h:oc P n b o kind (.sq old l) cs g):lV P n b o kind Wd cs g w main (.sq old l) s:=by
 obtain⟨c,y,fr,frs,⟨rfl,k,B,D⟩,q,m,d,rfl⟩:=h;obtain⟨L,K,S,N⟩:=old;obtain⟨aw,sv,it⟩:=l;simp only at k B D m d;subst B;subst D;obtain⟨E,F,M,_,_⟩:=J;simp only at E F M
 have u:(aw && !K)=false:=by
  cases aw with
  |false=>rfl
  |true=>simp[E rfl]
 obtain⟨r,j,v,O,G⟩:=IE (P:=P) (main:=main) (cs:=frs++cs) (w:=w) m (C.o7 b o kind K aw sv it) (by simp[SQ,cP]) X.IF
 have a:j.heap=w.heap:=by rcases G with rfl|rfl<;>rfl
 have e:mF w.os j.os/\j.output=w.output:=by rcases G with rfl|rfl<;>exact⟨.refl _,rfl⟩
 cases r with
 |false=>refine⟨_,j,#[],.kI ⟨true,K,false,N⟩ ⟨aw,sv,it⟩,s,.kI _ _,v,by simp[Mu.mv,Mu.hd],.kI _ _,nxt (C.cq (Fl.of y) b o kind K aw sv it u) q m d rfl ⟨rfl,k⟩,bj a e,t.heap a,fT,λ_=>rfl⟩
 | true=>
   have f:it<4:=by have:=O rfl;omega
   by_cases z:(!aw && !K && decide (N≠0))=true
   . simp only[za,abZ,aaG]at z
     obtain⟨⟨rfl,rfl⟩,p⟩:=z;have:sv=false:=by cases sv with|false=>rfl|true=>exact absurd (F rfl) (by simp)
     subst this;have key:=C.cX (Fl.of y) b o kind it;rw[HA (by rw[k];simpa using p)]at key
     exact⟨_,j,#[],.sw ⟨true,false,false,N⟩ ⟨false,false,it⟩,s,.sw _ _,v,by simp[Mu.mv,Mu.hd,f,p],.sw _ _,nxt key q m d rfl ⟨rfl,k,rfl,rfl,rfl,rfl,rfl⟩,bj a e,t.heap a,fT,λ_=>rfl⟩
   . have i:(!aw && !K && decide (N≠0))=false:=by simpa using z
     have A:(!aw && !K && !decide (y.N=0))=false:=by
      rw[k]
      by_cases H:N=0
      . simp[H]
      . simp[H]at i ⊢;exact i
     have key:=C.UA (Fl.of y) b o kind (decide (y.N=0)) K aw sv it A;rw[HA rfl]at key;obtain⟨Q,I,R,T,U⟩:=Q3 (Wd:=Wd) (x:=.bool true) key q m d rfl;obtain⟨V,W,Y⟩:=BN C X (Wd:=Wd) (cs:=cs) f q R T;refine⟨_,j,#[],.rd ⟨aw,sv,it+1⟩,s,.rd _,v,?_,.rd _,⟨rfl,V,(U cs).trans W,Y⟩,bj a e,t.heap a,fT,λ_=>rfl⟩
     simp only[Mu.mv,Mu.hd,f,i];simp
include C X in
def Pv{old l}(f:ShM b o w s)(V:Mu.loc (.sw old l))(h:oc P n b o kind (.sw old l) cs g):lV P n b o kind Wd cs g w main (.sw old l) s:=by
 obtain⟨c,y,fr,frs,⟨rfl,E,F,G,H,I,J⟩,m,i,d,rfl⟩:=h;obtain⟨L,K,S,N⟩:=old;obtain⟨aw,sv,it⟩:=l;simp only at E F G H I J i d;subst F;subst G;subst H;subst I;subst J;have j:it<4:=V.2.2.2.2.2;have M:(SW P n b o kind it).1.kind≠.early:=by simp[SW,cP]
 have a:∀q:Bool,∀x,SR y (.word true q false 0) x->x=.int .i32 (enc true q false N):=λq x W=>by have:=W.1;rw[E,acS]at this;exact this
 by_cases p:s.w=⟨true,false,false,N⟩
 . have O:=f.cw
   rw[p]at O;obtain⟨r,k,t,u,v⟩:=Q3 (Wd:=Wd) (x:=.bool true) (C.fq (Fl.of y) b o kind true it) m i d rfl;obtain⟨z,A,B⟩:=BN C X (Wd:=Wd) (cs:=cs) j m t u;refine⟨_,_,_,.rd ⟨true,false,it+1⟩,{s with w:=⟨true,true,false,N⟩},.rd _,il i (C.o8 b o kind it) M X.kI (a false) (a true) O (f.fz o),by simp[Mu.mv,p],.rd _,⟨rfl,z,(v cs).trans A,B⟩,vO rfl,f.aV ⟨true,true,false,N⟩,kM (.inl rfl),λ_=>rfl⟩
 . have D:¬enc s.w.L s.w.K s.w.S s.w.N=enc true false false N:=λe=>p (by
    obtain⟨Q,R,T,U⟩:=Hy.1 e;obtain⟨⟨L,K,S,Y⟩,ms⟩:=s;simp only at Q R T U;subst Q;subst R;subst T;subst U;rfl)
   obtain⟨r,k,t,u,v⟩:=Q3 (Wd:=Wd) (x:=.bool false) (C.fq (Fl.of y) b o kind false it) m i d rfl;obtain⟨z,A,B⟩:=BN C X (Wd:=Wd) (cs:=cs) j m t u;exact⟨_,_,_,.rd ⟨false,false,it+1⟩,s,.rd _,iJ i (C.o8 b o kind it) M X.kI (a false) (a true) f.cw (f.fz o) D,by simp[Mu.mv,p],.rd _,⟨rfl,z,(v cs).trans A,B⟩,bj rfl,f,Ht (.inl rfl),λ_=>rfl⟩
end
section
variable{P:adI}{n:Di}(C:gF P n)(X:gJ P n){b o:Nat}{kind:adE}{Wd:adp}{cs:adu}{g:adz}{w:World}{main:Bool}{s:Mu.Sh}
def Q6{a c:Mu.Wd}:a=c↔enc a.L a.K a.S a.N=enc c.L c.K c.S c.N:=by obtain⟨L,K,S,N⟩:=a;obtain⟨b,d,e,f⟩:=c;rw[Hy];simp
include C X in
def LI{old l}(f:ShM b o w s)(E:Mu.loc (.kI old l))(h:oc P n b o kind (.kI old l) cs g):lV P n b o kind Wd cs g w main (.kI old l) s:=by
 obtain⟨c,y,fr,frs,⟨rfl,u⟩,t,j,a,rfl⟩:=h;obtain⟨L,K,S,N⟩:=old;obtain⟨aw,sv,it⟩:=l;simp only at u j a
 have k:(aw && !K)=false:=by
  cases aw with
  |false=>rfl
  |true=>have:=E.1 rfl;simp at this;simp[this]
 have A:(Dk P n b o kind L K S aw sv it).1.kind≠.early:=by simp[Dk,cP]
 have hold:∀x,SR y (.word L K S 0) x->x=.int .i32 (enc L K S N):=λx v=>by have:=v.1;rw[u,acS]at this;exact this
 have i:∀x,SR y (Pp L K S aw sv) x->x=.int .i32 (enc (Mu.pS ⟨L,K,S,N⟩ ⟨aw,sv,it⟩).L (Mu.pS ⟨L,K,S,N⟩ ⟨aw,sv,it⟩).K (Mu.pS ⟨L,K,S,N⟩ ⟨aw,sv,it⟩).S (Mu.pS ⟨L,K,S,N⟩ ⟨aw,sv,it⟩).N):=λx v=>by have:=v.1;rw[u]at this;rw[this];simp only[Mu.pS];congr 2;split<;>simp
 by_cases p:s.w=⟨L,K,S,N⟩
 . have B:=f.cw
   rw[p]at B;have m:=il (main:=main) (cs:=frs++cs) j (C.WX b o kind L K S aw sv it) A X.kI hold i B (f.fz o)
   by_cases d:(L||S)=true
   . have q:((.gM sv:Mu.Pc),({s with w:=Mu.pS ⟨L,K,S,N⟩ ⟨aw,sv,it⟩}:Mu.Sh))∈Mu.mv (.kI ⟨L,K,S,N⟩ ⟨aw,sv,it⟩) s:=by
      simp only[Mu.mv,k,LK,aaH,p,aaO,d,lb]
     by_cases r:y.ws=0
     . have key:=C.UG (Fl.of y) b o kind L K S aw sv it d
       rw[Q4 (by simpa using r)]at key
       exact⟨_,_,_,_,_,.t1 sv,m,q,.t1 _,nxt key t j a rfl rfl,vO rfl,f.aV _,kM (.inl rfl),λ_=>rfl⟩
     . have key:=C.UH (Fl.of y) b o kind L K S aw sv it d
       rw[Q4 (by simpa using r)]at key
       exact⟨_,_,_,_,_,.gM sv,m,q,.gM _,nxt key t j a rfl rfl,vO rfl,f.aV _,kM (.inl rfl),λ_=>rfl⟩
   . have D:(L||S)=false:=by simpa using d
     have F:L=false:=by cases L<;>simp_all
     have G:S=false:=by cases S<;>simp_all
     subst F;subst G;refine⟨_,_,_,.held,{s with w:=Mu.pS ⟨false,K,false,N⟩ ⟨aw,sv,it⟩},.le,m,?_,.held,nxt (C.pW (Fl.of y) b o kind K aw sv it) t j a rfl (.inr rfl),vO rfl,f.aV _,kM (.inl rfl),λ_=>rfl⟩
     simp only[Mu.mv,k,LK,aaH,p,aaO,Bool.or_self,lb]
 . have z:¬enc s.w.L s.w.K s.w.S s.w.N=enc L K S N:=λe=>p (Q6.2 e)
   refine⟨_,_,_,.rd ⟨aw,sv,it⟩,s,.rd _,iJ j (C.WX b o kind L K S aw sv it) A X.kI hold i f.cw (f.fz o) z,?_,.rd _,nxt (C.rZ (Fl.of y) b o kind L K S aw sv it) t j a rfl (.inr (.inr rfl)),bj rfl,f,Ht (.inl rfl),λ_=>rfl⟩
   simp only[Mu.mv,k,LK,aaH,p,lb]
include C X in
def II{sv}(f:ShM b o w s)(j:s.ms≠0)(h:oc P n b o kind (.gM sv) cs g):lV P n b o kind Wd cs g w main (.gM sv) s:=by
 obtain⟨c,y,fr,frs,rfl,k,i,d,rfl⟩:=h;have a:=sS (main:=main) (cs:=frs++cs) (w:=w) (n:=(s.ms:Int)) i (C.WZ b o kind sv) (by simp[PK,cP]) X.FC f.cs (by omega) (f.fz _);have e:((s.ms:Int)-1)=((s.ms-1:Nat):Int):=by omega
 rw[e]at a;cases sv with
 |true=>exact⟨_,_,_,.up true,{s with ms:=s.ms-1},.up true,a,by simp[Mu.mv,j],.up _,nxt (C.UI (Fl.of y) b o kind) k i d rfl rfl,Ps rfl,f.FG _,v7,λ_=>rfl⟩
 |false=>exact⟨_,_,_,.tq,{s with ms:=s.ms-1},.tq,a,by simp[Mu.mv,j],.tq,nxt (C.UJ (Fl.of y) b o kind) k i d rfl rfl,Ps rfl,f.FG _,v7,λ_=>rfl⟩
include C X in
def Dp{sv}(d:ShM b o w s)(e:s.ms=0)(h:oc P n b o kind (.gM sv) cs g):stepG P main g w=.go {g with status:=.blocked} w #[]:=by obtain⟨c,y,fr,frs,rfl,j,f,i,rfl⟩:=h;have a:=d.cs;rw[e]at a;exact Af f (C.WZ b o kind sv) X.FC a
include C X in
def Pw(j:ShM b o w s)(h:oc P n b o kind .tq cs g):lV P n b o kind Wd cs g w main .tq s:=by
 obtain⟨c,y,fr,frs,rfl,k,i,d,rfl⟩:=h;have e:=Ag (P:=P) (main:=main) (cs:=frs++cs) (w:=w) i (C.Yf b o kind) (by simp[TQ,cP]) X.nano X.LA;have f:=i.re (y':={y with tn:=((w.os.mono+w.tick:Nat):Int)}) (.inl rfl) (.inl rfl) (.inl rfl) (.inr rfl);have a:=d.gT (y':={y with tn:=((w.os.mono+w.tick:Nat):Int)}) (by simpa[TQ,cP]using C.p2 b o kind);have key:=C.tT (Fl.of {y with tn:=((w.os.mono+w.tick:Nat):Int)}) b o kind (decide (IntKind.i64.wrap (((w.os.mono+w.tick:Nat):Int)-y.ws)>1000000));rw[UN rfl]at key;refine⟨_,_,_,.up (decide (IntKind.i64.wrap (((w.os.mono+w.tick:Nat):Int)-y.ws)>1000000)),s,.up _,e,?_,.up _,nxt (y:={y with tn:=((w.os.mono+w.tick:Nat):Int)}) key k f a rfl rfl,bj rfl ⟨⟨w.tick,rfl⟩,rfl⟩,j.heap rfl,fT,λ_=>rfl⟩;cases decide (IntKind.i64.wrap (((w.os.mono+w.tick:Nat):Int)-y.ws)>1000000)<;>simp[Mu.mv]
include C X in
def Px{sv}(m:ShM b o w s)(hb:s.w.N<=1000)(v:∀q s',(q,s')∈Mu.mv (.up sv) s->Mu.loc q)(h:oc P n b o kind (.up sv) cs g):lV P n b o kind Wd cs g w main (.up sv) s:=by
 obtain⟨c,y,fr,frs,rfl,A,x,p,rfl⟩:=h;have f:({y with N:=(s.w.N:Int)}:Sy).ok:=⟨⟨by simp,by show(s.w.N:Int)<=1000;omega⟩,A.2⟩
 have i:=x.re (y':={y with N:=(s.w.N:Int)}) (.inr rfl) (.inl rfl) (.inl rfl) (.inl rfl)
 have e:=p.gT (y':={y with N:=(s.w.N:Int)}) (by simpa[UP,cP]using C.p2 b o kind)
 have j:=qN (main:=main) (cs:=frs++cs) x (C.Yg b o kind sv) X.UK X.nS m.cw
 by_cases k:s.w.S=true
 . have r:(s.w.L||s.w.K||decide (s.w.N=0))=false:=by
    cases B:(s.w.L||s.w.K||decide (s.w.N=0))with
    |false=>rfl
    |true=>exact(v .bad s (by simp[Mu.mv,k,B])).elim
   have a:((.add s.w sv:Mu.Pc),s)∈Mu.mv (.up sv) s:=by simp[Mu.mv,k,r]
   simp only[acz,abq]at r;obtain⟨⟨D,E⟩,t⟩:=r;have key:=C.Pq (Fl.of {y with N:=(s.w.N:Int)}) b o kind sv (decide (s.w.N=1))
   rw[R3 (by show decide ((s.w.N:Int)=0)=false;simpa using t) (by show decide ((s.w.N:Int)=1)=decide (s.w.N=1);rw[ach,acn,acn];omega)]at key
   have u:SR {y with N:=(s.w.N:Int)} (.word false false true 0) (.int .i32 (enc s.w.L s.w.K s.w.S s.w.N)):=by rw[D,E,k];exact qP rfl
   exact⟨_,w,#[],_,s,.add s.w sv,j,a,.add _ _,nxt (y:={y with N:=(s.w.N:Int)}) key f i e u rfl,bj rfl,m,fT,λ_=>rfl⟩
 . have d:s.w.S=false:=by simpa using k
   have a:(Mu.nx s.w ⟨true,sv,0⟩,s)∈Mu.mv (.up sv) s:=by simp[Mu.mv,d]
   have u:SR {y with N:=(s.w.N:Int)} (.word s.w.L s.w.K false 0) (.int .i32 (enc s.w.L s.w.K s.w.S s.w.N)):=by rw[d];exact qP rfl
   obtain⟨F,z,G,H,I⟩:=UL (Wd:=Wd) (C.zt (Fl.of {y with N:=(s.w.N:Int)}) b o kind s.w.L s.w.K sv) f i e u
   obtain⟨J,M,O⟩:=HB C (Wd:=Wd) (cs:=cs) (old:=s.w) (l:=⟨true,sv,0⟩) f rfl (by rw[d];exact G) (by rw[d];exact H) (v _ _ a)
   exact⟨_,w,#[],_,s,TB s.w ⟨true,sv,0⟩,j,a,Q5 _ _,⟨rfl,J,(I cs).trans M,O⟩,bj rfl,m,fT,λ_=>rfl⟩
include C X in
def LJ{old sv}(d:ShM b o w s)(hb:s.w.N<=1000)(j:s.w.L=false)(k:s.w.S=true)(q:s.w.N≠0)(h:oc P n b o kind (.add old sv) cs g):lV P n b o kind Wd cs g w main (.add old sv) s:=by
 obtain⟨c,y,fr,frs,rfl,l,i,f,rfl⟩:=h;have a:=pU (main:=main) (cs:=frs++cs) (w:=w) i (C.Yh b o kind _) (by simp[AD,cP]) X.add (λx h=>h) d.cw (d.fz _)
 have e:IntKind.i32.wrap (enc s.w.L s.w.K s.w.S s.w.N+(if !sv||decide (old.N=1)then -11 else -7))=enc true s.w.K (s.w.S && !(!sv||decide (old.N=1))) (s.w.N-1:Nat):=by
  rw[j,k];have m:((s.w.N-1:Nat):Int)=(s.w.N:Int)-1:=by omega
  rw[m];generalize (!sv||decide (old.N=1))=x;have p:=lT (L:=false) (K:=s.w.K) (S:=true) (N:=(s.w.N:Int));rw[jf (by split<;>omega) (by split<;>omega)];unfold enc;cases x<;>cases s.w.K<;>simp[Bool.toNat]<;>omega
 rw[e]at a;exact⟨_,_,_,.held,{s with w:={s.w with L:=true,S:=s.w.S && !(!sv||decide (old.N=1)),N:=s.w.N-1}},.le,a,by simp[Mu.mv],.held,nxt (C.vY (Fl.of y) b o kind _) l i f trivial (.inr rfl),vO rfl,d.aV {s.w with L:=true,S:=s.w.S && !(!sv||decide (old.N=1)),N:=s.w.N-1},kM (.inl rfl),λ_=>rfl⟩
include C X in
def IJ(t:ShM b o w s)(hb:s.w.N<=1000)(q:s.w.L=true)(h:oc P n b o kind .held cs g):lV P n b o kind Wd cs g w main .held s:=by
 obtain⟨c,y,fr,frs,rfl,A,z,u,rfl⟩:=h;have k:({y with N:=(s.w.N:Int)}:Sy).ok:=⟨⟨by simp,by show(s.w.N:Int)<=1000;omega⟩,A.2⟩
 have l:=z.re (y':={y with N:=(s.w.N:Int)}) (.inr rfl) (.inl rfl) (.inl rfl) (.inl rfl)
 have d:=u.gT (y':={y with N:=(s.w.N:Int)}) (by simpa[rY,pq]using(C.p3 b o kind).1)
 have i:=pU (main:=main) (cs:=frs++cs) (w:=w) z (C.W6 b o kind) (by simp[rY,pq]) X.add (λx h=>h) t.cw (t.fz _)
 have e:IntKind.i32.wrap (enc s.w.L s.w.K s.w.S s.w.N+-1)=enc false s.w.K s.w.S s.w.N:=by
  rw[q];have B:=lT (L:=true) (K:=s.w.K) (S:=s.w.S) (N:=(s.w.N:Int));rw[jf (by omega) (by omega)]
  unfold enc;simp[Bool.toNat];omega
 rw[e]at i;have m:=t.aV {s.w with L:=false}
 have p:SR {y with N:=(s.w.N:Int)} (.word false s.w.K s.w.S 0) (.int .i32 (enc false s.w.K s.w.S s.w.N)):=qP rfl
 by_cases r:s.w.S=true
 . have key:=C.X5 (Fl.of {y with N:=(s.w.N:Int)}) b o kind (decide ((s.w.N:Int)=0)) s.w.K
   rw[r]at p;exact⟨_,_,_,.give,{s with w:={s.w with L:=false}},.give,i,by simp[Mu.mv,q,r,Mu.Wd.zero],.give,nxt (y:={y with N:=(s.w.N:Int)}) key k l d (by rw[r];exact p) (.inr rfl),vO rfl,m,kM (.inl rfl),λ_=>rfl⟩
 . have f:s.w.S=false:=by simpa using r
   by_cases v:(decide ((s.w.N:Int)=0)||s.w.K)=true
   . have key:=C.u5 (Fl.of {y with N:=(s.w.N:Int)}) b o kind (decide ((s.w.N:Int)=0)) s.w.K v
     refine⟨_,_,_,.out,{s with w:={s.w with L:=false}},.ue,i,?_,.out,nxt (y:={y with N:=(s.w.N:Int)}) key k l d (by rw[f]at p ⊢;exact p) rfl,vO rfl,m,kM (.inl rfl),λ_=>rfl⟩
     have a:(decide (s.w.N=0)||s.w.K)=true:=by simpa using v
     simp only[Mu.mv,q,ack,aaH,lb,zH,and_true];split
     . rfl
     . simp only
   . have a:(decide ((s.w.N:Int)=0)||s.w.K)=false:=by simpa using v
     simp only[acz,abq]at a;have j:s.w.N≠0:=by have:=a.1;omega
     have key:=C.X6 (Fl.of {y with N:=(s.w.N:Int)}) b o kind
     rw[HA (by show decide ((s.w.N:Int)=0)=false;simpa using j)]at key
     rw[a.2,f]at p;refine⟨_,_,_,.jl {s.w with L:=false},{s with w:={s.w with L:=false}},.jl _,i,?_,.jl _,nxt (y:={y with N:=(s.w.N:Int)}) key k l d (by rw[a.2,f];exact p) ⟨rfl,rfl,rfl,a.2,f,j⟩,vO rfl,m,kM (.inl rfl),λ_=>rfl⟩
     have D:({s.w with L:=false}:Mu.Wd)≠Mu.Wd.zero:=λe=>j (by have:=congrArg Mu.Wd.N e;exact this)
     simp[Mu.mv,q,f,j,a.2,Mu.Wd.zero]
include C X in
def IK{old}(d:ShM b o w s)(h:oc P n b o kind (.jl old) cs g):lV P n b o kind Wd cs g w main (.jl old) s:=by
 obtain⟨c,y,fr,frs,⟨rfl,k,q,r,t,l⟩,u,i,f,rfl⟩:=h;obtain⟨L,K,S,N⟩:=old;simp only at k q r t l;subst q;subst r;subst t;have v:(UC P n b o kind).1.kind≠.early:=by simp[UC,vi]
 have hold:∀x,SR y wf x->x=.int .i32 (enc false false false N):=λx m=>by have:=m.1;rw[k,acS]at this;exact this
 have a:∀x,SR y (.word false true false (-1)) x->x=.int .i32 (enc false true false (N-1:Nat)):=λx m=>by have:=m.1;rw[k]at this;rw[this];congr 2;omega
 by_cases j:s.w=⟨false,false,false,N⟩
 . have z:=d.cw
   rw[j]at z;exact⟨_,_,_,.give,{s with w:=⟨false,true,false,N-1⟩},.give,il i (C.W7 b o kind) v X.kI hold a z (d.fz o),by simp[Mu.mv,j],.give,nxt (C.X7 (Fl.of y) b o kind) u i f rfl (.inl rfl),vO rfl,d.aV ⟨false,true,false,N-1⟩,kM (.inl rfl),λ_=>rfl⟩
 . have p:¬enc s.w.L s.w.K s.w.S s.w.N=enc false false false N:=λe=>j (Q6.2 e)
   exact⟨_,_,_,.vM,s,.vM,iJ i (C.W7 b o kind) v X.kI hold a d.cw (d.fz o) p,by simp[Mu.mv,j],.vM,nxt (C.X8 (Fl.of y) b o kind) u i f rfl rfl,bj rfl,d,Ht (.inl rfl),λ_=>rfl⟩
include C X in
def LL(k:ShM b o w s)(hb:s.w.N<=1000)(h:oc P n b o kind .vM cs g):lV P n b o kind Wd cs g w main .vM s:=by
 obtain⟨c,y,fr,frs,rfl,x,v,l,rfl⟩:=h;have e:({y with N:=(s.w.N:Int)}:Sy).ok:=⟨⟨by simp,by show(s.w.N:Int)<=1000;omega⟩,x.2⟩
 have f:=v.re (y':={y with N:=(s.w.N:Int)}) (.inr rfl) (.inl rfl) (.inl rfl) (.inl rfl)
 have d:=l.gT (y':={y with N:=(s.w.N:Int)}) (by simpa[OX,vi]using C.p4 b o kind)
 have i:=qN (main:=main) (cs:=frs++cs) v (C.Yo b o kind) X.UK X.nV k.cw;have m:SR {y with N:=(s.w.N:Int)} (.word s.w.L s.w.K s.w.S 0) (.int .i32 (enc s.w.L s.w.K s.w.S s.w.N)):=qP rfl
 by_cases p:(decide ((s.w.N:Int)=0)||s.w.L||s.w.K||s.w.S)=true
 . have key:=C.u7 (Fl.of {y with N:=(s.w.N:Int)}) b o kind (decide ((s.w.N:Int)=0)) s.w.L s.w.K s.w.S p
   have a:(decide (s.w.N=0)||s.w.L||s.w.K||s.w.S)=true:=by simpa using p
   exact⟨_,w,#[],.out,s,.ue,i,by simp only[Mu.mv,a,aaO,lb],.out,nxt (y:={y with N:=(s.w.N:Int)}) key e f d m rfl,bj rfl,k,fT,λ_=>rfl⟩
 . have a:(decide ((s.w.N:Int)=0)||s.w.L||s.w.K||s.w.S)=false:=by simpa using p
   have q:(decide (s.w.N=0)||s.w.L||s.w.K||s.w.S)=false:=by rw[<-a];simp
   simp only[acz,abq]at a;obtain⟨⟨⟨z,r⟩,t⟩,u⟩:=a;have j:s.w.N≠0:=by omega
   have key:=C.X9 (Fl.of {y with N:=(s.w.N:Int)}) b o kind
   rw[HA (by show decide ((s.w.N:Int)=0)=false;simpa using j)]at key
   rw[r,t,u]at m;exact⟨_,w,#[],.jl s.w,s,.jl _,i,by simp only[Mu.mv,q,LK,aaH,lb],.jl _,nxt (y:={y with N:=(s.w.N:Int)}) key e f d (by rw[r,t,u];exact m) ⟨rfl,rfl,r,t,u,j⟩,bj rfl,k,fT,λ_=>rfl⟩
include C X in
def IL(d:ShM b o w s)(l:s.ms<=1000)(h:oc P n b o kind .give cs g):lV P n b o kind Wd cs g w main .give s:=by
 obtain⟨c,y,fr,frs,k,j,i,f,rfl⟩:=h;have e:IntKind.u32.wrap ((s.ms:Int)+1)=((s.ms+1:Nat):Int):=by rw[IntKind.wrap_u32];omega
 rcases k with rfl|rfl
 . have a:=oy (main:=main) (cs:=frs++cs) (w:=w) i (C.W8 b o kind) (by simp[G7,vi]) X.oz d.cs (d.fz _)
   rw[e]at a;exact⟨_,_,_,.out,{s with ms:=s.ms+1},.ue,a,by simp[Mu.mv],.out,nxt (C.u8 (Fl.of y) b o kind) j i f rfl rfl,Ps rfl,d.FG _,v7,λ_=>rfl⟩
 . have a:=oy (main:=main) (cs:=frs++cs) (w:=w) i (C.W9 b o kind) (by simp[G9,vi]) X.oz d.cs (d.fz _)
   rw[e]at a;exact⟨_,_,_,.out,{s with ms:=s.ms+1},.ue,a,by simp[Mu.mv],.out,nxt (C.u9 (Fl.of y) b o kind) j i f rfl rfl,Ps rfl,d.FG _,v7,λ_=>rfl⟩
end

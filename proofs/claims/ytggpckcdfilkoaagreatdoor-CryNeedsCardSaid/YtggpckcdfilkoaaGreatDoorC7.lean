import Derived.Conc.ClockLaws
import Derived.Conc.MarkLaws
import Derived.Conc.AtomicLaws2
import Derived.Conc.SmallLaws
import Derived.Laws.LoneSync
import Derived.Test.YtggpckcdfilkoaaGreatDoorC6
set_option linter.all false
namespace Go.bu
open Go.Conc
abbrev L9:=List (Nat × SV)
def ck(s:vS):Option (FuncId × List SV):=
 match s.mode,s.todo with
 | .run, .inRegion ο (i::_)::_=>match ο[i]? with
   | some o=>match F6 ο s.env o with
     | some true=>match o.op with
       | .call c=>match c.callee with
         |.value (.func f)=>some (f,c.args.toList.map (sv s.env))
         |_=>none
       |_=>none
     |_=>none
   |none=>none
 |_,_=>none
def xL(s:vS):Option (TypeId × SV):=
 match s.mode,s.todo with
 | .run,.inRegion ο (i::_)::_=>match ο[i]? with
   | some o=>match F6 ο s.env o with
     | some true=>match o.op with
       |.load t x=>some (t,sv s.env x)
       |_=>none
     |_=>none
   |none=>none
 |_,_=>none
structure Ext(P:Rg)(f:FuncId)  e :Prop where
 ex:∃fn,P.funcs[f]?=some fn/\(fn.name==  "runtime.NumGoroutine")=false/\fn.body.isNone=true/\Extern.findNext fn=none/\Extern.find fn=some e
def gh {y s fr f svs} (j:FR y s fr) (h:ck s=some (f,svs)) :
 ∃ ο i μ kk o as a,ο[i]? = some o∧Region.wanted o (yielded ο fr.tmps)=true∧o.op = .call { callee:=.value (.func f),args:=as,argTypes:=a }∧svs=as.toList.map (sv s.env) ∧
   fr=(fr.at ⟨fr.tmps,fr.defers⟩ (.inRegion ο (i :: μ) :: kk))∧∀ v,fr.at ((⟨fr.tmps,fr.defers⟩:Act).put o.dst v) (.inRegion ο μ :: kk)=fr.finish v:=by
 have d:=j;obtain⟨fn,τ,todo,ξ,mode,ν,ro⟩:=fr;obtain⟨n,e,p,b,q,k,r,t⟩:=j;simp only at n e p b q k r t;subst k;unfold ck at h;split at h
 . rename_i ο i μ kk u w
   rw[u] at b;rw[w] at e;have b:mode = .run:=b;subst b;subst e;split at h
   . rename_i o l
     split at h
     . rename_i x
       split at h
       . rename_i c z
         split at h
         . rename_i g m
           simp only[td,zG] at h;obtain⟨rfl,rfl⟩:=h;obtain⟨callee,args,a⟩:=c;simp only at m;subst m;refine⟨ο,i,μ,kk,o,args,a,l,wu d x,z,rfl,rfl,fun v=>?_⟩
           simp only[Frame.finish,l,Option.bind_some,Act.put,Frame.at]
           grind
         grind
       grind
     grind
   grind
 grind
section
variable{P:Rg}{γ:Bool}{y:Sy}{s:vS}{fr:Frame}{f:FuncId}{svs:List SV}{cs:E8}{w:World}
theorem acA{fr:Frame}  x :(⟨fr.tmps,fr.defers⟩:Act).eval x=fr.eval x:=by cases x<;>rfl
def Hx {as:Array I8} (b:FR y s fr) {svs} (h:svs=as.toList.map (sv s.env)):∀ (j:Nat)  v ,svs[j]? = some v->∃ x,(as.map (⟨fr.tmps,fr.defers⟩:Act).eval)[j]? = some x∧SR y v x:=fun j v a=>by
 subst h;rw[Hi,ON] at a;obtain⟨x,c,rfl⟩:=Fh.1 a;exact⟨fr.eval x,by grind [acA],b.sv x⟩
def jK {m} (c:∀ g,m ≠ .extern g) (b:FR y s fr) (h:ck s=some (f,svs)) (u:s.kind ≠ .early) (d:Ext P f (fun _=>do mark m;pure Extern.Race.none_)):stepG P γ (G fr cs) w = .go (G (fr.finish (.tuple #[])) cs) w #[⟨.mark m,false,true⟩]:=by
 obtain⟨ο,i,μ,kk,o,as,e,j,k,l,v,x,z⟩:=gh b h;obtain⟨fn,n,p,q,r,t⟩:=d.ex;have:=stepG_mark0  (main:=γ)  (a:=⟨fr.tmps,fr.defers⟩) (kk:=kk) (cs:=cs) (w:=w) (rest:=μ) m c j k (by rw[b.kind];omega) l n p q r t
 grind
def kq {mk} (d:∀ ad g,mk ad ≠ .extern g) {ad} (a:FR y s fr) (h:ck s=some (f,[.lit (.pointer (some ad))])) (v:s.kind ≠ .early) (e:Ext P f (Extern.Race.marked mk)):stepG P γ (G fr cs) w = .go (G (fr.finish (.tuple #[])) cs) w #[⟨.mark (mk ad),false,true⟩]:=by
 obtain⟨ο,i,μ,kk,o,as,j,k,l,m,n,z,A⟩:=gh a h;obtain⟨fn,p,q,r,t,u⟩:=e.ex;obtain⟨x,c,b⟩:=Hx a n 0 _ rfl;rw[b] at c;have:=stepG_markAt  (main:=γ)   (kk:=kk) (cs:=cs) (w:=w) (rest:=μ) mk d k l (by rw[a.kind];omega) m p q r t u c
 grind
def Jk {as a b c} (h:[a,b,c]=as.toList.map (sv s.env)):∃ x z u,as=#[x,z,u]∧sv s.env x=a∧sv s.env z=b∧sv s.env u=c:=by
 obtain⟨l⟩:=as
 match l,h with
 | [x,z,u],h=>grind
def Sa {as a b} (h:[a,b]=as.toList.map (sv s.env)):∃ x z,as=#[x,z]∧sv s.env x=a∧sv s.env z=b:=by
 obtain⟨l⟩:=as
 match l,h with
 | [x,z],h=>grind
def Sb {as a} (h:[a]=as.toList.map (sv s.env)):∃ x,as=#[x]∧sv s.env x=a:=by
 obtain⟨l⟩:=as
 match l,h with
 | [x],h=>grind
def m5(b:FR y s fr){x a}(h:sv s.env x=a):SR y a ((⟨fr.tmps,fr.defers⟩:Act).eval x):=by subst h;exact b.sv x
def lX {k ad a b v n} (c:FR y s fr) (h:ck s=some (f,[.lit (.pointer (some ad)),a,b])) (I:s.kind ≠ .early) (e:Ext P f (Extern.Atomic.casT (.int k)))
 (g:∀ x,SR y a x->x = .int k v) (hb:∀ x,SR y b x->x = .int k n) (j:w.cell? ad=some (.int k v)) (l:w.frozen? ad=false) :
 stepG P γ (G fr cs) w = .go (G (fr.finish (.bool true)) cs) (w.setCell ad (.int k n)) #[⟨.cell ad,false,true⟩,⟨.cell ad,true,true⟩]:=by
 obtain⟨ο,i,μ,kk,o,as,m,p,q,r,t,J,K⟩:=gh c h;obtain⟨fn,A,B,C,D,E⟩:=e.ex;obtain⟨x,z,u,rfl,F,d,H⟩:=Jk t;have:=stepG_cas_hit  (main:=γ)   (kk:=kk) (cs:=cs)  (rest:=μ) p q (by rw[c.kind];omega) r A B C D k E (m5 c F) (g _ (m5 c d)) (hb _ (m5 c H)) j l
 grind
def mO {k ad a b v old n} (c:FR y s fr) (h:ck s=some (f,[.lit (.pointer (some ad)),a,b])) (J:s.kind ≠ .early) (g:Ext P f (Extern.Atomic.casT (.int k)))
 (j:∀ x,SR y a x->x = .int k old) (hb:∀ x,SR y b x->x = .int k n) (l:w.cell? ad=some (.int k v)) (m:w.frozen? ad=false) (d : ¬ v=old) :
 stepG P γ (G fr cs) w = .go (G (fr.finish (.bool false)) cs) w #[⟨.cell ad,false,true⟩]:=by
 obtain⟨ο,i,μ,kk,o,as,p,q,r,t,A,K,L⟩:=gh c h;obtain⟨fn,B,C,D,E,F⟩:=g.ex;obtain⟨x,z,u,rfl,H,e,I⟩:=Jk A;have:=stepG_cas_miss  (main:=γ)   (kk:=kk) (cs:=cs)  (rest:=μ) q r (by rw[c.kind];omega) t B C D E k F (m5 c H) (j _ (m5 c e)) (hb _ (m5 c I)) l m d
 grind
def wv {k ad a v d} (b:FR y s fr) (h:ck s=some (f,[.lit (.pointer (some ad)),a])) (E:s.kind ≠ .early) (e:Ext P f (Extern.Atomic.update (Op.intArith .add) k true))
 (g:∀ x,SR y a x->x = .int k d) (j:w.cell? ad=some (.int k v)) (l:w.frozen? ad=false) :
 stepG P γ (G fr cs) w = .go (G (fr.finish (.int k (k.wrap (v+d)))) cs) (w.setCell ad (.int k (k.wrap (v+d)))) #[⟨.cell ad,false,true⟩,⟨.cell ad,true,true⟩]:=by
 obtain⟨ο,i,μ,kk,o,as,m,n,p,q,r,F,H⟩:=gh b h;obtain⟨fn,t,u,A,B,C⟩:=e.ex;obtain⟨x,z,rfl,D,c⟩:=Sa r;have:=stepG_add_atomic  (main:=γ)   (kk:=kk) (cs:=cs)  (rest:=μ) n p (by rw[b.kind];omega) q t u A B k C (m5 b D) (g _ (m5 b c)) j l
 grind
def zg {ad l n} (a:FR y s fr) (h:ck s=some (f,.lit (.pointer (some ad)) :: l)) (B:s.kind ≠ .early) (d:Ext P f Extern.Sync.semacquire) (e:w.cell? ad=some (.int .u32 n)) (g:n≠0) (j:w.frozen? ad=false) :
 stepG P γ (G fr cs) w = .go (G (fr.finish (.tuple #[])) cs) (w.setCell ad (.int .u32 (n-1))) (semEvents ad):=by
 obtain⟨ο,i,μ,kk,o,as,k,m,p,q,r,C,D⟩:=gh a h;obtain⟨fn,t,u,v,z,A⟩:=d.ex;obtain⟨x,c,b⟩:=Hx a r 0 _ rfl;rw[b] at c;have:=stepG_semacquire  (main:=γ)   (kk:=kk) (cs:=cs)  (rest:=μ) m p (by rw[a.kind];omega) q t u v z A c e g j
 grind
def Gc {ad l} (c:FR y s fr) (h:ck s=some (f,.lit (.pointer (some ad)) :: l)) (e:Ext P f Extern.Sync.semacquire) (g:w.cell? ad=some (.int .u32 0)) :
 stepG P γ (G fr cs) w = .go { G fr cs with status:=.blocked } w #[]:=by
 obtain⟨ο,i,μ,kk,o,as,j,k,m,n,p,z,A⟩:=gh c h;obtain⟨fn,q,r,t,u,v⟩:=e.ex;obtain⟨x,d,a⟩:=Hx c p 0 _ rfl;rw[a] at d;have:=stepG_semacquire_wait  (main:=γ) (b:=fr)  (kk:=kk) (cs:=cs)  (rest:=μ) k m n q r t u v d g
 grind
def uU {ad l n} (a:FR y s fr) (h:ck s=some (f,.lit (.pointer (some ad)) :: l)) (A:s.kind ≠ .early) (d:Ext P f Extern.Sync.semrelease) (e:w.cell? ad=some (.int .u32 n)) (g:w.frozen? ad=false) :
 stepG P γ (G fr cs) w = .go (G (fr.finish (.tuple #[])) cs) (w.setCell ad (.int .u32 (IntKind.u32.wrap (n+1)))) (semEvents ad):=by
 obtain⟨ο,i,μ,kk,o,as,j,k,m,p,q,B,C⟩:=gh a h;obtain⟨fn,r,t,u,v,z⟩:=d.ex;obtain⟨x,c,b⟩:=Hx a q 0 _ rfl;rw[b] at c;have:=stepG_semrelease  (main:=γ)   (kk:=kk) (cs:=cs)  (rest:=μ) k m (by rw[a.kind];omega) p r t u v z c e g
 grind
def Gd (c:FR y s fr) (h:ck s=some (f,svs)) (u:s.kind ≠ .early) (d:Ext P f Extern.OsHooks.nano) (e:∃ fn,P.funcs[f]? = some fn∧fn.norace=true) :
 stepG P γ (G fr cs) w = .go (G (fr.finish (.int .i64 ((w.os.mono+w.tick:Nat):Int))) cs) w.later #[]:=by
 obtain⟨ο,i,μ,kk,o,as,g,j,k,l,v,x,z⟩:=gh c h;obtain⟨fn,m,n,p,q,r⟩:=d.ex;obtain⟨b,A,t⟩:=e;obtain rfl:b=fn:=am
 have:=stepG_nanotime  (main:=γ)  (a:=⟨fr.tmps,fr.defers⟩) (kk:=kk) (cs:=cs) (w:=w) (rest:=μ) j k (by rw[c.kind];omega) l m n p q r t
 grind
def ahR {n} (c:FR y s fr) (h:ck s=some (f,[.lit (.int .i64 n)])) (A:s.kind ≠ .early) (t:Ext P f Extern.Sync.canSpin) :
 ∃ b w',stepG P γ (G fr cs) w = .go (G (fr.finish (.bool b)) cs) w' #[]∧(b=true->n<4)∧(w'=w∨w'=w.asked):=by
 obtain⟨ο,i,μ,kk,o,as,u,e,g,j,d,B,C⟩:=gh c h;obtain⟨fn,l,m,p,q,r⟩:=t.ex;obtain⟨x,rfl,v⟩:=Sb d;have z:(⟨fr.tmps,fr.defers⟩:Act).eval x = .int .i64 n:=m5 c v
 by_cases d:n<4
 . have:=stepG_canSpin_ask (P:=P) (main:=γ) (b:=fr) (a:=⟨fr.tmps,fr.defers⟩) (kk:=kk) (cs:=cs) (w:=w) (rest:=μ) e g (by rw[c.kind];omega) j l m p q r  (k:=.i64) am d
   grind
 . have:=stepG_canSpin_no  (main:=γ)  (a:=⟨fr.tmps,fr.defers⟩) (kk:=kk) (cs:=cs) (w:=w) (rest:=μ) e g (by rw[c.kind];omega) j l m p q r (n:=n) (k:=.i64) am ac
   grind
def AR {v} (b:FR y s fr) (h:ck s=some (f,svs)) (q:s.kind ≠ .early) (c:Ext P f (fun _=>pure v)):stepG P γ (G fr cs) w = .go (G (fr.finish v) cs) w #[]:=by
 obtain⟨ο,i,μ,kk,o,as,d,e,g,j,r,t,u⟩:=gh b h;obtain⟨fn,k,l,m,n,p⟩:=c.ex;have:=stepG_entry  (main:=γ)  (a:=⟨fr.tmps,fr.defers⟩) (kk:=kk) (cs:=cs) (w:=w) (rest:=μ) (v:=v) (w':=w) (evs:=#[]) e g (by rw[b.kind];omega) j k l m n p ap ap ap
 grind
def Sc{α β P}{f:α->Sem β}  s :∀{a},uI P s=some a->∀w es,(s.bind f).runT P w es=(f a).runT P w es:=by
 induction s with
 |pure b=>intro a h w es;simp  [uI]at h;subst h;rfl
 |program g c=>intro a h w es;exact c P h w es
 |_=>intro a h;simp[uI]at h
def xm{t:Nat}{ad v}(p:FR y s fr)(h:xL s=some (t,.lit (.pointer (some ad))))(A:uI P (isAgg t)=some false)(B:∃fn,P.funcs[s.fn]?=some fn/\fn.norace=true)(C:w.cell? ad=some v):
 stepG P γ (G fr cs) w=.go (G (fr.finish v) cs) w #[]:=by
 have f:=p;obtain⟨fn,τ,todo,ξ,mode,ν,ro⟩:=fr;obtain⟨D,q,O,g,Q,E,R,S⟩:=p;subst E;unfold xL at h;split at h
 . rename_i ο r μ u F i
   rw[F]at g;rw[i]at q;have g:mode=.run:=g;subst g;subst q;split at h
   . rename_i o H
     split at h
     . rename_i I
       split at h
       . rename_i a x j
         simp only[td,zG]at h;obtain⟨rfl,J⟩:=h;have d:=f.sv x;rw[J]at d;have d:Frame.eval ⟨fn,τ,.inRegion ο (r::μ)::u,ξ,.run,ν,none⟩ x=.pointer (some ad):=d;obtain⟨K,k,l⟩:=B;subst D;rw[tY H (wu f I)];have hex:execOp (Frame.eval ⟨s.fn,τ,.inRegion ο (r::μ)::u,ξ,.run,ν,none⟩) o=Sem.bind (Instr.loadAt a (.pointer (some ad))) (λv=>pure (Next.value v)):=by simp only[execOp,j,d];rfl
         have e:(Sem.bind (Instr.loadAt a (.pointer (some ad))) (λv=>(pure (Next.value v):Sem Next))).runT P w #[]=(.ok (.value v) w,#[⟨.cell ad,false,false⟩]):=by
          have L:Instr.loadAt a (.pointer (some ad))=Sem.bind (isAgg a) (λb=>if b=true then Sem.bind (sizeOf a) (λn=>Sem.bind (loadCells ad n) (λc=>pure (.agg c)))else load ad):=rfl
          rw[L]
          have M:Sem.bind (Sem.bind (isAgg a) (λb=>if b=true then Sem.bind (sizeOf a) (λn=>Sem.bind (loadCells ad n) (λc=>pure (.agg c)))else load ad)) (λv=>(pure (Next.value v):Sem Next))=
           Sem.bind (isAgg a) (λb=>Sem.bind (if b=true then Sem.bind (sizeOf a) (λn=>Sem.bind (loadCells ad n) (λc=>pure (.agg c)))else load ad) (λv=>(pure (Next.value v):Sem Next))):=bind_assoc (m:=Sem) _ _ _
          rw[M,Sc _ A];show Sem.runT P (Sem.load .plain ad λv=>pure (Next.value v)) w #[]=_
          simp only[Sem.runT,C];rfl
         rw[hex]
         have N:seen P s.fn #[⟨.cell ad,false,false⟩]=#[]:=by rw[seen_def];simp[k,l,seenStep]
         simp only[stepG.apply,ZC,e,GStep.after]
         by_cases z:(ν==CallKind.early)=true
         . simp[z,pj,G]
         . simp[z,N,G]
       grind
     grind
   grind
 grind
def qh(s:vS):Option (TypeId × TypeId × SV):=
 match s.mode,s.todo with
 | .run,.inRegion ο (i::_)::_=>match ο[i]? with
   | some o=>match F6 ο s.env o with
     | some true=>match o.op with
       |.convert a b x=>some (a,b,sv s.env x)
       |_=>none
     |_=>none
   |none=>none
 |_,_=>none
def AS{a b t ad}(l:FR y s fr)(h:qh s=some (a,b,.lit (.pointer (some ad))))(m:P.underlying a=some (.pointer t))(n:P.underlying b=some .unsafePointer)(p:(P.info? t).map (λi=>decide (i.size=0))=some false)(f:∃v,w.cell? ad=some v):
 stepG P γ (G fr cs) w=.go (G (fr.finish (.pointer (some ad))) cs) w #[]:=by
 obtain⟨v,f⟩:=f;have d:=l;obtain⟨fn,τ,todo,ξ,mode,ν,ro⟩:=fr;obtain⟨z,g,A,e,B,q,C,D⟩:=l;simp only at z g A e B q C D;subst q;unfold qh at h;split at h
 . rename_i ο r μ u E j
   rw[E]at e;rw[j]at g;have e:mode=.run:=e;subst e;subst g;split at h
   . rename_i o F
     split at h
     . rename_i H
       split at h
       . rename_i I J x k
         simp only[td,zG]at h;obtain⟨rfl,rfl,K⟩:=h;have c:=d.sv x;rw[K]at c;have c:Frame.eval ⟨fn,τ,.inRegion ο (r::μ)::u,ξ,.run,ν,none⟩ x=.pointer (some ad):=c;rw[tY F (wu d H)];have hex:execOp (Frame.eval ⟨fn,τ,.inRegion ο (r::μ)::u,ξ,.run,ν,none⟩) o=(do pure (.value (<-convert I J (.pointer (some ad)))):Sem Next):=by simp only[execOp,k,c]
         have L:=run_convert_to_unsafe m n p f;have M:=events_convert_to_unsafe m n p f #[];rw[hex];simp[stepG.apply,L,M,GStep.after,pj,G,Result.andThen]
       grind
     grind
   grind
 grind
end
def ia(P:Rg)(f:FuncId)(args:List SV)(ν:FB):vS:=
 match P.funcs[f]? with
 |some fn=>⟨f,[.code (fn.body.getD .skip)],args++List.replicate (fn.ntmps-args.length) .eT,[],.run,ν⟩
 |none=>⟨f,[],args,[],.run,ν⟩
abbrev fq:=vS × List vS
def next(P:Rg)(a:Fl)(c:fq)(v:SV):fq:=match Dr c.1 v with|some s=>sgo P a 400 s c.2|none=>c
def pt(b o:Nat):SV:=.lit (.pointer (some ⟨b,o,none⟩))
def un:SV:=.lit (.tuple #[])
def tt:SV:=.lit (.bool true)
def ff:SV:=.lit (.bool false)
def NF(live:ZB)(ε:List SV):List SV:=(List.range ε.length).zipWith (λi v=>if live.contains i then v else .eT) ε
def keep(live:ZB)(s:vS):vS:={s with env:=NF live s.env}
def Sd(ε:List SV):L9->List SV
 |[]=>ε
 |(i,v)::l=>Sd (ε.set i v) l
def FR.keep{y:Sy}{s:vS}{fr:Frame}(h:FR y s fr)(live:ZB):FR y (keep live s) fr:=by
 refine⟨h.fn,h.todo,h.defers,h.mode,h.kind,h.ro,?_,λt=>?_⟩
 . rw[h.size]
   show s.env.length=(NF live s.env).length;rw[NF,List.length_zipWith,L2,Nat.min_self]
 . have:=h.env t
   simp only[Go.bu.keep,NF];rw[sg,List.getElem?_zipWith];by_cases a:t<s.env.length
   . rw[List.getElem?_range a,kn a]
     simp only;split
     . grind
     . trivial
   grind
def plain:SV->Bool
 |.eT=>true
 |.lit _=>true
 |_=>false
def FR.lG{y y' s fr}(h:FR y s fr)(a:s.env.all plain=true):FR y' s fr:=by
 refine⟨h.fn,h.todo,h.defers,h.mode,h.kind,h.ro,h.size,λt=>?_⟩;have b:=h.env t
 have c:plain (s.env.getD t .eT)=true:=by
  rw[sg];cases q:s.env[t]? with
  |none=>rfl
  |some v=>grind
 generalize s.env.getD t .eT=v at *;cases v<;>simp_all [plain,SR]
structure Jl where
 lock:Nat
 unlock:Nat
 ab1:Nat
 CA:Nat
 ZK:Nat
 YH:Nat
 om:Nat
 en:Nat
 acq:Nat
 rel:Nat
 qe:Nat
 add:Nat
 OZ:Nat
 AT:Nat
 nano:Nat
 LS:Nat
 uV:Nat
 tM:Nat
 tU:Nat
 tI:Nat
def aer(c:fq):ZB:=[c.1.fn,c.1.todo.length,(match c.1.todo with|.inRegion ο (i::_)::_=>i|_=>999),(match ck c.1 with|some (f,_)=>f|none=>match xL c.1 with|some (t,_)=>1000+t|none=>999)]++c.2.map (·.fn)
def qO:Fl:=⟨false,false,false,false,false,false⟩
def Se(P:Rg)(f:Fl):Nat->vS->List vS->fq
 |0,fr,st=>(fr,st)
 | n + 1,fr,st=>match ss P f fr st with
   | some (a,b)=>match a.todo with
     |.code _::.inLoop _::_=>(a,b)
     |_=>Se P f n a b
   |none=>(fr,st)
def Jm(live:ZB)(c:fq):fq:=(keep live c.1,c.2.map (keep []))
def bM(P:Rg)(a:Fl)(live:ZB)(c:fq)(v:SV):Option fq:=(Dr c.1 v).map λs=>Jm live (sgo P a 400 s c.2)
def wx(P:Rg)(a:Fl)(live:ZB)(c:fq)(v:SV):Option fq:=(Dr c.1 v).map λs=>Jm live (Se P a 400 s c.2)
def Ns(P:Rg)(a:Fl)(live:ZB)(c:fq):fq:=Jm live (sgo P a 400 c.1 c.2)
def bl(x:Bool):SV:=.lit (.bool x)
def i64(n:Int):SV:=.lit (.int .i64 n)
def i32(n:Int):SV:=.lit (.int .i32 n)
def jk(n:Nat):List SV:=List.replicate n .eT
section
variable(P:Rg)(n:Jl)(b o:Nat)(ν:FB)
def wf:SV:=.word false false false 0
def wl:SV:=.word true false false 0
def Nq:fq:=Jm [0] (sgo P qO 400 (ia P n.lock [pt b o] ν) [])
def Sf:fq:=next P qO (Nq P n b o ν) un
def Rq:fq:=next P qO (Sf P n b o ν) tt
def Rn:fq:=next P qO (Rq P n b o ν) un
def aet:fq:=next P qO (Rn P n b o ν) (pt b o)
def LU:fq:=next P qO (Sf P n b o ν) ff
def rHd:fq:=(wx P qO [] (LU P n b o ν) wf).getD (LU P n b o ν)
def Np:fq:=next P qO (LU P n b o ν) wl
def PS:fq:=next P qO (Np P n b o ν) tt
def PU:fq:=next P qO (PS P n b o ν) tt
def aev:fq:=next P qO (PU P n b o ν) un
def ZL:fq:=next P qO (Np P n b o ν) ff
def aew:fq:=next P qO (ZL P n b o ν) ff
def Rc:fq:=next P qO (next P qO (LU P n b o ν) wf) tt
def Rb:fq:=next P qO (Rc P n b o ν) un
def aex:fq:=next P qO (Rb P n b o ν) (pt b o)
def PR:fq:=next P qO (ZL P n b o ν) tt
def PT:fq:=next P qO (PR P n b o ν) .OX
def PQ:fq:=next P qO (PT P n b o ν) un
def PN:fq:=next P qO (PQ P n b o ν) .now
def rAd:fq:=next P qO (PN P n b o ν) (.word false false true 0)
def Nl:List vS:=(Nq P n b o ν).2
def Nk:List vS:=(LU P n b o ν).2.map (keep [])
def sJ(a:AJ)(l:L9):fq:=(⟨n.ab1,a,Sd (jk 13) l,[],.run,.normal⟩,Nl P n b o ν)
def eL(a:AJ)(l:L9):fq:=(⟨n.ZK,a,Sd (jk 139) l,[],.run,.normal⟩,Nk P n b o ν)
def LD:fq:=Nq P n b o ν
def AU:fq:=sJ P n b o ν (Sf P n b o ν).1.todo [(0,pt b o),(5,pt b o)]
def YI:fq:=sJ P n b o ν (Rq P n b o ν).1.todo [(0,pt b o)]
def PG:fq:=sJ P n b o ν (Rn P n b o ν).1.todo [(8,pt b o)]
def YJ:fq:=sJ P n b o ν (aet P n b o ν).1.todo [(9,pt b o)]
def BK:fq:=(⟨n.lock,[],jk 6,[],.ret,ν⟩,[])
def YK(aw sv:Bool)(it:Int):L9:=[(0,pt b o),(2,.OX),(3,bl sv),(4,bl aw),(5,i64 it)]
def PC:fq:=eL P n b o ν (LU P n b o ν).1.todo [(0,pt b o),(2,i64 0),(3,ff),(4,ff),(5,i64 0),(12,pt b o)]
def ZM(aw sv:Bool)(it:Int):fq:=eL P n b o ν (LU P n b o ν).1.todo (YK b o aw sv it++[(12,pt b o)])
def NG(aw sv:Bool)(it:Int):fq:=eL P n b o ν (aev P n b o ν).1.todo (YK b o aw sv it++[(47,pt b o)])
def ZN(aw sv:Bool)(it:Int):fq:=eL P n b o ν (aew P n b o ν).1.todo (YK b o aw sv it++[(133,pt b o)])
def HD(L K S aw sv:Bool)(it:Int):fq:=eL P n b o ν (rHd P n b o ν).1.todo (YK b o aw sv it++[(6,.word L K S 0)])
def SQ(K aw sv:Bool)(it:Int):fq:=eL P n b o ν (Np P n b o ν).1.todo (YK b o aw sv it++[(6,.word true K false 0),(17,tt),(18,i64 it)])
def SW(it:Int):fq:=eL P n b o ν (PS P n b o ν).1.todo (YK b o false false it++[(33,tt),(36,pt b o),(37,.word true false false 0),(39,.word true true false 0)])
def DS(aw sv:Bool)(it:Int):fq:=eL P n b o ν (PU P n b o ν).1.todo (YK b o aw sv it)
def WQ(L K S aw sv:Bool):SV:=.word (L||!S) (if aw then false else K) (S||(sv && L)) (if L||S then 1 else 0)
def Jn(L K S aw sv:Bool)(it:Int):fq:=eL P n b o ν (ZL P n b o ν).1.todo (YK b o aw sv it++[(6,.word L K S 0),(77,pt b o),(78,.word L K S 0),(79,WQ L K S aw sv)])
def T1(sv:Bool):fq:=eL P n b o ν (PR P n b o ν).1.todo [(0,pt b o),(3,bl sv)]
def PK(sv:Bool):fq:=eL P n b o ν (PT P n b o ν).1.todo [(0,pt b o),(2,.OX),(3,bl sv),(91,pt b (o+1))]
def TQ:fq:=eL P n b o ν (PQ P n b o ν).1.todo [(0,pt b o),(2,.OX),(95,ff)]
def UP(sv:Bool):fq:=eL P n b o ν (PN P n b o ν).1.todo [(0,pt b o),(2,.OX),(3,bl sv),(103,pt b o)]
def AD(d:Int):fq:=eL P n b o ν (rAd P n b o ν).1.todo [(0,pt b o),(128,pt b o),(129,i32 d)]
def Wg:fq:=eL P n b o ν (Rc P n b o ν).1.todo [(0,pt b o)]
def PF:fq:=eL P n b o ν (Rb P n b o ν).1.todo [(136,pt b o)]
def YL:fq:=eL P n b o ν (aex P n b o ν).1.todo [(137,pt b o)]
def No:fq:=Jm [0,5] (sgo P qO 400 (ia P n.unlock [pt b o] ν) [])
def Ra:fq:=next P qO (No P n b o ν) .eT
def PM:fq:=next P qO (Ra P n b o ν) (pt b o)
def PO:fq:=next P qO (PM P n b o ν) un
def NH:fq:=next P qO (PO P n b o ν) un
def rUe:fq:=next P {qO with n0:=true} (NH P n b o ν) wf
def MO:fq:=next P qO (NH P n b o ν) wf
def rG9:fq:=next P qO (NH P n b o ν) (.word false false true 0)
def rG7:fq:=next P qO (MO P n b o ν) tt
def aez:fq:=next P qO (MO P n b o ν) ff
def Nj:List vS:=(No P n b o ν).2
def PL:List vS:=(MO P n b o ν).2.map (keep [])
def vI(a:AJ)(l:L9):fq:=(⟨n.CA,a,Sd (jk 21) l,[],.run,.normal⟩,Nj P n b o ν)
def BQ(a:AJ)(l:L9):fq:=(⟨n.YH,a,Sd (jk 43) l,[],.run,.normal⟩,PL P n b o ν)
def U0:fq:=No P n b o ν
def PE:fq:=vI P n b o ν (Ra P n b o ν).1.todo [(0,pt b o),(7,pt b o)]
def UR:fq:=vI P n b o ν (PM P n b o ν).1.todo [(0,pt b o),(8,pt b o)]
def UD:fq:=vI P n b o ν (PO P n b o ν).1.todo [(0,pt b o)]
def yn:fq:=vI P n b o ν (NH P n b o ν).1.todo [(0,pt b o),(13,pt b o),(14,.eT)]
def UE:fq:=vI P n b o ν (rUe P n b o ν).1.todo []
def UC:fq:=BQ P n b o ν (MO P n b o ν).1.todo [(0,pt b o),(27,pt b o),(28,wf),(29,.word false true false (-1))]
def G7:fq:=BQ P n b o ν (rG7 P n b o ν).1.todo [(33,pt b (o+1))]
def G9:fq:=BQ P n b o ν (rG9 P n b o ν).1.todo [(41,pt b (o+1))]
def Wh:fq:=BQ P n b o ν (aez P n b o ν).1.todo [(0,pt b o),(37,pt b o)]
def Nb:fq:=(⟨n.unlock,[],jk 6,[],.ret,ν⟩,[])
end
structure kX  P   n :Prop where
 e1:∀  fl  b o ν,bM P fl [0,5] (LD P n b o ν) un=some (AU P n b o ν)
 e2:∀  fl  b o ν,bM P fl [0] (AU P n b o ν) tt=some (YI P n b o ν)
 e3:∀  fl  b o ν,bM P fl [0,2,3,4,5,12] (AU P n b o ν) ff=some (PC P n b o ν)
 e4:∀  fl  b o ν,bM P fl [8] (YI P n b o ν) un=some (PG P n b o ν)
 e5:∀  fl  b o ν,bM P fl [9] (PG P n b o ν) (pt b o)=some (YJ P n b o ν)
 e6:∀  fl  b o ν,bM P fl [] (YJ P n b o ν) un=some (BK n ν)
 e70:∀  fl  b o ν L K S aw sv it,wx P fl [0,2,3,4,5,6] (ZM P n b o ν aw sv it) (.word L K S 0)=some (HD P n b o ν L K S aw sv it)
 Wi:∀  fl  b o ν L K S aw sv it,wx P fl [0,2,3,4,5,6] (NG P n b o ν aw sv it) (.word L K S 0)=some (HD P n b o ν L K S aw sv it)
 e72:∀  fl  b o ν L K S aw sv it,wx P fl [0,2,3,4,5,6] (ZN P n b o ν aw sv it) (.word L K S 0)=some (HD P n b o ν L K S aw sv it)
 e8:∀  fl  b o ν K aw sv it,Ns P fl [0,2,3,4,5,6,17,18] (HD P n b o ν true K false aw sv it)=SQ P n b o ν K aw sv it
 e9:∀  fl  b o ν L K S aw sv it,(L && !S)=false->(aw && !K)=false->Ns P fl [0,2,3,4,5,6,77,78,79] (HD P n b o ν L K S aw sv it)=Jn P n b o ν L K S aw sv it
 er:∀(fl:Fl) b o ν it,bM P {fl with n0:=false} [0,2,3,4,5,33,36,37,39] (SQ P n b o ν false false false it) tt=some (SW P n b o ν it)
 acb:∀(fl:Fl) b o ν n0 K aw sv it,(!aw && !K && !n0)=false->bM P {fl with n0:=n0} [0,2,3,4,5] (SQ P n b o ν K aw sv it) tt=some (DS P n b o ν aw sv it)
 fh:∀  fl  b o ν K aw sv it,(aw && !K)=false->bM P fl [0,2,3,4,5,6,77,78,79] (SQ P n b o ν K aw sv it) ff=some (Jn P n b o ν true K false aw sv it)
 iQ:∀  fl  b o ν r it,bM P fl [0,2,3,4,5] (SW P n b o ν it) (bl r)=some (DS P n b o ν r false it)
 LV:∀  fl  b o ν aw sv,bM P fl [0,2,3,4,5,47] (DS P n b o ν aw sv 0) un=some (NG P n b o ν aw sv 1)
 LW:∀  fl  b o ν aw sv,bM P fl [0,2,3,4,5,47] (DS P n b o ν aw sv 1) un=some (NG P n b o ν aw sv 2)
 acd:∀  fl  b o ν aw sv,bM P fl [0,2,3,4,5,47] (DS P n b o ν aw sv 2) un=some (NG P n b o ν aw sv 3)
 ace:∀  fl  b o ν aw sv,bM P fl [0,2,3,4,5,47] (DS P n b o ν aw sv 3) un=some (NG P n b o ν aw sv 4)
 qC:∀  fl  b o ν K aw sv it,bM P fl [0] (Jn P n b o ν false K false aw sv it) tt=some (Wg P n b o ν)
 acf:∀(fl:Fl) b o ν L K S aw sv it,(L||S)=true->bM P {fl with wz:=true} [0,3] (Jn P n b o ν L K S aw sv it) tt=some (T1 P n b o ν sv)
 acg:∀(fl:Fl) b o ν L K S aw sv it,(L||S)=true->bM P {fl with wz:=false} [0,2,3,91] (Jn P n b o ν L K S aw sv it) tt=some (PK P n b o ν sv)
 tZ:∀  fl  b o ν L K S aw sv it,bM P fl [0,2,3,4,5,133] (Jn P n b o ν L K S aw sv it) ff=some (ZN P n b o ν aw sv it)
 BR:∀  fl  b o ν sv,bM P fl [0,2,3,91] (T1 P n b o ν sv) .OX=some (PK P n b o ν sv)
 ach:∀  fl  b o ν,bM P fl [0,2,3,103] (PK P n b o ν true) un=some (UP P n b o ν true)
 aci:∀  fl  b o ν,bM P fl [0,2,95] (PK P n b o ν false) un=some (TQ P n b o ν)
 qP:∀(fl:Fl) b o ν x,bM P {fl with tb:=x} [0,2,3,103] (TQ P n b o ν) .now=some (UP P n b o ν x)
 xn:∀(fl:Fl) b o ν sv n1,bM P {fl with n0:=false,n1:=n1} [0,128,129] (UP P n b o ν sv) (.word false false true 0)=some (AD P n b o ν (if !sv||n1 then -11 else -7))
 Ay:∀(fl:Fl) b o ν L K sv,wx P fl [0,2,3,4,5,6] (UP P n b o ν sv) (.word L K false 0)=some (HD P n b o ν L K false true sv 0)
 yo:∀(fl:Fl) b o ν d,bM P fl [0] (AD P n b o ν d) .eT=some (Wg P n b o ν)
 BS:∀(fl:Fl) b o ν,bM P fl [136] (Wg P n b o ν) un=some (PF P n b o ν)
 NI:∀(fl:Fl) b o ν,bM P fl [137] (PF P n b o ν) (pt b o)=some (YL P n b o ν)
 O0:∀(fl:Fl) b o ν,bM P fl [] (YL P n b o ν) un=some (BK n ν)
 u1:∀(fl:Fl) b o ν,bM P fl [0,7] (U0 P n b o ν) .eT=some (PE P n b o ν)
 u2:∀(fl:Fl) b o ν,bM P fl [0,8] (PE P n b o ν) (pt b o)=some (UR P n b o ν)
 u3:∀(fl:Fl) b o ν,bM P fl [0] (UR P n b o ν) un=some (UD P n b o ν)
 u4:∀(fl:Fl) b o ν,bM P fl [0,13] (UD P n b o ν) un=some (yn P n b o ν)
 u5:∀(fl:Fl) b o ν n0 K,(n0||K)=true->bM P {fl with n0:=n0} [] (yn P n b o ν) (.word false K false 0)=some (UE P n b o ν)
 u5g:∀(fl:Fl) b o ν n0 K,bM P {fl with n0:=n0} [41] (yn P n b o ν) (.word false K true 0)=some (G9 P n b o ν)
 u5c:∀(fl:Fl) b o ν,bM P {fl with n0:=false} [0,27,28,29] (yn P n b o ν) (.word false false false 0)=some (UC P n b o ν)
 u6t:∀(fl:Fl) b o ν,bM P fl [33] (UC P n b o ν) tt=some (G7 P n b o ν)
 u6f:∀(fl:Fl) b o ν,bM P fl [0,37] (UC P n b o ν) ff=some (Wh P n b o ν)
 u7:∀(fl:Fl) b o ν n0 L K S,(n0||L||K||S)=true->bM P {fl with n0:=n0} [] (Wh P n b o ν) (.word L K S 0)=some (UE P n b o ν)
 u7c:∀(fl:Fl) b o ν,bM P {fl with n0:=false} [0,27,28,29] (Wh P n b o ν) (.word false false false 0)=some (UC P n b o ν)
 u8:∀(fl:Fl) b o ν,bM P fl [] (G7 P n b o ν) un=some (UE P n b o ν)
 u9:∀(fl:Fl) b o ν,bM P fl [] (G9 P n b o ν) un=some (UE P n b o ν)
 u10:∀(fl:Fl) b o ν,bM P fl [] (UE P n b o ν) un=some (Nb n ν)
 o1:∀b o ν,ck (LD P n b o ν).1=some (n.om,[])/\(LD P n b o ν).1.kind=.normal
 o2:∀b o ν,ck (AU P n b o ν).1=some (n.qe,[pt b o,i32 0,i32 1])
 o3:∀b o ν,ck (YI P n b o ν).1=some (n.en,[])
 o4:∀b o ν,qh (PG P n b o ν).1=some (n.tM,n.tU,pt b o)
 o5:∀b o ν,ck (YJ P n b o ν).1=some (n.acq,[pt b o])
 o60:∀b o ν aw sv it,xL (ZM P n b o ν aw sv it).1=some (n.tI,pt b o)
 o61:∀b o ν aw sv it,xL (NG P n b o ν aw sv it).1=some (n.tI,pt b o)
 o62:∀b o ν aw sv it,xL (ZN P n b o ν aw sv it).1=some (n.tI,pt b o)
 o7:∀b o ν K aw sv it,ck (SQ P n b o ν K aw sv it).1=some (n.OZ,[i64 it])
 o8:∀b o ν it,ck (SW P n b o ν it).1=some (n.qe,[pt b o,.word true false false 0,.word true true false 0])
 o9:∀b o ν aw sv it,ck (DS P n b o ν aw sv it).1=some (n.AT,[])
 o10:∀b o ν L K S aw sv it,ck (Jn P n b o ν L K S aw sv it).1=some (n.qe,[pt b o,.word L K S 0,WQ L K S aw sv])
 o11:∀b o ν sv,ck (T1 P n b o ν sv).1=some (n.nano,[])
 o12:∀b o ν sv,ck (PK P n b o ν sv).1=some (n.LS,[pt b (o+1),.eT,i64 2])
 o13:∀b o ν,ck (TQ P n b o ν).1=some (n.nano,[])
 o14:∀b o ν sv,xL (UP P n b o ν sv).1=some (n.tI,pt b o)
 o15:∀b o ν d,ck (AD P n b o ν d).1=some (n.add,[pt b o,i32 d])
 o16:∀b o ν,ck (Wg P n b o ν).1=some (n.en,[])
 o17:∀b o ν,qh (PF P n b o ν).1=some (n.tM,n.tU,pt b o)
 o18:∀b o ν,ck (YL P n b o ν).1=some (n.acq,[pt b o])
 o20:∀b o ν,xL (U0 P n b o ν).1=some (n.tI,pt b o)/\(U0 P n b o ν).1.kind=.normal/\(U0 P n b o ν).1.fn=n.CA
 o21:∀b o ν,qh (PE P n b o ν).1=some (n.tM,n.tU,pt b o)
 o22:∀b o ν,ck (UR P n b o ν).1=some (n.rel,[pt b o])
 o23:∀b o ν,ck (UD P n b o ν).1=some (n.om,[])
 o24:∀b o ν,ck (yn P n b o ν).1=some (n.add,[pt b o,i32 (-1)])
 o25:∀b o ν,ck (UC P n b o ν).1=some (n.qe,[pt b o,wf,.word false true false (-1)])
 o26:∀b o ν,ck (G7 P n b o ν).1=some (n.uV,[pt b (o+1),ff,i64 2])
 o27:∀b o ν,ck (G9 P n b o ν).1=some (n.uV,[pt b (o+1),tt,i64 2])
 o28:∀b o ν,xL (Wh P n b o ν).1=some (n.tI,pt b o)
 o29:∀b o ν,ck (UE P n b o ν).1=some (n.en,[])
 p1:∀b o ν,(Nl P n b o ν).all (·.env.all plain)=true/\(LD P n b o ν).1.env.all plain=true/\(LD P n b o ν).2=Nl P n b o ν
 p2:∀b o ν,(Nk P n b o ν).all (·.env.all plain)=true
 p3:∀b o ν,(Nj P n b o ν).all (·.env.all plain)=true/\(U0 P n b o ν).1.env.all plain=true/\(U0 P n b o ν).2=Nj P n b o ν
 p4:∀b o ν,(PL P n b o ν).all (·.env.all plain)=true
structure kY  P  (n:Jl):Prop where
 om:Ext P n.om (λ_=>do mark .disable;pure Extern.Race.none_)
 en:Ext P n.en (λ_=>do mark .enable;pure Extern.Race.none_)
 acq:Ext P n.acq (Extern.Race.marked .acquire)
 rel:Ext P n.rel (Extern.Race.marked .releaseMerge)
 qe:Ext P n.qe (Extern.Atomic.casT (.int .i32))
 add:Ext P n.add (Extern.Atomic.update (Op.intArith .add) .i32 true)
 OZ:Ext P n.OZ Extern.Sync.canSpin
 AT:Ext P n.AT (λ_=>pure (.tuple #[]))
 nano:Ext P n.nano Extern.OsHooks.nano
 Sg:∃fn,P.funcs[n.nano]?=some fn/\fn.norace=true
 LS:Ext P n.LS Extern.Sync.semacquire
 uV:Ext P n.uV Extern.Sync.semrelease
 tyI:uI P (isAgg n.tI)=some false
 tyM:∃t,P.underlying n.tM=some (.pointer t)/\P.underlying n.tU=some .unsafePointer/\(P.info? t).map (λi=>decide (i.size=0))=some false
 nS:∃fn,P.funcs[n.ZK]?=some fn/\fn.norace=true
 nU:∃fn,P.funcs[n.CA]?=some fn/\fn.norace=true
 nV:∃fn,P.funcs[n.YH]?=some fn/\fn.norace=true
def Sy.ok(y:Sy):Prop:=(0<=y.N/\y.N<=1000)/\(0<=y.c/\y.c<=1000)
def Fl.of(y:Sy):Fl:=⟨decide (y.N=0),decide (y.N=1),decide (y.c=0),decide (y.c=1),decide (y.ws=0),decide (IntKind.i64.wrap (y.tn-y.ws)>1000000)⟩
def Fl.Jo{y}(h:y.ok):(Fl.of y).At y:=⟨h.1,h.2,rfl,rfl,rfl,rfl,rfl,rfl⟩
def NJ:SV->Bool|.word ..=>true|.cnt=>true|_=>false
def Si:SV->Bool|.ju _=>true|.ND=>true|.OV=>true|_=>false
def Sj:SV->Bool|.OX=>true|.dif=>true|_=>false
def Sk:SV->Bool|.now=>true|.dif=>true|_=>false
def SR.re{y y' v x}(h:SR y v x)(a:y.N=y'.N\/NJ v=false)(b:y.c=y'.c\/Si v=false)(d:y.ws=y'.ws\/Sj v=false)(e:y.tn=y'.tn\/Sk v=false):SR y' v x:=by cases v<;>simp_all [SR,NJ,Si,Sj,Sk]
def FR.re{y y' s fr}(h:FR y s fr)(a:y.N=y'.N\/s.env.all (λv=>!NJ v)=true)(b:y.c=y'.c\/s.env.all (λv=>!Si v)=true)
 (d:y.ws=y'.ws\/s.env.all (λv=>!Sj v)=true) (e:y.tn=y'.tn\/s.env.all (λv=>!Sk v)=true):FR y' s fr:=by
 have key:∀(u:SV->Bool) (t:Nat),u .eT=false->s.env.all (λv=>!u v)=true->u (s.env.getD t .eT)=false:=am;exact⟨h.fn,h.todo,h.defers,h.mode,h.kind,h.ro,h.size,λt=>(h.env t).re (a.imp id (key _ t rfl)) (b.imp id (key _ t rfl)) (d.imp id (key _ t rfl)) (e.imp id (key _ t rfl))⟩
def sn.lG{y y'}:∀{l fs},sn y l fs->l.all (·.env.all plain)=true->sn y' l fs
 |[],fs,h,_=>by rw[h.uS];trivial
 |s::l,fs,h,a=>by obtain⟨f,b,rfl,c,d⟩:=h.cons_inv;simp only[IN,vc]at a;exact⟨c.lG a.1,d.lG a.2⟩
def sn.keep{y}  live :∀{l fs},sn y l fs->sn y (l.map (Go.bu.keep live)) fs
 |[],fs,h=>am
 |s::l,fs,h=>by obtain⟨f,a,rfl,b,c⟩:=h.cons_inv;exact⟨b.keep live,c.keep live⟩
def NK{P Wd f y}(i:f.At y):∀  n  {s st fr ψ},FR y s fr->sn y st ψ ->
 ∃m b a,FR y (Se P f n s st).1 b/\sn y (Se P f n s st).2 a/\∀cs,n8 P Wd m (G fr (ψ++cs)) (G b (a++cs))
 |0,s,st,fr,ψ,g,c=>⟨0,fr,ψ,g,c,λ_=>rfl⟩
 | n + 1,s,st,fr,ψ,g,c=>by
   unfold Se;cases e:ss P f s st with
   |none=>exact⟨0,fr,ψ,g,c,λ_=>rfl⟩
   | some p=>
     obtain⟨b,a,j,k,l⟩:=YG i e g c;simp only;split
     . exact⟨1,b,a,j,k,λcs=>⟨_,l cs,rfl⟩⟩
     . obtain⟨m,h,d,o,q,r⟩:=NK i n j k
       exact⟨m+1,h,d,o,q,λcs=>⟨_,l cs,r cs⟩⟩
section
variable{P:Rg}{Wd:FD}{y:Sy}{c c':fq}{live:ZB}{v:SV}{x:Value}{fr:Frame}{ψ:E8}
def YM(e:bM P (Fl.of y) live c v=some c')(f:y.ok)(g:FR y c.1 fr)(d:sn y c.2 ψ)(h:SR y v x):
 ∃b a,FR y c'.1 b/\sn y c'.2 a/\∀cs,ze P Wd (G (fr.finish x) (ψ++cs)) (G b (a++cs)):=by
 obtain⟨s,i,rfl⟩:=Fh.1 e;obtain⟨m,b,a,j,k,l⟩:=ry  (Fl.Jo f) 400  (g.fin i h) d;exact⟨b,a,j.keep live,k.keep [],λcs=>⟨m,l cs⟩⟩
def R4(e:wx P (Fl.of y) live c v=some c')(f:y.ok)(g:FR y c.1 fr)(d:sn y c.2 ψ)(h:SR y v x):
 ∃b a,FR y c'.1 b/\sn y c'.2 a/\∀cs,ze P Wd (G (fr.finish x) (ψ++cs)) (G b (a++cs)):=by
 obtain⟨s,i,rfl⟩:=Fh.1 e;obtain⟨m,b,a,j,k,l⟩:=NK  (Fl.Jo f) 400  (g.fin i h) d;exact⟨b,a,j.keep live,k.keep [],λcs=>⟨m,l cs⟩⟩
def R3(e:Ns P (Fl.of y) live c=c')(f:y.ok)(g:FR y c.1 fr)(d:sn y c.2 ψ):
 ∃b a,FR y c'.1 b/\sn y c'.2 a/\∀cs,ze P Wd (G fr (ψ++cs)) (G b (a++cs)):=by
 subst e;obtain⟨m,b,a,h,i,j⟩:=ry  (Fl.Jo f) 400  g d;exact⟨b,a,h.keep live,i.keep [],λcs=>⟨m,j cs⟩⟩
end
open Mu in
inductive Hy where
 |ld|mE|rd (l:Lo)|sq (old:Wd) (l:Lo)|sw (old:Wd) (l:Lo)|qe (old:Wd) (l:Lo)|t1 (sv:Bool)|lx (sv:Bool)|tq|up (sv:Bool)|add (old:Wd) (sv:Bool)|le|la|back
 |NL|ur|ud|held|nZ (old:Wd)|Cl|give|ue|Jp
section
variable(P:Rg)(n:Jl)(b o:Nat)(ν:FB)
def LQ(p:Hy)(c:fq)(y:Sy):Prop:=
 match p with
 |.ld=>c=LD P n b o ν
 |.mE=>c=AU P n b o ν
 |.rd l=>c=ZM P n b o ν l.aw l.sv l.it\/c=NG P n b o ν l.aw l.sv l.it\/c=ZN P n b o ν l.aw l.sv l.it
 |.sq old l=>c=SQ P n b o ν old.K l.aw l.sv l.it/\y.N=old.N/\old.L=true/\old.S=false
 |.sw old l=>c=SW P n b o ν l.it/\y.N=old.N/\l.aw=false/\l.sv=false/\old.L=true/\old.K=false/\old.S=false
 |.qe old l=>c=Jn P n b o ν old.L old.K old.S l.aw l.sv l.it/\y.N=old.N
 |.t1 sv=>c=T1 P n b o ν sv
 |.lx sv=>c=PK P n b o ν sv
 |.tq=>c=TQ P n b o ν
 |.up sv=>c=UP P n b o ν sv
 |.add old sv=>c=AD P n b o ν (if !sv||decide (old.N=1)then -11 else -7)
 |.le=>c=YI P n b o ν\/c=Wg P n b o ν
 |.la=>c=YJ P n b o ν\/c=YL P n b o ν
 |.back=>c=BK n ν
 |.NL=>c=U0 P n b o ν
 |.ur=>c=UR P n b o ν
 |.ud=>c=UD P n b o ν
 |.held=>c=yn P n b o ν
 |.nZ old=>c=UC P n b o ν/\y.N=old.N/\old.L=false/\old.K=false/\old.S=false/\old.N≠0
 |.Cl=>c=Wh P n b o ν
 |.give=>c=G7 P n b o ν\/c=G9 P n b o ν
 |.ue=>c=UE P n b o ν
 |.Jp=>c=Nb n ν
def uJ(p:Hy)(cs:E8)(g:YB):Prop:=∃c y fr ψ,LQ P n b o ν p c y/\y.ok/\FR y c.1 fr/\sn y c.2 ψ/\g=G fr (ψ++cs)
end
def uJ.running{P n b o ν p cs g}(h:uJ P n b o ν p cs g):g.status=.running/\g.offers=none:=by obtain⟨c,y,fr,ψ,_,_,_,_,rfl⟩:=h;exact⟨rfl,rfl⟩
structure ShM  b o  (w:World) (s:Mu.Sh):Prop where
 cw:w.cell? ⟨b,o,none⟩=some (.int .i32 (enc s.w.L s.w.K s.w.S s.w.N))
 cs:w.cell? ⟨b,o+1,none⟩=some (.int .u32 s.ms)
 fz:∀i,w.frozen? ⟨b,i,none⟩=false
def MW(b o:Nat)(w w':World):Prop:=(sE w.os w'.os/\w'.output=w.output)/\(w'.heap=w.heap\/∃i v,(i=o\/i=o+1)/\flat v=true/\w'.heap=(w.setCell ⟨b,i,none⟩ v).heap)
def EvM(b o:Nat)(es:KP):Prop:=∀e∈es,(e.loc=.mark .disable\/e.loc=.mark .enable)\/(∃i,(i=o\/i=o+1)/\e.loc=.cell ⟨b,i,none⟩/\e.sync=true)
def xp{w w':World}(h:w'.heap=w.heap)  a :w'.cell? a=w.cell? a/\w'.frozen? a=w.frozen? a:=by simp[World.cell?,World.frozen?,h]
def ShM.heap{b o w w' s}(h:ShM b o w s)(e:w'.heap=w.heap):ShM b o w' s:=⟨by rw[(xp e _).1];exact h.cw,by rw[(xp e _).1];exact h.cs,λi=>by rw[(xp e _).2];exact h.fz i⟩
def pJ{w:World}{b i u v}(h:w.cell? ⟨b,i,none⟩=some u):(w.setCell ⟨b,i,none⟩ v).cell? ⟨b,i,none⟩=some v:=by
 unfold World.cell? at h ⊢;unfold World.setCell
 grind
def uW{w:World}{a v b i}:(w.setCell a v).frozen? ⟨b,i,none⟩=w.frozen? ⟨b,i,none⟩:=aq
def ShM.bW{b o w s}(h:ShM b o w s)  w' :ShM b o (w.setCell ⟨b,o,none⟩ (.int .i32 (enc w'.L w'.K w'.S w'.N))) {s with w:=w'}:=⟨pJ h.cw,by rw[gZ ap];exact h.cs,λi=>by rw[uW];exact h.fz i⟩
def ShM.LX{b o w s}(h:ShM b o w s)(m:Nat):ShM b o (w.setCell ⟨b,o+1,none⟩ (.int .u32 m)) {s with ms:=m}:=⟨by rw[gZ ap];exact h.cw,pJ h.cs,λi=>by rw[uW];exact h.fz i⟩
def kD{b o}:EvM b o #[]:=λe h=>by simp at h
def NM{b o i}(hi:i=o\/i=o+1):EvM b o #[⟨.cell ⟨b,i,none⟩,false,true⟩]:=λe h=>aq
def qk{b o i}(hi:i=o\/i=o+1):EvM b o #[⟨.cell ⟨b,i,none⟩,false,true⟩,⟨.cell ⟨b,i,none⟩,true,true⟩]:=λe h=>am
def CB{b o}:EvM b o (semEvents ⟨b,o+1,none⟩):=λe h=>by
 simp[semEvents]at h
 grind
section
variable{P:Rg}{n:Jl}(C:kX P n)(X:kY P n){b o:Nat}{ν:FB}{Wd:FD}{cs:E8}{g:YB}{w:World}{γ:Bool}
variable(hWd:∀w,Wd w->∃v,w.cell? ⟨b,o,none⟩=some v)
def Next(P:Rg)(n:Jl)(b o:Nat)(ν:FB)(Wd:FD)(cs:E8)(p:Hy)(a:YB):Prop:=a.status=.running/\∃c,ze P Wd a c/\uJ P n b o ν p cs c
def nxt{y c c' live v x fr ψ p}(g:bM P (Fl.of y) live c v=some c')(f:y.ok)(h:FR y c.1 fr)(d:sn y c.2 ψ)(i:SR y v x)(j:LQ P n b o ν p c' y):
 Next P n b o ν Wd cs p (G (fr.finish x) (ψ++cs)):=by
 obtain⟨e,a,k,l,m⟩:=YM  g f h d i;exact⟨rfl,_,m cs,c',y,e,a,j,f,k,l,rfl⟩
def y0:Sy:=⟨2,2,1,0⟩
def zh:y0.ok:=by unfold Sy.ok y0;decide
def afY(h:∃fn body,P.funcs[n.lock]?=some fn/\fn.body=some body/\fn.ntmps=6):∃e,ze P Wd (G (Frame.enter P n.lock #[.pointer (some ⟨b,o,none⟩)] ν) cs) e/\uJ P n b o ν .ld cs e:=by
 obtain⟨fn,body,a,i,g⟩:=h
 have j:FR y0 (ia P n.lock [pt b o] ν) (Frame.enter P n.lock #[.pointer (some ⟨b,o,none⟩)] ν):=by
  refine⟨by simp[ia,a,Frame.enter],by simp[ia,a,i,Frame.enter],by simp[ia,a,Frame.enter],by simp[ia,a,Frame.enter,Jh.of],by simp[ia,a,Frame.enter],rfl,by simp[ia,a,g,Frame.enter],λt=>?_⟩;simp  [ia,a,Frame.enter,g,IP]
  match t with
  |0=>rfl
  |1|2|3|4|5=>trivial
  |t+6=>trivial
 obtain⟨m,d,c,k,l,p⟩:=ry   (f:=qO)  ⟨be,be,rfl,rfl,rfl,rfl,rfl,be⟩ 400 j (st:=[]) (ψ:=[]) trivial;have q:=p cs;exact⟨_,⟨m,q⟩,_,y0,d,c,rfl,zh,k.keep [0],l.keep [],rfl⟩
def Sl:∀g ,Mark.disable≠.extern g:=am
def Sm:∀g ,Mark.enable≠.extern g:=am
include C X in
def Hz(h:uJ P n b o ν .ld cs g):∃d,stepG P γ g w=.go d w #[⟨.mark .disable,false,true⟩]/\Next P n b o ν Wd cs .mE d:=by obtain⟨c,y,fr,ψ,rfl,f,e,a,rfl⟩:=h;exact⟨_,jK Sl e (C.o1 b o ν).1 (by rw[show(LD P n b o ν).1.kind=_ from(C.o1 b o ν).2];decide) X.om,nxt (C.e1 _ b o ν) f e a rfl rfl⟩
include C X in
def NN(h:uJ P n b o ν .ud cs g):∃d,stepG P γ g w=.go d w #[⟨.mark .disable,false,true⟩]/\Next P n b o ν Wd cs .held d:=by obtain⟨c,y,fr,ψ,rfl,f,e,a,rfl⟩:=h;exact⟨_,jK Sl e (C.o23 b o ν) (by simp[UD,vI]) X.om,nxt (C.u4 _ b o ν) f e a rfl rfl⟩
include C X in
def HA(h:uJ P n b o ν .ue cs g):∃d,stepG P γ g w=.go d w #[⟨.mark .enable,false,true⟩]/\Next P n b o ν Wd cs .Jp d:=by obtain⟨c,y,fr,ψ,rfl,f,e,a,rfl⟩:=h;exact⟨_,jK Sm e (C.o29 b o ν) (by simp[UE,vI]) X.en,nxt (C.u10 _ b o ν) f e a rfl rfl⟩
include C X in
def NP(h:uJ P n b o ν .ur cs g):∃d,stepG P γ g w=.go d w #[⟨.mark (.releaseMerge ⟨b,o,none⟩),false,true⟩]/\Next P n b o ν Wd cs .ud d:=by obtain⟨c,y,fr,ψ,rfl,f,e,a,rfl⟩:=h;exact⟨_,kq (λi g h=>by cases h) e (C.o22 b o ν) (by simp[UR,vI]) X.rel,nxt (C.u3 _ b o ν) f e a rfl rfl⟩
include C X in
def NQ(h:uJ P n b o ν .la cs g):∃e,stepG P γ g w=.go e w #[⟨.mark (.acquire ⟨b,o,none⟩),false,true⟩]/\Next P n b o ν Wd cs .back e:=by
 obtain⟨c,y,fr,ψ,i,f,d,a,rfl⟩:=h;rcases i with rfl|rfl
 . exact⟨_,kq (λj g h=>by cases h) d (C.o5 b o ν) (by simp[YJ,sJ]) X.acq,nxt (C.e6 _ b o ν) f d a rfl rfl⟩
 . exact⟨_,kq (λj g h=>by cases h) d (C.o18 b o ν) (by simp[YL,eL]) X.acq,nxt (C.O0 _ b o ν) f d a rfl rfl⟩
include X hWd in
def through{y c c' live fr ψ p}(f:qh c.1=some (n.tM,n.tU,pt b o))(g:bM P (Fl.of y) live c (pt b o)=some c')(h:y.ok)(e:FR y c.1 fr)(d:sn y c.2 ψ)(i:LQ P n b o ν p c' y):
 ∃a,ze P Wd (G fr (ψ++cs)) a/\uJ P n b o ν p cs a:=by
 obtain⟨t,j,k,l⟩:=X.tyM;obtain⟨_,a,m,q⟩:=nxt (P:=P) (n:=n) (b:=b) (o:=o) (ν:=ν) (Wd:=Wd) (cs:=cs) (x:=.pointer (some ⟨b,o,none⟩)) g h e d rfl i;refine⟨a,ze.trans (zd.F7 ⟨rfl,λγ w r=>?_⟩) m,q⟩;exact AS e f j k l (hWd w r)
include C X hWd in
def NR(h:uJ P n b o ν .le cs g):∃s,stepG P γ g w=.go s w #[⟨.mark .enable,false,true⟩]/\Next P n b o ν Wd cs .la s:=by
 obtain⟨c,y,fr,ψ,t,e,f,a,rfl⟩:=h;rcases t with rfl|rfl
 . refine⟨_,jK Sm f (C.o3 b o ν) (by simp[YI,sJ]) X.en,rfl,?_⟩
   obtain⟨i,d,j,k,l⟩:=YM (Wd:=Wd) (x:=.tuple #[]) (C.e4 _ b o ν) e f a rfl;obtain⟨m,q,r⟩:=through X hWd (cs:=cs) (p:=.la) (C.o4 b o ν) (C.e5 _ b o ν) e j k (.inl rfl);exact⟨m,(l cs).trans q,r⟩
 . refine⟨_,jK Sm f (C.o16 b o ν) (by simp[Wg,eL]) X.en,rfl,?_⟩
   obtain⟨i,d,j,k,l⟩:=YM (Wd:=Wd) (x:=.tuple #[]) (C.BS _ b o ν) e f a rfl;obtain⟨m,q,r⟩:=through X hWd (cs:=cs) (p:=.la) (C.o17 b o ν) (C.NI _ b o ν) e j k (.inr rfl);exact⟨m,(l cs).trans q,r⟩
include C X hWd in
def Dt{v}(j:w.cell? ⟨b,o,none⟩=some v)(h:uJ P n b o ν .NL cs g):∃d,stepG P γ g w=.go d w #[]/\Next P n b o ν Wd cs .ur d:=by
 obtain⟨c,y,fr,ψ,rfl,e,f,a,rfl⟩:=h;refine⟨_,xm f (C.o20 b o ν).1 X.tyI (by rw[show(U0 P n b o ν).1.fn=_ from(C.o20 b o ν).2.2];exact X.nU) j,rfl,?_⟩;obtain⟨k,i,l,m,q⟩:=YM (Wd:=Wd) (x:=v) (C.u1 _ b o ν) e f a trivial;obtain⟨r,s,t⟩:=through X hWd (cs:=cs) (p:=.ur) (C.o21 b o ν) (C.u2 _ b o ν) e l m rfl;exact⟨r,(q cs).trans s,t⟩
include C X in
def WR{sv}(h:uJ P n b o ν (.t1 sv) cs g):∃f,stepG P γ g w=.go f w.later #[]/\Next P n b o ν Wd cs (.lx sv) f:=by
 obtain⟨c,y,fr,ψ,rfl,j,i,d,rfl⟩:=h;refine⟨_,Gd i (C.o11 b o ν sv) (by simp[T1,eL]) X.nano X.Sg,?_⟩;have e:=i.re (y':={y with ws:=((w.os.mono+w.tick:Nat):Int)}) (.inl rfl) (.inl rfl) (.inr (by cases sv<;>rfl)) (.inl rfl);have a:=d.lG (y':={y with ws:=((w.os.mono+w.tick:Nat):Int)}) (by simpa[T1,eL]using C.p2 b o ν);exact nxt (y:={y with ws:=((w.os.mono+w.tick:Nat):Int)}) (x:=.int .i64 ((w.os.mono+w.tick:Nat):Int)) (C.BR _ b o ν sv) j e a rfl rfl
end
inductive To:Mu.Pc->Hy->Prop
 |out:To .out .ue
 |rd (l:Mu.Lo):To (.rd l) (.rd l)
 |sq (old:Mu.Wd) (l:Mu.Lo):To (.sq old l) (.sq old l)
 |sw (old:Mu.Wd) (l:Mu.Lo):To (.sw old l) (.sw old l)
 |qe (old:Mu.Wd) (l:Mu.Lo):To (.qe old l) (.qe old l)
 |t1 (sv:Bool):To (.lx sv) (.t1 sv)
 |lx (sv:Bool):To (.lx sv) (.lx sv)
 |tq:To .tq .tq
 |up (sv:Bool):To (.up sv) (.up sv)
 |add (old:Mu.Wd) (sv:Bool):To (.add old sv) (.add old sv)
 |held:To .held .le
 |nZ (old:Mu.Wd):To (.nZ old) (.nZ old)
 |Cl:To .Cl .Cl
 |give:To .give .give
def rz(P:Rg)(n:Jl)(b o:Nat)(ν:FB)(Wd:FD)(cs:E8)(g:YB)(w:World)(γ:Bool)(pc:Mu.Pc)(s:Mu.Sh):Prop:=∃c a es q e f,stepG P γ g w=.go c a es/\(q,e)∈Mu.mv pc s/\To q f/\Next P n b o ν Wd cs f c/\MW b o w a/\ShM b o a e/\EvM b o es/\∀d,deafBehind d es=d
def cH{b o w w'}(h:w'.heap=w.heap)(a:sE w.os w'.os/\w'.output=w.output:=by exact⟨sE.refl _,rfl⟩):MW b o w w':=⟨a,.inl h⟩
def Cn{b o w v}(h:flat v=true):MW b o w (w.setCell ⟨b,o,none⟩ v):=⟨⟨.refl _,rfl⟩,am⟩
def WT{b o w v}(h:flat v=true):MW b o w (w.setCell ⟨b,o+1,none⟩ v):=⟨⟨.refl _,rfl⟩,am⟩
theorem NS{L K S a b c}{N d:Nat}:enc L K S N=enc a b c d↔(L=a/\K=b/\S=c/\N=d):=by
 unfold enc;constructor
 . intro h
   cases L<;>cases K<;>cases S<;>cases a<;>cases b<;>cases c<;>simp  at h ⊢<;>omega
 grind
section
variable{P:Rg}{n:Jl}(C:kX P n)(X:kY P n){b o:Nat}{ν:FB}{Wd:FD}{cs:E8}{g:YB}{w:World}{γ:Bool}{s:Mu.Sh}
def NT{w}:w=Mu.Wd.zero↔(enc w.L w.K w.S w.N=0):=by
 obtain⟨L,K,S,N⟩:=w;rw[Dq ap];simp[Mu.Wd.zero]
include C X in
def chN(d:ShM b o w s)(h:uJ P n b o ν .mE cs g):rz P n b o ν Wd cs g w γ .mE s:=by
 obtain⟨c,y,fr,ψ,rfl,l,j,f,rfl⟩:=h;have q:(AU P n b o ν).1.kind≠.early:=by simp[AU,sJ]
 by_cases k:s.w=Mu.Wd.zero
 . have m:enc s.w.L s.w.K s.w.S s.w.N=0:=NT.1 k
   have r:=d.cw;rw[m]at r;refine⟨_,_,_,.held,{s with w:={Mu.Wd.zero with L:=true}},.le,lX j (C.o2 b o ν) q X.qe (v:=0) (n:=1) (λx h=>h) (λx h=>h) r (d.fz o),by simp[Mu.mv,k],.held,nxt (C.e2 _ b o ν) l j f rfl (.inl rfl),Cn rfl,?_,qk (.inl rfl),λ_=>rfl⟩;have:=d.bW {Mu.Wd.zero with L:=true};exact this
 . have m:¬enc s.w.L s.w.K s.w.S s.w.N=0:=λe=>k (NT.2 e)
   refine⟨_,_,_,.rd ⟨false,false,0⟩,s,.rd ⟨false,false,0⟩,mO j (C.o2 b o ν) q X.qe (old:=0) (n:=1) (λx h=>h) (λx h=>h) d.cw (d.fz o) m,by simp[Mu.mv,k],.rd _,⟨rfl,?_⟩,cH rfl,d,NM (.inl rfl),λ_=>rfl⟩;obtain⟨p,i,A,B,D⟩:=YM (Wd:=Wd) (x:=.bool false) (C.e3 _ b o ν) l j f rfl;refine⟨_,D cs,ZM P n b o ν false false 0,{y with ws:=0},p,i,.inl rfl,l,?_,?_,rfl⟩
   . have a:=A.re (y':={y with ws:=0}) (.inl rfl) (.inl rfl) (.inr rfl) (.inl rfl)
     refine⟨a.fn,a.todo,a.defers,a.mode,a.kind,a.ro,a.size.trans rfl,λt=>?_⟩;have u:=a.env t;by_cases z:t=2
     . subst z;exact u
     . have e:(ZM P n b o ν false false 0).1.env=(PC P n b o ν).1.env.set 2 .OX:=rfl
       rw[e,sg,Fp (vj z),<-List.getD_eq_getElem?_getD];exact u
   . exact B.lG (by simpa[PC,eL]using C.p2 b o ν)
def xq{y:Sy}{L K S}{N:Nat}(h:y.N=N):SR y (.word L K S 0) (.int .i32 (enc L K S N)):=by
 refine⟨?_,?_,be⟩
 . grind
 omega
def NU{y x}(h:decide (y.N=0)=x):{Fl.of y with n0:=x}=Fl.of y:=by subst h;rfl
def ZO{y x z}(h:decide (y.N=0)=x)(a:decide (y.N=1)=z):{Fl.of y with n0:=x,n1:=z}=Fl.of y:=by subst h;subst a;rfl
def YN{y x}(h:decide (y.ws=0)=x):{Fl.of y with wz:=x}=Fl.of y:=by subst h;rfl
def acn{y x}(h:decide (IntKind.i64.wrap (y.tn-y.ws)>1000000)=x):{Fl.of y with tb:=x}=Fl.of y:=by subst h;rfl
def L7(old:Mu.Wd)(l:Mu.Lo):Hy:=if old.L && !old.S then .sq old l else .qe old l
def YO  old   l :To (Mu.nx old l) (L7 old l):=by
 unfold Mu.nx L7;split
 . exact .sq _ _
 . exact .qe _ _
include C in
def NV{y old l fr ψ}(e:y.ok)(m:y.N=old.N)(p:FR y (HD P n b o ν old.L old.K old.S l.aw l.sv l.it).1 fr)(d:sn y (HD P n b o ν old.L old.K old.S l.aw l.sv l.it).2 ψ)(f:Mu.loc (Mu.nx old l)):
 ∃q,ze P Wd (G fr (ψ++cs)) q/\uJ P n b o ν (L7 old l) cs q:=by
 obtain⟨L,K,S,N⟩:=old;obtain⟨aw,sv,it⟩:=l;unfold L7;unfold Mu.nx at f;by_cases h:(L && !S)=true
 . simp only[h,ZC]at f ⊢
   simp only[vc,Kr]at h;obtain⟨rfl,rfl⟩:=h;obtain⟨c,a,g,i,j⟩:=R3 (Wd:=Wd) (C.e8 (Fl.of y) b o ν K aw sv it) e p d;exact⟨_,j cs,_,y,c,a,⟨rfl,m,rfl,rfl⟩,e,g,i,rfl⟩
 . have r:(L && !S)=false:=by simpa using h
   rw[wN h]at f ⊢
   have k:(aw && !K)=false:=by
    cases aw with
    |false=>rfl
    |true=>have:=f.1 rfl;simp at this;simp[this]
   obtain⟨c,a,g,i,j⟩:=R3 (Wd:=Wd) (C.e9 (Fl.of y) b o ν L K S aw sv it r k) e p d;exact⟨_,j cs,_,y,c,a,⟨rfl,m⟩,e,g,i,rfl⟩
include C X in
def WU{l}(i:ShM b o w s)(hb:s.w.N<=1000)(m:Mu.loc (Mu.nx s.w l))(h:uJ P n b o ν (.rd l) cs g):rz P n b o ν Wd cs g w γ (.rd l) s:=by
 obtain⟨c,y,fr,ψ,p,q,j,e,rfl⟩:=h;have a:({y with N:=(s.w.N:Int)}:Sy).ok:=⟨⟨ap,by show(s.w.N:Int)<=1000;omega⟩,q.2⟩
 have key:xL c.1=some (n.tI,pt b o)->c.1.fn=n.ZK->(c.1.env.all (λv=>!NJ v)=true)->c.2=Nk P n b o ν->wx P (Fl.of {y with N:=(s.w.N:Int)}) [0,2,3,4,5,6] c (.word s.w.L s.w.K s.w.S 0)=some (HD P n b o ν s.w.L s.w.K s.w.S l.aw l.sv l.it) ->
  rz P n b o ν Wd cs (G fr (ψ++cs)) w γ (.rd l) s:=λr t u x z=>by
  have f:=j.re (y':={y with N:=(s.w.N:Int)}) (.inr u) (.inl rfl) (.inl rfl) (.inl rfl);have d:=e.lG (y':={y with N:=(s.w.N:Int)}) (by rw[x];exact C.p2 b o ν);obtain⟨A,k,B,D,E⟩:=R4 (Wd:=Wd) z a f d (xq rfl);obtain⟨F,H,I⟩:=NV C (Wd:=Wd) (cs:=cs) (old:=s.w) (l:=l) a rfl B D m;exact⟨_,w,#[],_,s,L7 s.w l,xm j r X.tyI (by rw[t];exact X.nS) i.cw,by simp[Mu.mv],YO _ _,⟨rfl,F,(E cs).trans H,I⟩,cH rfl,i,kD,λ_=>rfl⟩
 rcases p with rfl|rfl|rfl
 . exact key (C.o60 ..) rfl rfl rfl (C.e70 ..)
 . exact key (C.o61 ..) rfl rfl rfl (C.Wi ..)
 . exact key (C.o62 ..) rfl rfl rfl (C.e72 ..)
include C X in
def HB{y aw sv}{it:Nat}{fr ψ}(f:it<4)(g:y.ok)(e:FR y (DS P n b o ν aw sv it).1 fr)(d:sn y (DS P n b o ν aw sv it).2 ψ):
 ∃c,ze P Wd (G fr (ψ++cs)) c/\uJ P n b o ν (.rd ⟨aw,sv,it+1⟩) cs c:=by
 have a:zd P Wd (G fr (ψ++cs)) (G (fr.finish (.tuple #[])) (ψ++cs)):=⟨rfl,λγ w _=>AR e (C.o9 b o ν aw sv it) (by simp[DS,eL]) X.AT⟩
 have key:bM P (Fl.of y) [0,2,3,4,5,47] (DS P n b o ν aw sv it) un=some (NG P n b o ν aw sv (it+1:Nat)):=by
  have:it=0\/it=1\/it=2\/it=3:=ac
  rcases this with rfl|rfl|rfl|rfl
  . exact C.LV ..
  . exact C.LW ..
  . exact C.acd ..
  . exact C.ace ..
 obtain⟨_,c,h,i⟩:=nxt (P:=P) (n:=n) (b:=b) (o:=o) (ν:=ν) (Wd:=Wd) (cs:=cs) (x:=.tuple #[]) (p:=.rd ⟨aw,sv,it+1⟩) key g e d rfl (.inr (.inl rfl));exact⟨c,a.F7.trans h,i⟩
include C X in
def WV{old l}(t:ShM b o w s)(J:Mu.loc (.sq old l))(h:uJ P n b o ν (.sq old l) cs g):rz P n b o ν Wd cs g w γ (.sq old l) s:=by
 obtain⟨c,y,fr,ψ,⟨rfl,k,B,D⟩,q,m,d,rfl⟩:=h;obtain⟨L,K,S,N⟩:=old;obtain⟨aw,sv,it⟩:=l;simp only at k B D m d;subst B;subst D;obtain⟨E,F,M,_,_⟩:=J;simp only at E F M
 have u:(aw && !K)=false:=by
  cases aw with
  |false=>rfl
  |true=>simp[E rfl]
 obtain⟨r,j,v,O,G⟩:=ahR (P:=P) (γ:=γ) (cs:=ψ++cs) (w:=w) m (C.o7 b o ν K aw sv it) (by simp[SQ,eL]) X.OZ
 have a:j.heap=w.heap:=by rcases G with rfl|rfl<;>rfl
 have e:sE w.os j.os/\j.output=w.output:=by rcases G with rfl|rfl<;>exact⟨.refl _,rfl⟩
 cases r with
 |false=>refine⟨_,j,#[],.qe ⟨true,K,false,N⟩ ⟨aw,sv,it⟩,s,.qe _ _,v,by simp[Mu.mv,Mu.hd],.qe _ _,nxt (C.fh (Fl.of y) b o ν K aw sv it u) q m d rfl ⟨rfl,k⟩,cH a e,t.heap a,kD,λ_=>rfl⟩
 | true=>
   have f:it<4:=by have:=O rfl;omega
   by_cases z:(!aw && !K && decide (N≠0))=true
   . simp only[vc,Kr,wK]at z
     obtain⟨⟨rfl,rfl⟩,p⟩:=z;have:sv=false:=by cases sv with|false=>rfl|true=>exact absurd (F rfl) ap
     subst this;have key:=C.er (Fl.of y) b o ν it;rw[NU (by rw[k];simpa using p)]at key
     exact⟨_,j,#[],.sw ⟨true,false,false,N⟩ ⟨false,false,it⟩,s,.sw _ _,v,by simp[Mu.mv,Mu.hd,f,p],.sw _ _,nxt key q m d rfl ⟨rfl,k,rfl,rfl,rfl,rfl,rfl⟩,cH a e,t.heap a,kD,λ_=>rfl⟩
   . have i:(!aw && !K && decide (N≠0))=false:=by simpa using z
     have A:(!aw && !K && !decide (y.N=0))=false:=by
      rw[k]
      by_cases H:N=0
      . simp[H]
      . simp[H]at i ⊢;exact i
     have key:=C.acb (Fl.of y) b o ν (decide (y.N=0)) K aw sv it A;rw[NU rfl]at key;obtain⟨Q,I,R,T,U⟩:=YM (Wd:=Wd) (x:=.bool true) key q m d rfl;obtain⟨V,W,Y⟩:=HB C X (Wd:=Wd) (cs:=cs) f q R T;refine⟨_,j,#[],.rd ⟨aw,sv,it+1⟩,s,.rd _,v,?_,.rd _,⟨rfl,V,(U cs).trans W,Y⟩,cH a e,t.heap a,kD,λ_=>rfl⟩
     simp only[Mu.mv,Mu.hd,f,i];simp
include C X in
def WW{old l}(f:ShM b o w s)(V:Mu.loc (.sw old l))(h:uJ P n b o ν (.sw old l) cs g):rz P n b o ν Wd cs g w γ (.sw old l) s:=by
 obtain⟨c,y,fr,ψ,⟨rfl,E,F,G,H,I,J⟩,m,i,d,rfl⟩:=h;obtain⟨L,K,S,N⟩:=old;obtain⟨aw,sv,it⟩:=l;simp only at E F G H I J i d;subst F;subst G;subst H;subst I;subst J;have j:it<4:=V.2.2.2.2.2;have M:(SW P n b o ν it).1.kind≠.early:=by simp[SW,eL]
 have a:∀q:Bool,∀x,SR y (.word true q false 0) x->x=.int .i32 (enc true q false N):=λq x W=>by have:=W.1;rw[E,M8]at this;exact this
 by_cases p:s.w=⟨true,false,false,N⟩
 . have O:=f.cw
   rw[p]at O;obtain⟨r,k,t,u,v⟩:=YM (Wd:=Wd) (x:=.bool true) (C.iQ (Fl.of y) b o ν true it) m i d rfl;obtain⟨z,A,B⟩:=HB C X (Wd:=Wd) (cs:=cs) j m t u;refine⟨_,_,_,.rd ⟨true,false,it+1⟩,{s with w:=⟨true,true,false,N⟩},.rd _,lX i (C.o8 b o ν it) M X.qe (a false) (a true) O (f.fz o),by simp[Mu.mv,p],.rd _,⟨rfl,z,(v cs).trans A,B⟩,Cn rfl,f.bW ⟨true,true,false,N⟩,qk (.inl rfl),λ_=>rfl⟩
 . have D:¬enc s.w.L s.w.K s.w.S s.w.N=enc true false false N:=λe=>p (by
    obtain⟨Q,R,T,U⟩:=NS.1 e;obtain⟨⟨L,K,S,Y⟩,ms⟩:=s;simp only at Q R T U;subst Q;subst R;subst T;subst U;rfl)
   obtain⟨r,k,t,u,v⟩:=YM (Wd:=Wd) (x:=.bool false) (C.iQ (Fl.of y) b o ν false it) m i d rfl;obtain⟨z,A,B⟩:=HB C X (Wd:=Wd) (cs:=cs) j m t u;exact⟨_,_,_,.rd ⟨false,false,it+1⟩,s,.rd _,mO i (C.o8 b o ν it) M X.qe (a false) (a true) f.cw (f.fz o) D,by simp[Mu.mv,p],.rd _,⟨rfl,z,(v cs).trans A,B⟩,cH rfl,f,NM (.inl rfl),λ_=>rfl⟩
end
section
variable{P:Rg}{n:Jl}(C:kX P n)(X:kY P n){b o:Nat}{ν:FB}{Wd:FD}{cs:E8}{g:YB}{w:World}{γ:Bool}{s:Mu.Sh}
def YP{a c:Mu.Wd}:a=c↔enc a.L a.K a.S a.N=enc c.L c.K c.S c.N:=by
 obtain⟨L,K,S,N⟩:=a;obtain⟨b,d,e,f⟩:=c
 grind [NS]
include C X in
def Sn{old l}(f:ShM b o w s)(E:Mu.loc (.qe old l))(h:uJ P n b o ν (.qe old l) cs g):rz P n b o ν Wd cs g w γ (.qe old l) s:=by
 obtain⟨c,y,fr,ψ,⟨rfl,u⟩,t,j,a,rfl⟩:=h;obtain⟨L,K,S,N⟩:=old;obtain⟨aw,sv,it⟩:=l;simp only at u j a
 have k:(aw && !K)=false:=by
  cases aw with
  |false=>rfl
  |true=>have:=E.1 rfl;simp at this;simp[this]
 have A:(Jn P n b o ν L K S aw sv it).1.kind≠.early:=by simp[Jn,eL]
 have η:∀x,SR y (.word L K S 0) x->x=.int .i32 (enc L K S N):=λx v=>by have:=v.1;rw[u,M8]at this;exact this
 have i:∀x,SR y (WQ L K S aw sv) x->x=.int .i32 (enc (Mu.wq ⟨L,K,S,N⟩ ⟨aw,sv,it⟩).L (Mu.wq ⟨L,K,S,N⟩ ⟨aw,sv,it⟩).K (Mu.wq ⟨L,K,S,N⟩ ⟨aw,sv,it⟩).S (Mu.wq ⟨L,K,S,N⟩ ⟨aw,sv,it⟩).N):=λx v=>by have:=v.1;rw[u]at this;rw[this];simp only[Mu.wq];congr 2;split<;>simp
 by_cases p:s.w=⟨L,K,S,N⟩
 . have B:=f.cw
   rw[p]at B;have m:=lX (γ:=γ) (cs:=ψ++cs) j (C.o10 b o ν L K S aw sv it) A X.qe η i B (f.fz o)
   by_cases d:(L||S)=true
   . have q:((.lx sv:Mu.Pc),({s with w:=Mu.wq ⟨L,K,S,N⟩ ⟨aw,sv,it⟩}:Mu.Sh))∈Mu.mv (.qe ⟨L,K,S,N⟩ ⟨aw,sv,it⟩) s:=by
      simp only[Mu.mv,k,zA,LK,p,ZC,d,sN]
     by_cases r:y.ws=0
     . have key:=C.acf (Fl.of y) b o ν L K S aw sv it d
       rw[YN (by simpa using r)]at key
       exact⟨_,_,_,_,_,.t1 sv,m,q,.t1 _,nxt key t j a rfl rfl,Cn rfl,f.bW _,qk (.inl rfl),λ_=>rfl⟩
     . have key:=C.acg (Fl.of y) b o ν L K S aw sv it d
       rw[YN (by simpa using r)]at key
       exact⟨_,_,_,_,_,.lx sv,m,q,.lx _,nxt key t j a rfl rfl,Cn rfl,f.bW _,qk (.inl rfl),λ_=>rfl⟩
   . have D:(L||S)=false:=by simpa using d
     have F:L=false:=by cases L<;>simp_all
     have G:S=false:=by cases S<;>simp_all
     subst F;subst G;refine⟨_,_,_,.held,{s with w:=Mu.wq ⟨false,K,false,N⟩ ⟨aw,sv,it⟩},.le,m,?_,.held,nxt (C.qC (Fl.of y) b o ν K aw sv it) t j a rfl (.inr rfl),Cn rfl,f.bW _,qk (.inl rfl),λ_=>rfl⟩
     simp only[Mu.mv,k,zA,LK,p,ZC,Bool.or_self,sN]
 . have z:¬enc s.w.L s.w.K s.w.S s.w.N=enc L K S N:=λe=>p (YP.2 e)
   refine⟨_,_,_,.rd ⟨aw,sv,it⟩,s,.rd _,mO j (C.o10 b o ν L K S aw sv it) A X.qe η i f.cw (f.fz o) z,?_,.rd _,nxt (C.tZ (Fl.of y) b o ν L K S aw sv it) t j a rfl (.inr (.inr rfl)),cH rfl,f,NM (.inl rfl),λ_=>rfl⟩
   simp only[Mu.mv,k,zA,LK,p,sN]
include C X in
def bkB{sv}(f:ShM b o w s)(j:s.ms≠0)(h:uJ P n b o ν (.lx sv) cs g):rz P n b o ν Wd cs g w γ (.lx sv) s:=by
 obtain⟨c,y,fr,ψ,rfl,k,i,d,rfl⟩:=h;have a:=zg (γ:=γ) (cs:=ψ++cs) (w:=w) (n:=(s.ms:Int)) i (C.o12 b o ν sv) (by simp[PK,eL]) X.LS f.cs ac (f.fz _);have e:((s.ms:Int)-1)=((s.ms-1:Nat):Int):=ac
 rw[e]at a;cases sv with
 |true=>exact⟨_,_,_,.up true,{s with ms:=s.ms-1},.up true,a,by simp[Mu.mv,j],.up _,nxt (C.ach (Fl.of y) b o ν) k i d rfl rfl,WT rfl,f.LX _,CB,λ_=>rfl⟩
 |false=>exact⟨_,_,_,.tq,{s with ms:=s.ms-1},.tq,a,by simp[Mu.mv,j],.tq,nxt (C.aci (Fl.of y) b o ν) k i d rfl rfl,WT rfl,f.LX _,CB,λ_=>rfl⟩
include C X in
def afX{sv}(d:ShM b o w s)(e:s.ms=0)(h:uJ P n b o ν (.lx sv) cs g):stepG P γ g w=.go {g with status:=.blocked} w #[]:=by obtain⟨c,y,fr,ψ,rfl,j,f,i,rfl⟩:=h;have a:=d.cs;rw[e]at a;exact Gc f (C.o12 b o ν sv) X.LS a
include C X in
def WZ(j:ShM b o w s)(h:uJ P n b o ν .tq cs g):rz P n b o ν Wd cs g w γ .tq s:=by
 obtain⟨c,y,fr,ψ,rfl,k,i,d,rfl⟩:=h;have e:=Gd (P:=P) (γ:=γ) (cs:=ψ++cs) (w:=w) i (C.o13 b o ν) (by simp[TQ,eL]) X.nano X.Sg;have f:=i.re (y':={y with tn:=((w.os.mono+w.tick:Nat):Int)}) (.inl rfl) (.inl rfl) (.inl rfl) (.inr rfl);have a:=d.lG (y':={y with tn:=((w.os.mono+w.tick:Nat):Int)}) (by simpa[TQ,eL]using C.p2 b o ν);have key:=C.qP (Fl.of {y with tn:=((w.os.mono+w.tick:Nat):Int)}) b o ν (decide (IntKind.i64.wrap (((w.os.mono+w.tick:Nat):Int)-y.ws)>1000000));rw[acn rfl]at key;refine⟨_,_,_,.up (decide (IntKind.i64.wrap (((w.os.mono+w.tick:Nat):Int)-y.ws)>1000000)),s,.up _,e,?_,.up _,nxt (y:={y with tn:=((w.os.mono+w.tick:Nat):Int)}) key k f a rfl rfl,cH rfl ⟨⟨w.tick,rfl⟩,rfl⟩,j.heap rfl,kD,λ_=>rfl⟩;cases decide (IntKind.i64.wrap (((w.os.mono+w.tick:Nat):Int)-y.ws)>1000000)<;>simp[Mu.mv]
include C X in
def W2{sv}(m:ShM b o w s)(hb:s.w.N<=1000)(v:∀q s',(q,s')∈Mu.mv (.up sv) s->Mu.loc q)(h:uJ P n b o ν (.up sv) cs g):rz P n b o ν Wd cs g w γ (.up sv) s:=by
 obtain⟨c,y,fr,ψ,rfl,A,x,p,rfl⟩:=h;have f:({y with N:=(s.w.N:Int)}:Sy).ok:=⟨⟨ap,by show(s.w.N:Int)<=1000;omega⟩,A.2⟩
 have i:=x.re (y':={y with N:=(s.w.N:Int)}) (.inr rfl) (.inl rfl) (.inl rfl) (.inl rfl)
 have e:=p.lG (y':={y with N:=(s.w.N:Int)}) (by simpa[UP,eL]using C.p2 b o ν)
 have j:=xm (γ:=γ) (cs:=ψ++cs) x (C.o14 b o ν sv) X.tyI X.nS m.cw
 by_cases k:s.w.S=true
 . have r:(s.w.L||s.w.K||decide (s.w.N=0))=false:=by
    cases B:(s.w.L||s.w.K||decide (s.w.N=0))with
    |false=>rfl
    |true=>exact(v .bad s (by simp[Mu.mv,k,B])).elim
   have a:((.add s.w sv:Mu.Pc),s)∈Mu.mv (.up sv) s:=by simp[Mu.mv,k,r]
   simp only[L3,K2]at r;obtain⟨⟨D,E⟩,t⟩:=r;have key:=C.xn (Fl.of {y with N:=(s.w.N:Int)}) b o ν sv (decide (s.w.N=1))
   rw[ZO (by show decide ((s.w.N:Int)=0)=false;simpa using t) (by show decide ((s.w.N:Int)=1)=decide (s.w.N=1);rw[IJ,MI,MI];omega)]at key
   have u:SR {y with N:=(s.w.N:Int)} (.word false false true 0) (.int .i32 (enc s.w.L s.w.K s.w.S s.w.N)):=by rw[D,E,k];exact xq rfl
   exact⟨_,w,#[],_,s,.add s.w sv,j,a,.add _ _,nxt (y:={y with N:=(s.w.N:Int)}) key f i e u rfl,cH rfl,m,kD,λ_=>rfl⟩
 . have d:s.w.S=false:=by simpa using k
   have a:(Mu.nx s.w ⟨true,sv,0⟩,s)∈Mu.mv (.up sv) s:=by simp[Mu.mv,d]
   have u:SR {y with N:=(s.w.N:Int)} (.word s.w.L s.w.K false 0) (.int .i32 (enc s.w.L s.w.K s.w.S s.w.N)):=by rw[d];exact xq rfl
   obtain⟨F,z,G,H,I⟩:=R4 (Wd:=Wd) (C.Ay (Fl.of {y with N:=(s.w.N:Int)}) b o ν s.w.L s.w.K sv) f i e u
   obtain⟨J,M,O⟩:=NV C (Wd:=Wd) (cs:=cs) (old:=s.w) (l:=⟨true,sv,0⟩) f rfl (by rw[d];exact G) (by rw[d];exact H) (v _ _ a)
   exact⟨_,w,#[],_,s,L7 s.w ⟨true,sv,0⟩,j,a,YO _ _,⟨rfl,J,(I cs).trans M,O⟩,cH rfl,m,kD,λ_=>rfl⟩
include C X in
def So{old sv}(d:ShM b o w s)(hb:s.w.N<=1000)(j:s.w.L=false)(k:s.w.S=true)(q:s.w.N≠0)(h:uJ P n b o ν (.add old sv) cs g):rz P n b o ν Wd cs g w γ (.add old sv) s:=by
 obtain⟨c,y,fr,ψ,rfl,l,i,f,rfl⟩:=h;have a:=wv (γ:=γ) (cs:=ψ++cs) (w:=w) i (C.o15 b o ν _) (by simp[AD,eL]) X.add (λx h=>h) d.cw (d.fz _)
 have e:IntKind.i32.wrap (enc s.w.L s.w.K s.w.S s.w.N+(if !sv||decide (old.N=1)then -11 else -7))=enc true s.w.K (s.w.S && !(!sv||decide (old.N=1))) (s.w.N-1:Nat):=by
  rw[j,k];have m:((s.w.N-1:Nat):Int)=(s.w.N:Int)-1:=ac
  rw[m];generalize (!sv||decide (old.N=1))=x;have p:=rv (L:=false) (K:=s.w.K) (S:=true) (N:=(s.w.N:Int));rw[nG (by split<;>omega) (by split<;>omega)];unfold enc;cases x<;>cases s.w.K<;>simp[Bool.toNat]<;>omega
 rw[e]at a;exact⟨_,_,_,.held,{s with w:={s.w with L:=true,S:=s.w.S && !(!sv||decide (old.N=1)),N:=s.w.N-1}},.le,a,by simp[Mu.mv],.held,nxt (C.yo (Fl.of y) b o ν _) l i f trivial (.inr rfl),Cn rfl,d.bW {s.w with L:=true,S:=s.w.S && !(!sv||decide (old.N=1)),N:=s.w.N-1},qk (.inl rfl),λ_=>rfl⟩
include C X in
def ajy(t:ShM b o w s)(hb:s.w.N<=1000)(q:s.w.L=true)(h:uJ P n b o ν .held cs g):rz P n b o ν Wd cs g w γ .held s:=by
 obtain⟨c,y,fr,ψ,rfl,A,z,u,rfl⟩:=h;have k:({y with N:=(s.w.N:Int)}:Sy).ok:=⟨⟨ap,by show(s.w.N:Int)<=1000;omega⟩,A.2⟩
 have l:=z.re (y':={y with N:=(s.w.N:Int)}) (.inr rfl) (.inl rfl) (.inl rfl) (.inl rfl)
 have d:=u.lG (y':={y with N:=(s.w.N:Int)}) (by simpa[yn,vI]using(C.p3 b o ν).1)
 have i:=wv (γ:=γ) (cs:=ψ++cs) (w:=w) z (C.o24 b o ν) (by simp[yn,vI]) X.add (λx h=>h) t.cw (t.fz _)
 have e:IntKind.i32.wrap (enc s.w.L s.w.K s.w.S s.w.N+-1)=enc false s.w.K s.w.S s.w.N:=by
  rw[q];have B:=rv (L:=true) (K:=s.w.K) (S:=s.w.S) (N:=(s.w.N:Int));rw[nG ac ac]
  unfold enc;simp[Bool.toNat];omega
 rw[e]at i;have m:=t.bW {s.w with L:=false}
 have p:SR {y with N:=(s.w.N:Int)} (.word false s.w.K s.w.S 0) (.int .i32 (enc false s.w.K s.w.S s.w.N)):=xq rfl
 by_cases r:s.w.S=true
 . have key:=C.u5g (Fl.of {y with N:=(s.w.N:Int)}) b o ν (decide ((s.w.N:Int)=0)) s.w.K
   rw[r]at p;exact⟨_,_,_,.give,{s with w:={s.w with L:=false}},.give,i,by simp[Mu.mv,q,r,Mu.Wd.zero],.give,nxt (y:={y with N:=(s.w.N:Int)}) key k l d (by rw[r];exact p) (.inr rfl),Cn rfl,m,qk (.inl rfl),λ_=>rfl⟩
 . have f:s.w.S=false:=by simpa using r
   by_cases v:(decide ((s.w.N:Int)=0)||s.w.K)=true
   . have key:=C.u5 (Fl.of {y with N:=(s.w.N:Int)}) b o ν (decide ((s.w.N:Int)=0)) s.w.K v
     refine⟨_,_,_,.out,{s with w:={s.w with L:=false}},.ue,i,?_,.out,nxt (y:={y with N:=(s.w.N:Int)}) key k l d (by rw[f]at p ⊢;exact p) rfl,Cn rfl,m,qk (.inl rfl),λ_=>rfl⟩
     have a:(decide (s.w.N=0)||s.w.K)=true:=by simpa using v
     simp only[Mu.mv,q,ML,LK,sN,zG,and_true];split
     . rfl
     . simp only
   . have a:(decide ((s.w.N:Int)=0)||s.w.K)=false:=by simpa using v
     simp only[L3,K2]at a;have j:s.w.N≠0:=by have:=a.1;omega
     have key:=C.u5c (Fl.of {y with N:=(s.w.N:Int)}) b o ν
     rw[NU (by show decide ((s.w.N:Int)=0)=false;simpa using j)]at key
     rw[a.2,f]at p;refine⟨_,_,_,.nZ {s.w with L:=false},{s with w:={s.w with L:=false}},.nZ _,i,?_,.nZ _,nxt (y:={y with N:=(s.w.N:Int)}) key k l d (by rw[a.2,f];exact p) ⟨rfl,rfl,rfl,a.2,f,j⟩,Cn rfl,m,qk (.inl rfl),λ_=>rfl⟩
     have D:({s.w with L:=false}:Mu.Wd)≠Mu.Wd.zero:=λe=>j (by have:=congrArg Mu.Wd.N e;exact this)
     simp[Mu.mv,q,f,j,a.2,Mu.Wd.zero]
include C X in
def aju{old}(d:ShM b o w s)(h:uJ P n b o ν (.nZ old) cs g):rz P n b o ν Wd cs g w γ (.nZ old) s:=by
 obtain⟨c,y,fr,ψ,⟨rfl,k,q,r,t,l⟩,u,i,f,rfl⟩:=h;obtain⟨L,K,S,N⟩:=old;simp only at k q r t l;subst q;subst r;subst t;have v:(UC P n b o ν).1.kind≠.early:=by simp[UC,BQ]
 have η:∀x,SR y wf x->x=.int .i32 (enc false false false N):=λx m=>by have:=m.1;rw[k,M8]at this;exact this
 have a:∀x,SR y (.word false true false (-1)) x->x=.int .i32 (enc false true false (N-1:Nat)):=λx m=>by have:=m.1;rw[k]at this;rw[this];congr 2;omega
 by_cases j:s.w=⟨false,false,false,N⟩
 . have z:=d.cw
   rw[j]at z;exact⟨_,_,_,.give,{s with w:=⟨false,true,false,N-1⟩},.give,lX i (C.o25 b o ν) v X.qe η a z (d.fz o),by simp[Mu.mv,j],.give,nxt (C.u6t (Fl.of y) b o ν) u i f rfl (.inl rfl),Cn rfl,d.bW ⟨false,true,false,N-1⟩,qk (.inl rfl),λ_=>rfl⟩
 . have p:¬enc s.w.L s.w.K s.w.S s.w.N=enc false false false N:=λe=>j (YP.2 e)
   exact⟨_,_,_,.Cl,s,.Cl,mO i (C.o25 b o ν) v X.qe η a d.cw (d.fz o) p,by simp[Mu.mv,j],.Cl,nxt (C.u6f (Fl.of y) b o ν) u i f rfl rfl,cH rfl,d,NM (.inl rfl),λ_=>rfl⟩
include C X in
def Sp(k:ShM b o w s)(hb:s.w.N<=1000)(h:uJ P n b o ν .Cl cs g):rz P n b o ν Wd cs g w γ .Cl s:=by
 obtain⟨c,y,fr,ψ,rfl,x,v,l,rfl⟩:=h;have e:({y with N:=(s.w.N:Int)}:Sy).ok:=⟨⟨ap,by show(s.w.N:Int)<=1000;omega⟩,x.2⟩
 have f:=v.re (y':={y with N:=(s.w.N:Int)}) (.inr rfl) (.inl rfl) (.inl rfl) (.inl rfl)
 have d:=l.lG (y':={y with N:=(s.w.N:Int)}) (by simpa[Wh,BQ]using C.p4 b o ν)
 have i:=xm (γ:=γ) (cs:=ψ++cs) v (C.o28 b o ν) X.tyI X.nV k.cw;have m:SR {y with N:=(s.w.N:Int)} (.word s.w.L s.w.K s.w.S 0) (.int .i32 (enc s.w.L s.w.K s.w.S s.w.N)):=xq rfl
 by_cases p:(decide ((s.w.N:Int)=0)||s.w.L||s.w.K||s.w.S)=true
 . have key:=C.u7 (Fl.of {y with N:=(s.w.N:Int)}) b o ν (decide ((s.w.N:Int)=0)) s.w.L s.w.K s.w.S p
   have a:(decide (s.w.N=0)||s.w.L||s.w.K||s.w.S)=true:=by simpa using p
   exact⟨_,w,#[],.out,s,.ue,i,by simp only[Mu.mv,a,ZC,sN],.out,nxt (y:={y with N:=(s.w.N:Int)}) key e f d m rfl,cH rfl,k,kD,λ_=>rfl⟩
 . have a:(decide ((s.w.N:Int)=0)||s.w.L||s.w.K||s.w.S)=false:=by simpa using p
   have q:(decide (s.w.N=0)||s.w.L||s.w.K||s.w.S)=false:=by rw[<-a];simp
   simp only[L3,K2]at a;obtain⟨⟨⟨z,r⟩,t⟩,u⟩:=a;have j:s.w.N≠0:=ac
   have key:=C.u7c (Fl.of {y with N:=(s.w.N:Int)}) b o ν
   rw[NU (by show decide ((s.w.N:Int)=0)=false;simpa using j)]at key
   rw[r,t,u]at m;exact⟨_,w,#[],.nZ s.w,s,.nZ _,i,by simp only[Mu.mv,q,zA,LK,sN],.nZ _,nxt (y:={y with N:=(s.w.N:Int)}) key e f d (by rw[r,t,u];exact m) ⟨rfl,rfl,r,t,u,j⟩,cH rfl,k,kD,λ_=>rfl⟩
include C X in
def ajt(d:ShM b o w s)(l:s.ms<=1000)(h:uJ P n b o ν .give cs g):rz P n b o ν Wd cs g w γ .give s:=by
 obtain⟨c,y,fr,ψ,k,j,i,f,rfl⟩:=h;have e:IntKind.u32.wrap ((s.ms:Int)+1)=((s.ms+1:Nat):Int):=by rw[IntKind.wrap_u32];omega
 rcases k with rfl|rfl
 . have a:=uU (γ:=γ) (cs:=ψ++cs) (w:=w) i (C.o26 b o ν) (by simp[G7,BQ]) X.uV d.cs (d.fz _)
   rw[e]at a;exact⟨_,_,_,.out,{s with ms:=s.ms+1},.ue,a,by simp[Mu.mv],.out,nxt (C.u8 (Fl.of y) b o ν) j i f rfl rfl,WT rfl,d.LX _,CB,λ_=>rfl⟩
 . have a:=uU (γ:=γ) (cs:=ψ++cs) (w:=w) i (C.o27 b o ν) (by simp[G9,BQ]) X.uV d.cs (d.fz _)
   rw[e]at a;exact⟨_,_,_,.out,{s with ms:=s.ms+1},.ue,a,by simp[Mu.mv],.out,nxt (C.u9 (Fl.of y) b o ν) j i f rfl rfl,WT rfl,d.LX _,CB,λ_=>rfl⟩
end

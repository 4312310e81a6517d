import Derived.Conc.ClockLaws
import Derived.Conc.MarkLaws
import Derived.Conc.AtomicLaws2
import Derived.Conc.SmallLaws
import Derived.Laws.LoneSync
import Derived.Test.YtkcceaplmgdnfaaGreatDoorC7
set_option linter.all false
namespace Go.cG
open Go.Conc
def bb(s:jT):Option (FuncId × List SV):=
 match s.mode,s.todo with
 | .run, .inRegion ops (i::_)::_=>match ops[i]? with
   | some o=>match Ae ops s.env o with
     | some true=>match o.op with
       | .call c=>match c.callee with
         |.value (.func f)=>some (f,c.args.toList.map (sv s.env))
         |_=>none
       |_=>none
     |_=>none
   |none=>none
 |_,_=>none
def rC(s:jT):Option (TypeId × SV):=
 match s.mode,s.todo with
 | .run,.inRegion ops (i::_)::_=>match ops[i]? with
   | some o=>match Ae ops s.env o with
     | some true=>match o.op with
       |.load t x=>some (t,sv s.env x)
       |_=>none
     |_=>none
   |none=>none
 |_,_=>none
structure Ext(P:adS)(f:FuncId)(e:adq->Sem Value):Prop where
 ex:∃fn,P.funcs[f]?=some fn/\(fn.name==  "runtime.NumGoroutine")=false/\fn.body.isNone=true/\Extern.findNext fn=none/\Extern.find fn=some e
def dv {y:Sy} {s:jT} {fr:Frame} {f:FuncId} {svs:adP} (j:FR y s fr) (h:bb s=some (f,svs)) :
 ∃ ops i rest kk o as a,ops[i]? = some o∧Region.wanted o (yielded ops fr.tmps)=true∧o.op = .call { callee:=.value (.func f),args:=as,argTypes:=a }∧svs=as.toList.map (sv s.env) ∧
   fr=(fr.at ⟨fr.tmps,fr.defers⟩ (.inRegion ops (i :: rest) :: kk))∧∀ v,fr.at ((⟨fr.tmps,fr.defers⟩:Act).put o.dst v) (.inRegion ops rest :: kk)=fr.finish v:=by
 have d:=j;obtain⟨fn,tmps,todo,defs,mode,kind,ro⟩:=fr;obtain⟨n,e,p,b,q,k,r,t⟩:=j;simp only at n e p b q k r t;subst k;unfold bb at h;split at h
 . rename_i ops i rest kk u w
   rw[u] at b;rw[w] at e;have b:mode = .run:=b;subst b;subst e;split at h
   . rename_i o l
     split at h
     . rename_i x
       split at h
       . rename_i c z
         split at h
         . rename_i g m
           simp only[kn,zH] at h;obtain⟨rfl,rfl⟩:=h;obtain⟨callee,args,a⟩:=c;simp only at m;subst m;refine⟨ops,i,rest,kk,o,args,a,l,qd d x,z,rfl,rfl,fun v=>?_⟩
           simp only[Frame.finish,l,Option.bind_some,Act.put,Frame.at]
           grind
         . cases h
       . cases h
     . cases h
   . cases h
 . cases h
section
variable{P:adS}{main:Bool}{y:Sy}{s:jT}{fr:Frame}{f:FuncId}{svs:adP}{cs:adt}{w:World}
def De{fr:Frame}(x:adT):(⟨fr.tmps,fr.defers⟩:Act).eval x=fr.eval x:=by cases x<;>rfl
def BM {as:adi} (b:FR y s fr) {svs:adP} (h:svs=as.toList.map (sv s.env)):∀ (j:Nat) (v:SV),svs[j]? = some v->∃ x,(as.map (⟨fr.tmps,fr.defers⟩:Act).eval)[j]? = some x∧SR y v x:=fun j v a=>by
 subst h;rw[aaY,acL] at a;obtain⟨x,c,rfl⟩:=aaH.1 a;exact⟨fr.eval x,by simp[c,De],b.sv x⟩
def eV {m:Mark} (d:∀ g,m ≠ .extern g) (c:FR y s fr) (h:bb s=some (f,svs)) (e:s.kind ≠ .early) (j:Ext P f (fun _=>do mark m;pure Extern.Race.none_)):stepG P main (G fr cs) w = .go (G (fr.finish (.tuple #[])) cs) w #[⟨.mark m,false,true⟩]:=by
 obtain⟨ops,i,rest,kk,o,as,k,l,n,p,x,z,A⟩:=dv c h;obtain⟨fn,q,r,t,u,v⟩:=j.ex;have:=stepG_mark0 (P:=P) (main:=main) (b:=fr) (a:=⟨fr.tmps,fr.defers⟩) (kk:=kk) (cs:=cs) (w:=w) (rest:=rest) m d l n (by rw[c.kind];exact e) p q r t u v
 grind
def fH {mk:Addr->Mark} (j:∀ ad g,mk ad ≠ .extern g) {ad:Addr} (d:FR y s fr) (h:bb s=some (f,[.lit (.pointer (some ad))])) (k:s.kind ≠ .early) (l:Ext P f (Extern.Race.marked mk)):stepG P main (G fr cs) w = .go (G (fr.finish (.tuple #[])) cs) w #[⟨.mark (mk ad),false,true⟩]:=by
 obtain⟨ops,i,rest,kk,o,as,m,n,p,q,r,B,C⟩:=dv d h;obtain⟨fn,t,u,v,z,A⟩:=l.ex;obtain⟨x,e,c⟩:=BM d r 0 _ rfl;have c:x = .pointer (some ad):=c;rw[c] at e;have:=stepG_markAt (P:=P) (main:=main) (b:=fr) (a:=⟨fr.tmps,fr.defers⟩) (kk:=kk) (cs:=cs) (w:=w) (rest:=rest) mk j n p (by rw[d.kind];exact k) q t u v z A e
 grind
def Df {as:adi} {a b c:SV} (h:[a,b,c]=as.toList.map (sv s.env)):∃ x z u,as=#[x,z,u]∧sv s.env x=a∧sv s.env z=b∧sv s.env u=c:=by
 obtain⟨l⟩:=as
 match l,h with
 | [x,z,u],h=>grind
def Lq {as:adi} {a b:SV} (h:[a,b]=as.toList.map (sv s.env)):∃ x z,as=#[x,z]∧sv s.env x=a∧sv s.env z=b:=by
 obtain⟨l⟩:=as
 match l,h with
 | [x,z],h=>grind
def Lr {as:adi} {a:SV} (h:[a]=as.toList.map (sv s.env)):∃ x,as=#[x]∧sv s.env x=a:=by
 obtain⟨l⟩:=as
 match l,h with
 | [x],h=>grind
def iU(b:FR y s fr){x:adT}{a:SV}(h:sv s.env x=a):SR y a ((⟨fr.tmps,fr.defers⟩:Act).eval x):=by subst h;rw[De];exact b.sv x
def il {k:IntKind} {ad:Addr} {a b:SV} {v n:Int} (c:FR y s fr) (h:bb s=some (f,[.lit (.pointer (some ad)),a,b])) (e:s.kind ≠ .early) (g:Ext P f (Extern.Atomic.casT (.int k)))
 (j:∀ x,SR y a x->x = .int k v) (hb:∀ x,SR y b x->x = .int k n) (l:w.cell? ad=some (.int k v)) (m:w.frozen? ad=false) :
 stepG P main (G fr cs) w = .go (G (fr.finish (.bool true)) cs) (w.setCell ad (.int k n)) #[⟨.cell ad,false,true⟩,⟨.cell ad,true,true⟩]:=by
 obtain⟨ops,i,rest,kk,o,as,p,q,r,t,A,J,K⟩:=dv c h;obtain⟨fn,B,C,D,E,F⟩:=g.ex;obtain⟨x,z,u,rfl,H,d,I⟩:=Df A;have:=stepG_cas_hit (P:=P) (main:=main) (b:=fr) (a:=⟨fr.tmps,fr.defers⟩) (kk:=kk) (cs:=cs) (w:=w) (rest:=rest) q r (by rw[c.kind];exact e) t B C D E k F (iU c H) (j _ (iU c d)) (hb _ (iU c I)) l m
 grind
def iM {k:IntKind} {ad:Addr} {a b:SV} {v old n:Int} (c:FR y s fr) (h:bb s=some (f,[.lit (.pointer (some ad)),a,b])) (g:s.kind ≠ .early) (j:Ext P f (Extern.Atomic.casT (.int k)))
 (l:∀ x,SR y a x->x = .int k old) (hb:∀ x,SR y b x->x = .int k n) (m:w.cell? ad=some (.int k v)) (p:w.frozen? ad=false) (d : ¬ v=old) :
 stepG P main (G fr cs) w = .go (G (fr.finish (.bool false)) cs) w #[⟨.cell ad,false,true⟩]:=by
 obtain⟨ops,i,rest,kk,o,as,q,r,t,A,B,K,L⟩:=dv c h;obtain⟨fn,C,D,E,F,H⟩:=j.ex;obtain⟨x,z,u,rfl,I,e,J⟩:=Df B;have:=stepG_cas_miss (P:=P) (main:=main) (b:=fr) (a:=⟨fr.tmps,fr.defers⟩) (kk:=kk) (cs:=cs) (w:=w) (rest:=rest) r t (by rw[c.kind];exact g) A C D E F k H (iU c I) (l _ (iU c e)) (hb _ (iU c J)) m p d
 grind
def qe {k:IntKind} {ad:Addr} {a:SV} {v d:Int} (c:FR y s fr) (h:bb s=some (f,[.lit (.pointer (some ad)),a])) (g:s.kind ≠ .early) (j:Ext P f (Extern.Atomic.update (Op.intArith .add) k true))
 (l:∀ x,SR y a x->x = .int k d) (m:w.cell? ad=some (.int k v)) (n:w.frozen? ad=false) :
 stepG P main (G fr cs) w = .go (G (fr.finish (.int k (k.wrap (v+d)))) cs) (w.setCell ad (.int k (k.wrap (v+d)))) #[⟨.cell ad,false,true⟩,⟨.cell ad,true,true⟩]:=by
 obtain⟨ops,i,rest,kk,o,as,p,q,r,t,u,H,I⟩:=dv c h;obtain⟨fn,A,B,C,D,E⟩:=j.ex;obtain⟨x,z,rfl,F,e⟩:=Lq u;have:=stepG_add_atomic (P:=P) (main:=main) (b:=fr) (a:=⟨fr.tmps,fr.defers⟩) (kk:=kk) (cs:=cs) (w:=w) (rest:=rest) q r (by rw[c.kind];exact g) t A B C D k E (iU c F) (l _ (iU c e)) m n
 grind
def ti {ad:Addr} {l:adP} {n:Int} (d:FR y s fr) (h:bb s=some (f,.lit (.pointer (some ad)) :: l)) (g:s.kind ≠ .early) (j:Ext P f Extern.Sync.semacquire) (k:w.cell? ad=some (.int .u32 n)) (m:n≠0) (p:w.frozen? ad=false) :
 stepG P main (G fr cs) w = .go (G (fr.finish (.tuple #[])) cs) (w.setCell ad (.int .u32 (n-1))) (semEvents ad):=by
 obtain⟨ops,i,rest,kk,o,as,q,r,t,u,v,E,F⟩:=dv d h;obtain⟨fn,z,A,B,C,D⟩:=j.ex;obtain⟨x,e,c⟩:=BM d v 0 _ rfl;have c:x = .pointer (some ad):=c;rw[c] at e;have:=stepG_semacquire (P:=P) (main:=main) (b:=fr) (a:=⟨fr.tmps,fr.defers⟩) (kk:=kk) (cs:=cs) (w:=w) (rest:=rest) r t (by rw[d.kind];exact g) u z A B C D e k m p
 grind
def Ak {ad:Addr} {l:adP} (d:FR y s fr) (h:bb s=some (f,.lit (.pointer (some ad)) :: l)) (g:Ext P f Extern.Sync.semacquire) (j:w.cell? ad=some (.int .u32 0)) :
 stepG P main (G fr cs) w = .go { G fr cs with status:=.blocked } w #[]:=by
 obtain⟨ops,i,rest,kk,o,as,k,m,n,p,q,A,B⟩:=dv d h;obtain⟨fn,r,t,u,v,z⟩:=g.ex;obtain⟨x,e,c⟩:=BM d q 0 _ rfl;have c:x = .pointer (some ad):=c;rw[c] at e;have:=stepG_semacquire_wait (P:=P) (main:=main) (b:=fr) (a:=⟨fr.tmps,fr.defers⟩) (kk:=kk) (cs:=cs) (w:=w) (rest:=rest) m n p r t u v z e j
 grind
def oJ {ad:Addr} {l:adP} {n:Int} (d:FR y s fr) (h:bb s=some (f,.lit (.pointer (some ad)) :: l)) (g:s.kind ≠ .early) (j:Ext P f Extern.Sync.semrelease) (k:w.cell? ad=some (.int .u32 n)) (m:w.frozen? ad=false) :
 stepG P main (G fr cs) w = .go (G (fr.finish (.tuple #[])) cs) (w.setCell ad (.int .u32 (IntKind.u32.wrap (n+1)))) (semEvents ad):=by
 obtain⟨ops,i,rest,kk,o,as,p,q,r,t,u,D,E⟩:=dv d h;obtain⟨fn,v,z,A,B,C⟩:=j.ex;obtain⟨x,e,c⟩:=BM d u 0 _ rfl;have c:x = .pointer (some ad):=c;rw[c] at e;have:=stepG_semrelease (P:=P) (main:=main) (b:=fr) (a:=⟨fr.tmps,fr.defers⟩) (kk:=kk) (cs:=cs) (w:=w) (rest:=rest) q r (by rw[d.kind];exact g) t v z A B C e k m
 grind
def Al (d:FR y s fr) (h:bb s=some (f,svs)) (e:s.kind ≠ .early) (g:Ext P f Extern.OsHooks.nano) (j:∃ fn,P.funcs[f]? = some fn∧fn.norace=true) :
 stepG P main (G fr cs) w = .go (G (fr.finish (.int .i64 ((w.os.mono+w.tick:Nat):Int))) cs) w.later #[]:=by
 obtain⟨ops,i,rest,kk,o,as,k,l,m,n,x,z,A⟩:=dv d h;obtain⟨fn,p,q,r,t,u⟩:=g.ex;obtain⟨c,B,v⟩:=j;obtain rfl:c=fn:=by grind
 have:=stepG_nanotime (P:=P) (main:=main) (b:=fr) (a:=⟨fr.tmps,fr.defers⟩) (kk:=kk) (cs:=cs) (w:=w) (rest:=rest) l m (by rw[d.kind];exact e) n p q r t u v
 grind
def IC {n:Int} (d:FR y s fr) (h:bb s=some (f,[.lit (.int .i64 n)])) (g:s.kind ≠ .early) (v:Ext P f Extern.Sync.canSpin) :
 ∃ b w',stepG P main (G fr cs) w = .go (G (fr.finish (.bool b)) cs) w' #[]∧(b=true->n<4)∧(w'=w∨w'=w.asked):=by
 obtain⟨ops,i,rest,kk,o,as,z,j,l,m,e,B,C⟩:=dv d h;obtain⟨fn,p,q,r,t,u⟩:=v.ex;obtain⟨x,rfl,A⟩:=Lr e;have c:(⟨fr.tmps,fr.defers⟩:Act).eval x = .int .i64 n:=iU d A
 by_cases e:n<4
 . have:=stepG_canSpin_ask (P:=P) (main:=main) (b:=fr) (a:=⟨fr.tmps,fr.defers⟩) (kk:=kk) (cs:=cs) (w:=w) (rest:=rest) j l (by rw[d.kind];exact g) m p q r t u (n:=n) (k:=.i64) (by simp[c]) e
   grind
 . have:=stepG_canSpin_no (P:=P) (main:=main) (b:=fr) (a:=⟨fr.tmps,fr.defers⟩) (kk:=kk) (cs:=cs) (w:=w) (rest:=rest) j l (by rw[d.kind];exact g) m p q r t u (n:=n) (k:=.i64) (by simp[c]) (by omega)
   grind
def uK {v:Value} (c:FR y s fr) (h:bb s=some (f,svs)) (d:s.kind ≠ .early) (e:Ext P f (fun _=>pure v)):stepG P main (G fr cs) w = .go (G (fr.finish v) cs) w #[]:=by
 obtain⟨ops,i,rest,kk,o,as,g,j,k,l,t,u,x⟩:=dv c h;obtain⟨fn,m,n,p,q,r⟩:=e.ex;have:=stepG_entry (P:=P) (main:=main) (b:=fr) (a:=⟨fr.tmps,fr.defers⟩) (kk:=kk) (cs:=cs) (w:=w) (rest:=rest) (v:=v) (w':=w) (evs:=#[]) j k (by rw[c.kind];exact d) l m n p q r (by simp) (by simp) (by simp)
 grind
def Ls{α β:Type}{P:adS}{f:α->Sem β}(s:Sem α):∀{a:α},ny P s=some a->∀w es,(s.bind f).runT P w es=(f a).runT P w es:=by
 induction s with
 |pure b=>intro a h w es;simp only[ny,kn]at h;subst h;rfl
 |program g c=>intro a h w es;simp only[ny]at h;exact c P h w es
 |_=>intro a h;simp[ny]at h
def qU{t:Nat}{ad:Addr}{v:Value}(q:FR y s fr)(h:rC s=some (t,.lit (.pointer (some ad))))(C:ny P (isAgg t)=some false)(D:∃fn,P.funcs[s.fn]?=some fn/\fn.norace=true)(E:w.cell? ad=some v):
 stepG P main (G fr cs) w=.go (G (fr.finish v) cs) w #[]:=by
 have f:=q;obtain⟨fn,tmps,todo,defs,mode,kind,ro⟩:=fr;obtain⟨r,i,F,g,H,u,I,J⟩:=q;simp only at r i F g H u I J;subst u;unfold rC at h;split at h
 . rename_i ops z rest A K j
   rw[K]at g;rw[j]at i;have g:mode=.run:=g;subst g;subst i;split at h
   . rename_i o L
     split at h
     . rename_i M
       split at h
       . rename_i a x k
         simp only[kn,zH]at h;obtain⟨rfl,N⟩:=h;have d:=f.sv x;rw[N]at d;have d:Frame.eval ⟨fn,tmps,.inRegion ops (z::rest)::A,defs,.run,kind,none⟩ x=.pointer (some ad):=d;obtain⟨O,l,p⟩:=D;subst r;rw[nT L (qd f M)];have hex:execOp (Frame.eval ⟨s.fn,tmps,.inRegion ops (z::rest)::A,defs,.run,kind,none⟩) o=Sem.bind (Instr.loadAt a (.pointer (some ad))) (λv=>pure (Next.value v)):=by simp only[execOp,k,d];rfl
         have e:(Sem.bind (Instr.loadAt a (.pointer (some ad))) (λv=>(pure (Next.value v):Sem Next))).runT P w #[]=(.ok (.value v) w,#[⟨.cell ad,false,false⟩]):=by
          have Q:Instr.loadAt a (.pointer (some ad))=Sem.bind (isAgg a) (λb=>if b=true then Sem.bind (sizeOf a) (λn=>Sem.bind (loadCells ad n) (λc=>pure (.agg c)))else load ad):=rfl
          rw[Q]
          have R:Sem.bind (Sem.bind (isAgg a) (λb=>if b=true then Sem.bind (sizeOf a) (λn=>Sem.bind (loadCells ad n) (λc=>pure (.agg c)))else load ad)) (λv=>(pure (Next.value v):Sem Next))=
           Sem.bind (isAgg a) (λb=>Sem.bind (if b=true then Sem.bind (sizeOf a) (λn=>Sem.bind (loadCells ad n) (λc=>pure (.agg c)))else load ad) (λv=>(pure (Next.value v):Sem Next))):=bind_assoc (m:=Sem) _ _ _
          rw[R,Ls _ C];show(Sem.bind (load ad) (λv=>(pure (Next.value v):Sem Next))).runT P w #[]=_
          unfold load;show Sem.runT P (Sem.load .plain ad λv=>pure (Next.value v)) w #[]=_
          simp only[Sem.runT,E];rfl
         rw[hex]
         have S:seen P s.fn #[⟨.cell ad,false,false⟩]=#[]:=by rw[seen_def];simp[l,p,seenStep]
         simp only[stepG.apply,aaA,e,GStep.after]
         by_cases B:(kind==CallKind.early)=true
         . simp[B,gQ,G]
         . simp[B,S,G]
       . cases h
     . cases h
   . cases h
 . cases h
def kM(s:jT):Option (TypeId × TypeId × SV):=
 match s.mode,s.todo with
 | .run,.inRegion ops (i::_)::_=>match ops[i]? with
   | some o=>match Ae ops s.env o with
     | some true=>match o.op with
       |.convert a b x=>some (a,b,sv s.env x)
       |_=>none
     |_=>none
   |none=>none
 |_,_=>none
def uL{a b t:TypeId}{ad:Addr}(l:FR y s fr)(h:kM s=some (a,b,.lit (.pointer (some ad))))(m:P.underlying a=some (.pointer t))(n:P.underlying b=some .unsafePointer)(p:(P.info? t).map (λi=>decide (i.size=0))=some false)(f:∃v,w.cell? ad=some v):
 stepG P main (G fr cs) w=.go (G (fr.finish (.pointer (some ad))) cs) w #[]:=by
 obtain⟨v,f⟩:=f;have d:=l;obtain⟨fn,tmps,todo,defs,mode,kind,ro⟩:=fr;obtain⟨z,g,A,e,B,q,C,D⟩:=l;simp only at z g A e B q C D;subst q;unfold kM at h;split at h
 . rename_i ops r rest u E j
   rw[E]at e;rw[j]at g;have e:mode=.run:=e;subst e;subst g;split at h
   . rename_i o F
     split at h
     . rename_i H
       split at h
       . rename_i I J x k
         simp only[kn,zH]at h;obtain⟨rfl,rfl,K⟩:=h;have c:=d.sv x;rw[K]at c;have c:Frame.eval ⟨fn,tmps,.inRegion ops (r::rest)::u,defs,.run,kind,none⟩ x=.pointer (some ad):=c;rw[nT F (qd d H)];have hex:execOp (Frame.eval ⟨fn,tmps,.inRegion ops (r::rest)::u,defs,.run,kind,none⟩) o=(do pure (.value (<-convert I J (.pointer (some ad)))):Sem Next):=by simp only[execOp,k,c]
         have L:=run_convert_to_unsafe m n p f;have M:=events_convert_to_unsafe m n p f #[];rw[hex];simp[stepG.apply,L,M,GStep.after,gQ,G,Result.andThen]
       . cases h
     . cases h
   . cases h
 . cases h
end
def dJ(P:adS)(f:FuncId)(args:adP)(kind:adK):jT:=
 match P.funcs[f]? with
 |some fn=>⟨f,[.code (fn.body.getD .skip)],args++List.replicate (fn.ntmps-args.length) .cD,[],.run,kind⟩
 |none=>⟨f,[],args,[],.run,kind⟩
abbrev cO:=jT × List jT
def next(P:adS)(a:Fl)(c:cO)(v:SV):cO:=match xN c.1 v with|some s=>sgo P a 400 s c.2|none=>c
def pt(b o:Nat):SV:=.lit (.pointer (some ⟨b,o,none⟩))
def un:SV:=.lit (.tuple #[])
def tt:SV:=.lit (.bool true)
def ff:SV:=.lit (.bool false)
def Hn(live:adH)(env:adP):adP:=(List.range env.length).zipWith (λi v=>if live.contains i then v else .cD) env
def keep(live:adH)(s:jT):jT:={s with env:=Hn live s.env}
def Lt(env:adP):acZ->adP
 |[]=>env
 |(i,v)::l=>Lt (env.set i v) l
def FR.keep{y:Sy}{s:jT}{fr:Frame}(h:FR y s fr)(live:adH):FR y (keep live s) fr:=by
 refine⟨h.fn,h.todo,h.defers,h.mode,h.kind,h.ro,?_,λt=>?_⟩
 . rw[h.size]
   show s.env.length=(Hn live s.env).length;rw[Hn,List.length_zipWith,acj,Nat.min_self]
 . have:=h.env t
   simp only[Go.cG.keep,Hn];rw[zA,List.getElem?_zipWith];by_cases a:t<s.env.length
   . rw[List.getElem?_range a,zU a]
     simp only[abn];split
     . simp_all
     . trivial
   simp_all
def plain:SV->Bool
 |.cD=>true
 |.lit _=>true
 |_=>false
def FR.gS{y y':Sy}{s:jT}{fr:Frame}(h:FR y s fr)(a:s.env.all plain=true):FR y' s fr:=by
 refine⟨h.fn,h.todo,h.defers,h.mode,h.kind,h.ro,h.size,λt=>?_⟩;have b:=h.env t
 have c:plain (s.env.getD t .cD)=true:=by
  rw[zA];cases q:s.env[t]? with
  |none=>rfl
  |some v=>grind
 generalize s.env.getD t .cD=v at *;cases v<;>simp_all [plain,SR]
structure zv where
 lock:Nat
 unlock:Nat
 Um:Nat
 wH:Nat
 RS:Nat
 QT:Nat
 jA:Nat
 en:Nat
 acq:Nat
 rel:Nat
 kJ:Nat
 add:Nat
 ID:Nat
 uM:Nat
 nano:Nat
 FE:Nat
 oO:Nat
 tM:Nat
 tU:Nat
 tI:Nat
def Ww(c:cO):adH:=[c.1.fn,c.1.todo.length,(match c.1.todo with|.inRegion ops (i::_)::_=>i|_=>999),(match bb c.1 with|some (f,_)=>f|none=>match rC c.1 with|some (t,_)=>1000+t|none=>999)]++c.2.map (·.fn)
def lC:Fl:=⟨false,false,false,false,false,false⟩
def Lu(P:adS)(f:Fl):Nat->jT->adQ->cO
 |0,fr,st=>(fr,st)
 | n + 1,fr,st=>match ss P f fr st with
   | some (a,b)=>match a.todo with
     |.code _::.inLoop _::_=>(a,b)
     |_=>Lu P f n a b
   |none=>(fr,st)
def Dg(live:adH)(c:cO):cO:=(keep live c.1,c.2.map (keep []))
def aQ(P:adS)(a:Fl)(live:adH)(c:cO)(v:SV):Option cO:=(xN c.1 v).map λs=>Dg live (sgo P a 400 s c.2)
def qf(P:adS)(a:Fl)(live:adH)(c:cO)(v:SV):Option cO:=(xN c.1 v).map λs=>Dg live (Lu P a 400 s c.2)
def Uo(P:adS)(a:Fl)(live:adH)(c:cO):cO:=Dg live (sgo P a 400 c.1 c.2)
def bl(x:Bool):SV:=.lit (.bool x)
def i64(n:Int):SV:=.lit (.int .i64 n)
def i32(n:Int):SV:=.lit (.int .i32 n)
def jk(n:Nat):adP:=List.replicate n .cD
section
variable(P:adS)(n:zv)(b o:Nat)(kind:adK)
def wf:SV:=.word false false false 0
def wl:SV:=.word true false false 0
def Wx:cO:=Dg [0] (sgo P lC 400 (dJ P n.lock [pt b o] kind) [])
def Lv:cO:=next P lC (Wx P n b o kind) un
def Up:cO:=next P lC (Lv P n b o kind) tt
def Uq:cO:=next P lC (Up P n b o kind) un
def Wy:cO:=next P lC (Uq P n b o kind) (pt b o)
def FF:cO:=next P lC (Lv P n b o kind) ff
def ZJ:cO:=(qf P lC [] (FF P n b o kind) wf).getD (FF P n b o kind)
def Wz:cO:=next P lC (FF P n b o kind) wl
def XK:cO:=next P lC (Wz P n b o kind) tt
def XL:cO:=next P lC (XK P n b o kind) tt
def WG:cO:=next P lC (XL P n b o kind) un
def RU:cO:=next P lC (Wz P n b o kind) ff
def WH:cO:=next P lC (RU P n b o kind) ff
def Ur:cO:=next P lC (next P lC (FF P n b o kind) wf) tt
def Us:cO:=next P lC (Ur P n b o kind) un
def WI:cO:=next P lC (Us P n b o kind) (pt b o)
def XN:cO:=next P lC (RU P n b o kind) tt
def XO:cO:=next P lC (XN P n b o kind) .IB
def XP:cO:=next P lC (XO P n b o kind) un
def XQ:cO:=next P lC (XP P n b o kind) .now
def ZK:cO:=next P lC (XQ P n b o kind) (.word false false true 0)
def Ut:adQ:=(Wx P n b o kind).2
def Wf:adQ:=(FF P n b o kind).2.map (keep [])
def mQ(a:adD)(l:acZ):cO:=(⟨n.Um,a,Lt (jk 13) l,[],.run,.normal⟩,Ut P n b o kind)
def cK(a:adD)(l:acZ):cO:=(⟨n.RS,a,Lt (jk 139) l,[],.run,.normal⟩,Wf P n b o kind)
def LD:cO:=Wx P n b o kind
def uN:cO:=mQ P n b o kind (Lv P n b o kind).1.todo [(0,pt b o),(5,pt b o)]
def QU:cO:=mQ P n b o kind (Up P n b o kind).1.todo [(0,pt b o)]
def Tu:cO:=mQ P n b o kind (Uq P n b o kind).1.todo [(8,pt b o)]
def QV:cO:=mQ P n b o kind (Wy P n b o kind).1.todo [(9,pt b o)]
def BK:cO:=(⟨n.lock,[],jk 6,[],.ret,kind⟩,[])
def QW(aw sv:Bool)(it:Int):acZ:=[(0,pt b o),(2,.IB),(3,bl sv),(4,bl aw),(5,i64 it)]
def Wg:cO:=cK P n b o kind (FF P n b o kind).1.todo [(0,pt b o),(2,i64 0),(3,ff),(4,ff),(5,i64 0),(12,pt b o)]
def RV(aw sv:Bool)(it:Int):cO:=cK P n b o kind (FF P n b o kind).1.todo (QW b o aw sv it++[(12,pt b o)])
def Ho(aw sv:Bool)(it:Int):cO:=cK P n b o kind (WG P n b o kind).1.todo (QW b o aw sv it++[(47,pt b o)])
def RX(aw sv:Bool)(it:Int):cO:=cK P n b o kind (WH P n b o kind).1.todo (QW b o aw sv it++[(133,pt b o)])
def HD(L K S aw sv:Bool)(it:Int):cO:=cK P n b o kind (ZJ P n b o kind).1.todo (QW b o aw sv it++[(6,.word L K S 0)])
def SQ(K aw sv:Bool)(it:Int):cO:=cK P n b o kind (Wz P n b o kind).1.todo (QW b o aw sv it++[(6,.word true K false 0),(17,tt),(18,i64 it)])
def SW(it:Int):cO:=cK P n b o kind (XK P n b o kind).1.todo (QW b o false false it++[(33,tt),(36,pt b o),(37,.word true false false 0),(39,.word true true false 0)])
def DS(aw sv:Bool)(it:Int):cO:=cK P n b o kind (XL P n b o kind).1.todo (QW b o aw sv it)
def Pn(L K S aw sv:Bool):SV:=.word (L||!S) (if aw then false else K) (S||(sv && L)) (if L||S then 1 else 0)
def Dh(L K S aw sv:Bool)(it:Int):cO:=cK P n b o kind (RU P n b o kind).1.todo (QW b o aw sv it++[(6,.word L K S 0),(77,pt b o),(78,.word L K S 0),(79,Pn L K S aw sv)])
def T1(sv:Bool):cO:=cK P n b o kind (XN P n b o kind).1.todo [(0,pt b o),(3,bl sv)]
def PK(sv:Bool):cO:=cK P n b o kind (XO P n b o kind).1.todo [(0,pt b o),(2,.IB),(3,bl sv),(91,pt b (o+1))]
def TQ:cO:=cK P n b o kind (XP P n b o kind).1.todo [(0,pt b o),(2,.IB),(95,ff)]
def UP(sv:Bool):cO:=cK P n b o kind (XQ P n b o kind).1.todo [(0,pt b o),(2,.IB),(3,bl sv),(103,pt b o)]
def AD(d:Int):cO:=cK P n b o kind (ZK P n b o kind).1.todo [(0,pt b o),(128,pt b o),(129,i32 d)]
def OW:cO:=cK P n b o kind (Ur P n b o kind).1.todo [(0,pt b o)]
def Tv:cO:=cK P n b o kind (Us P n b o kind).1.todo [(136,pt b o)]
def QX:cO:=cK P n b o kind (WI P n b o kind).1.todo [(137,pt b o)]
def WJ:cO:=Dg [0,5] (sgo P lC 400 (dJ P n.unlock [pt b o] kind) [])
def Uu:cO:=next P lC (WJ P n b o kind) .cD
def XR:cO:=next P lC (Uu P n b o kind) (pt b o)
def XS:cO:=next P lC (XR P n b o kind) un
def Hp:cO:=next P lC (XS P n b o kind) un
def ZL:cO:=next P {lC with n0:=true} (Hp P n b o kind) wf
def Wh:cO:=next P lC (Hp P n b o kind) wf
def ZM:cO:=next P lC (Hp P n b o kind) (.word false false true 0)
def ZN:cO:=next P lC (Wh P n b o kind) tt
def WK:cO:=next P lC (Wh P n b o kind) ff
def Uv:adQ:=(WJ P n b o kind).2
def WL:adQ:=(Wh P n b o kind).2.map (keep [])
def pF(a:adD)(l:acZ):cO:=(⟨n.wH,a,Lt (jk 21) l,[],.run,.normal⟩,Uv P n b o kind)
def vJ(a:adD)(l:acZ):cO:=(⟨n.QT,a,Lt (jk 43) l,[],.run,.normal⟩,WL P n b o kind)
def U0:cO:=WJ P n b o kind
def Tw:cO:=pF P n b o kind (Uu P n b o kind).1.todo [(0,pt b o),(7,pt b o)]
def UR:cO:=pF P n b o kind (XR P n b o kind).1.todo [(0,pt b o),(8,pt b o)]
def UD:cO:=pF P n b o kind (XS P n b o kind).1.todo [(0,pt b o)]
def sm:cO:=pF P n b o kind (Hp P n b o kind).1.todo [(0,pt b o),(13,pt b o),(14,.cD)]
def UE:cO:=pF P n b o kind (ZL P n b o kind).1.todo []
def UC:cO:=vJ P n b o kind (Wh P n b o kind).1.todo [(0,pt b o),(27,pt b o),(28,wf),(29,.word false true false (-1))]
def G7:cO:=vJ P n b o kind (ZN P n b o kind).1.todo [(33,pt b (o+1))]
def G9:cO:=vJ P n b o kind (ZM P n b o kind).1.todo [(41,pt b (o+1))]
def OX:cO:=vJ P n b o kind (WK P n b o kind).1.todo [(0,pt b o),(37,pt b o)]
def Uw:cO:=(⟨n.unlock,[],jk 6,[],.ret,kind⟩,[])
end
structure gF(P:adS)(n:zv):Prop where
 e1:∀(fl:Fl) b o kind,aQ P fl [0,5] (LD P n b o kind) un=some (uN P n b o kind)
 e2:∀(fl:Fl) b o kind,aQ P fl [0] (uN P n b o kind) tt=some (QU P n b o kind)
 e3:∀(fl:Fl) b o kind,aQ P fl [0,2,3,4,5,12] (uN P n b o kind) ff=some (Wg P n b o kind)
 e4:∀(fl:Fl) b o kind,aQ P fl [8] (QU P n b o kind) un=some (Tu P n b o kind)
 e5:∀(fl:Fl) b o kind,aQ P fl [9] (Tu P n b o kind) (pt b o)=some (QV P n b o kind)
 e6:∀(fl:Fl) b o kind,aQ P fl [] (QV P n b o kind) un=some (BK n kind)
 XT:∀(fl:Fl) b o kind L K S aw sv it,qf P fl [0,2,3,4,5,6] (RV P n b o kind aw sv it) (.word L K S 0)=some (HD P n b o kind L K S aw sv it)
 RY:∀(fl:Fl) b o kind L K S aw sv it,qf P fl [0,2,3,4,5,6] (Ho P n b o kind aw sv it) (.word L K S 0)=some (HD P n b o kind L K S aw sv it)
 XU:∀(fl:Fl) b o kind L K S aw sv it,qf P fl [0,2,3,4,5,6] (RX P n b o kind aw sv it) (.word L K S 0)=some (HD P n b o kind L K S aw sv it)
 e8:∀(fl:Fl) b o kind K aw sv it,Uo P fl [0,2,3,4,5,6,17,18] (HD P n b o kind true K false aw sv it)=SQ P n b o kind K aw sv it
 e9:∀(fl:Fl) b o kind L K S aw sv it,(L && !S)=false->(aw && !K)=false->Uo P fl [0,2,3,4,5,6,77,78,79] (HD P n b o kind L K S aw sv it)=Dh P n b o kind L K S aw sv it
 cS:∀(fl:Fl) b o kind it,aQ P {fl with n0:=false} [0,2,3,4,5,33,36,37,39] (SQ P n b o kind false false false it) tt=some (SW P n b o kind it)
 Ux:∀(fl:Fl) b o kind n0 K aw sv it,(!aw && !K && !n0)=false->aQ P {fl with n0:=n0} [0,2,3,4,5] (SQ P n b o kind K aw sv it) tt=some (DS P n b o kind aw sv it)
 cQ:∀(fl:Fl) b o kind K aw sv it,(aw && !K)=false->aQ P fl [0,2,3,4,5,6,77,78,79] (SQ P n b o kind K aw sv it) ff=some (Dh P n b o kind true K false aw sv it)
 eL:∀(fl:Fl) b o kind r it,aQ P fl [0,2,3,4,5] (SW P n b o kind it) (bl r)=some (DS P n b o kind r false it)
 FG:∀(fl:Fl) b o kind aw sv,aQ P fl [0,2,3,4,5,47] (DS P n b o kind aw sv 0) un=some (Ho P n b o kind aw sv 1)
 FH:∀(fl:Fl) b o kind aw sv,aQ P fl [0,2,3,4,5,47] (DS P n b o kind aw sv 1) un=some (Ho P n b o kind aw sv 2)
 Uy:∀(fl:Fl) b o kind aw sv,aQ P fl [0,2,3,4,5,47] (DS P n b o kind aw sv 2) un=some (Ho P n b o kind aw sv 3)
 Uz:∀(fl:Fl) b o kind aw sv,aQ P fl [0,2,3,4,5,47] (DS P n b o kind aw sv 3) un=some (Ho P n b o kind aw sv 4)
 qg:∀(fl:Fl) b o kind K aw sv it,aQ P fl [0] (Dh P n b o kind false K false aw sv it) tt=some (OW P n b o kind)
 UA:∀(fl:Fl) b o kind L K S aw sv it,(L||S)=true->aQ P {fl with wz:=true} [0,3] (Dh P n b o kind L K S aw sv it) tt=some (T1 P n b o kind sv)
 UB:∀(fl:Fl) b o kind L K S aw sv it,(L||S)=true->aQ P {fl with wz:=false} [0,2,3,91] (Dh P n b o kind L K S aw sv it) tt=some (PK P n b o kind sv)
 pR:∀(fl:Fl) b o kind L K S aw sv it,aQ P fl [0,2,3,4,5,133] (Dh P n b o kind L K S aw sv it) ff=some (RX P n b o kind aw sv it)
 xP:∀(fl:Fl) b o kind sv,aQ P fl [0,2,3,91] (T1 P n b o kind sv) .IB=some (PK P n b o kind sv)
 UF:∀(fl:Fl) b o kind,aQ P fl [0,2,3,103] (PK P n b o kind true) un=some (UP P n b o kind true)
 UG:∀(fl:Fl) b o kind,aQ P fl [0,2,95] (PK P n b o kind false) un=some (TQ P n b o kind)
 uv:∀(fl:Fl) b o kind x,aQ P {fl with tb:=x} [0,2,3,103] (TQ P n b o kind) .now=some (UP P n b o kind x)
 Po:∀(fl:Fl) b o kind sv n1,aQ P {fl with n0:=false,n1:=n1} [0,128,129] (UP P n b o kind sv) (.word false false true 0)=some (AD P n b o kind (if !sv||n1 then -11 else -7))
 zw:∀(fl:Fl) b o kind L K sv,qf P fl [0,2,3,4,5,6] (UP P n b o kind sv) (.word L K false 0)=some (HD P n b o kind L K false true sv 0)
 wI:∀(fl:Fl) b o kind d,aQ P fl [0] (AD P n b o kind d) .cD=some (OW P n b o kind)
 wJ:∀(fl:Fl) b o kind,aQ P fl [136] (OW P n b o kind) un=some (Tv P n b o kind)
 KI:∀(fl:Fl) b o kind,aQ P fl [137] (Tv P n b o kind) (pt b o)=some (QX P n b o kind)
 IE:∀(fl:Fl) b o kind,aQ P fl [] (QX P n b o kind) un=some (BK n kind)
 u1:∀(fl:Fl) b o kind,aQ P fl [0,7] (U0 P n b o kind) .cD=some (Tw P n b o kind)
 u2:∀(fl:Fl) b o kind,aQ P fl [0,8] (Tw P n b o kind) (pt b o)=some (UR P n b o kind)
 u3:∀(fl:Fl) b o kind,aQ P fl [0] (UR P n b o kind) un=some (UD P n b o kind)
 u4:∀(fl:Fl) b o kind,aQ P fl [0,13] (UD P n b o kind) un=some (sm P n b o kind)
 u5:∀(fl:Fl) b o kind n0 K,(n0||K)=true->aQ P {fl with n0:=n0} [] (sm P n b o kind) (.word false K false 0)=some (UE P n b o kind)
 XV:∀(fl:Fl) b o kind n0 K,aQ P {fl with n0:=n0} [41] (sm P n b o kind) (.word false K true 0)=some (G9 P n b o kind)
 XW:∀(fl:Fl) b o kind,aQ P {fl with n0:=false} [0,27,28,29] (sm P n b o kind) (.word false false false 0)=some (UC P n b o kind)
 XX:∀(fl:Fl) b o kind,aQ P fl [33] (UC P n b o kind) tt=some (G7 P n b o kind)
 XY:∀(fl:Fl) b o kind,aQ P fl [0,37] (UC P n b o kind) ff=some (OX P n b o kind)
 u7:∀(fl:Fl) b o kind n0 L K S,(n0||L||K||S)=true->aQ P {fl with n0:=n0} [] (OX P n b o kind) (.word L K S 0)=some (UE P n b o kind)
 XZ:∀(fl:Fl) b o kind,aQ P {fl with n0:=false} [0,27,28,29] (OX P n b o kind) (.word false false false 0)=some (UC P n b o kind)
 u8:∀(fl:Fl) b o kind,aQ P fl [] (G7 P n b o kind) un=some (UE P n b o kind)
 u9:∀(fl:Fl) b o kind,aQ P fl [] (G9 P n b o kind) un=some (UE P n b o kind)
 X1:∀(fl:Fl) b o kind,aQ P fl [] (UE P n b o kind) un=some (Uw n kind)
 o1:∀b o kind,bb (LD P n b o kind).1=some (n.jA,[])/\(LD P n b o kind).1.kind=.normal
 o2:∀b o kind,bb (uN P n b o kind).1=some (n.kJ,[pt b o,i32 0,i32 1])
 o3:∀b o kind,bb (QU P n b o kind).1=some (n.en,[])
 o4:∀b o kind,kM (Tu P n b o kind).1=some (n.tM,n.tU,pt b o)
 o5:∀b o kind,bb (QV P n b o kind).1=some (n.acq,[pt b o])
 X2:∀b o kind aw sv it,rC (RV P n b o kind aw sv it).1=some (n.tI,pt b o)
 X3:∀b o kind aw sv it,rC (Ho P n b o kind aw sv it).1=some (n.tI,pt b o)
 X4:∀b o kind aw sv it,rC (RX P n b o kind aw sv it).1=some (n.tI,pt b o)
 o7:∀b o kind K aw sv it,bb (SQ P n b o kind K aw sv it).1=some (n.ID,[i64 it])
 o8:∀b o kind it,bb (SW P n b o kind it).1=some (n.kJ,[pt b o,.word true false false 0,.word true true false 0])
 o9:∀b o kind aw sv it,bb (DS P n b o kind aw sv it).1=some (n.uM,[])
 WM:∀b o kind L K S aw sv it,bb (Dh P n b o kind L K S aw sv it).1=some (n.kJ,[pt b o,.word L K S 0,Pn L K S aw sv])
 X5:∀b o kind sv,bb (T1 P n b o kind sv).1=some (n.nano,[])
 WN:∀b o kind sv,bb (PK P n b o kind sv).1=some (n.FE,[pt b (o+1),.cD,i64 2])
 X6:∀b o kind,bb (TQ P n b o kind).1=some (n.nano,[])
 X7:∀b o kind sv,rC (UP P n b o kind sv).1=some (n.tI,pt b o)
 X8:∀b o kind d,bb (AD P n b o kind d).1=some (n.add,[pt b o,i32 d])
 X9:∀b o kind,bb (OW P n b o kind).1=some (n.en,[])
 Ya:∀b o kind,kM (Tv P n b o kind).1=some (n.tM,n.tU,pt b o)
 Yb:∀b o kind,bb (QX P n b o kind).1=some (n.acq,[pt b o])
 WO:∀b o kind,rC (U0 P n b o kind).1=some (n.tI,pt b o)/\(U0 P n b o kind).1.kind=.normal/\(U0 P n b o kind).1.fn=n.wH
 Yc:∀b o kind,kM (Tw P n b o kind).1=some (n.tM,n.tU,pt b o)
 Yd:∀b o kind,bb (UR P n b o kind).1=some (n.rel,[pt b o])
 Ye:∀b o kind,bb (UD P n b o kind).1=some (n.jA,[])
 WQ:∀b o kind,bb (sm P n b o kind).1=some (n.add,[pt b o,i32 (-1)])
 WR:∀b o kind,bb (UC P n b o kind).1=some (n.kJ,[pt b o,wf,.word false true false (-1)])
 WT:∀b o kind,bb (G7 P n b o kind).1=some (n.oO,[pt b (o+1),ff,i64 2])
 WU:∀b o kind,bb (G9 P n b o kind).1=some (n.oO,[pt b (o+1),tt,i64 2])
 Yf:∀b o kind,rC (OX P n b o kind).1=some (n.tI,pt b o)
 Yg:∀b o kind,bb (UE P n b o kind).1=some (n.en,[])
 p1:∀b o kind,(Ut P n b o kind).all (·.env.all plain)=true/\(LD P n b o kind).1.env.all plain=true/\(LD P n b o kind).2=Ut P n b o kind
 p2:∀b o kind,(Wf P n b o kind).all (·.env.all plain)=true
 p3:∀b o kind,(Uv P n b o kind).all (·.env.all plain)=true/\(U0 P n b o kind).1.env.all plain=true/\(U0 P n b o kind).2=Uv P n b o kind
 p4:∀b o kind,(WL P n b o kind).all (·.env.all plain)=true
structure gJ(P:adS)(n:zv):Prop where
 jA:Ext P n.jA (λ_=>do mark .disable;pure Extern.Race.none_)
 en:Ext P n.en (λ_=>do mark .enable;pure Extern.Race.none_)
 acq:Ext P n.acq (Extern.Race.marked .acquire)
 rel:Ext P n.rel (Extern.Race.marked .releaseMerge)
 kJ:Ext P n.kJ (Extern.Atomic.casT (.int .i32))
 add:Ext P n.add (Extern.Atomic.update (Op.intArith .add) .i32 true)
 ID:Ext P n.ID Extern.Sync.canSpin
 uM:Ext P n.uM (λ_=>pure (.tuple #[]))
 nano:Ext P n.nano Extern.OsHooks.nano
 Lw:∃fn,P.funcs[n.nano]?=some fn/\fn.norace=true
 FE:Ext P n.FE Extern.Sync.semacquire
 oO:Ext P n.oO Extern.Sync.semrelease
 UH:ny P (isAgg n.tI)=some false
 Yh:∃t,P.underlying n.tM=some (.pointer t)/\P.underlying n.tU=some .unsafePointer/\(P.info? t).map (λi=>decide (i.size=0))=some false
 nS:∃fn,P.funcs[n.RS]?=some fn/\fn.norace=true
 nU:∃fn,P.funcs[n.wH]?=some fn/\fn.norace=true
 nV:∃fn,P.funcs[n.QT]?=some fn/\fn.norace=true
def Sy.ok(y:Sy):Prop:=(0<=y.N/\y.N<=1000)/\(0<=y.c/\y.c<=1000)
def Fl.of(y:Sy):Fl:=⟨decide (y.N=0),decide (y.N=1),decide (y.c=0),decide (y.c=1),decide (y.ws=0),decide (IntKind.i64.wrap (y.tn-y.ws)>1000000)⟩
def Fl.Di{y:Sy}(h:y.ok):(Fl.of y).At y:=⟨h.1,h.2,rfl,rfl,rfl,rfl,rfl,rfl⟩
def Hq:SV->Bool|.word ..=>true|.cnt=>true|_=>false
def Lx:SV->Bool|.eF _=>true|.Hm=>true|.IA=>true|_=>false
def Ly:SV->Bool|.IB=>true|.Uj=>true|_=>false
def Lz:SV->Bool|.now=>true|.Uj=>true|_=>false
def SR.re{y y':Sy}{v:SV}{x:Value}(h:SR y v x)(a:y.N=y'.N\/Hq v=false)(b:y.c=y'.c\/Lx v=false)(d:y.ws=y'.ws\/Ly v=false)(e:y.tn=y'.tn\/Lz v=false):SR y' v x:=by cases v<;>simp_all [SR,Hq,Lx,Ly,Lz]
def FR.re{y y':Sy}{s:jT}{fr:Frame}(h:FR y s fr)(a:y.N=y'.N\/s.env.all (λv=>!Hq v)=true)(b:y.c=y'.c\/s.env.all (λv=>!Lx v)=true)
 (d:y.ws=y'.ws\/s.env.all (λv=>!Ly v)=true) (e:y.tn=y'.tn\/s.env.all (λv=>!Lz v)=true):FR y' s fr:=by
 have key:∀(u:SV->Bool) (t:Nat),u .cD=false->s.env.all (λv=>!u v)=true->u (s.env.getD t .cD)=false:=λu t f g=>by grind
 exact⟨h.fn,h.todo,h.defers,h.mode,h.kind,h.ro,h.size,λt=>(h.env t).re (a.imp id (key _ t rfl)) (b.imp id (key _ t rfl)) (d.imp id (key _ t rfl)) (e.imp id (key _ t rfl))⟩
def mF.gS{y y':Sy}:∀{l:adQ}{fs:adt},mF y l fs->l.all (·.env.all plain)=true->mF y' l fs
 |[],fs,h,_=>by rw[h.mP];trivial
 |s::l,fs,h,a=>by obtain⟨f,b,rfl,c,d⟩:=h.cons_inv;simp only[abj,zj]at a;exact⟨c.gS a.1,d.gS a.2⟩
def mF.keep{y:Sy}(live:adH):∀{l:adQ}{fs:adt},mF y l fs->mF y (l.map (Go.cG.keep live)) fs
 |[],fs,h=>by simp_all
 |s::l,fs,h=>by obtain⟨f,a,rfl,b,c⟩:=h.cons_inv;exact⟨b.keep live,c.keep live⟩
def Hr{P:adS}{Wd:adr}{f:Fl}{y:Sy}(i:f.At y):∀(n:Nat){s:jT}{st:adQ}{fr:Frame}{frs:adt},FR y s fr->mF y st frs ->
 ∃m b a,FR y (Lu P f n s st).1 b/\mF y (Lu P f n s st).2 a/\∀cs,jr P Wd m (G fr (frs++cs)) (G b (a++cs))
 |0,s,st,fr,frs,g,c=>⟨0,fr,frs,g,c,λ_=>rfl⟩
 | n + 1,s,st,fr,frs,g,c=>by
   unfold Lu;cases e:ss P f s st with
   |none=>exact⟨0,fr,frs,g,c,λ_=>rfl⟩
   | some p=>
     obtain⟨u,o⟩:=p;obtain⟨b,a,j,k,l⟩:=QS i e g c;simp only;split
     . exact⟨1,b,a,j,k,λcs=>⟨_,l cs,rfl⟩⟩
     . obtain⟨m,h,d,q,r,t⟩:=Hr i n j k
       exact⟨m+1,h,d,q,r,λcs=>⟨_,l cs,t cs⟩⟩
section
variable{P:adS}{Wd:adr}{y:Sy}{c c':cO}{live:adH}{v:SV}{x:Value}{fr:Frame}{frs:adt}
def QY(e:aQ P (Fl.of y) live c v=some c')(f:y.ok)(g:FR y c.1 fr)(d:mF y c.2 frs)(h:SR y v x):
 ∃b a,FR y c'.1 b/\mF y c'.2 a/\∀cs,tg P Wd (G (fr.finish x) (frs++cs)) (G b (a++cs)):=by
 obtain⟨s,i,rfl⟩:=aaH.1 e;obtain⟨m,b,a,j,k,l⟩:=lY (Wd:=Wd) (Fl.Di f) 400 (P:=P) (g.fin i h) d;exact⟨b,a,j.keep live,k.keep [],λcs=>⟨m,l cs⟩⟩
def UI(e:qf P (Fl.of y) live c v=some c')(f:y.ok)(g:FR y c.1 fr)(d:mF y c.2 frs)(h:SR y v x):
 ∃b a,FR y c'.1 b/\mF y c'.2 a/\∀cs,tg P Wd (G (fr.finish x) (frs++cs)) (G b (a++cs)):=by
 obtain⟨s,i,rfl⟩:=aaH.1 e;obtain⟨m,b,a,j,k,l⟩:=Hr (Wd:=Wd) (Fl.Di f) 400 (P:=P) (g.fin i h) d;exact⟨b,a,j.keep live,k.keep [],λcs=>⟨m,l cs⟩⟩
def UJ(e:Uo P (Fl.of y) live c=c')(f:y.ok)(g:FR y c.1 fr)(d:mF y c.2 frs):
 ∃b a,FR y c'.1 b/\mF y c'.2 a/\∀cs,tg P Wd (G fr (frs++cs)) (G b (a++cs)):=by
 subst e;obtain⟨m,b,a,h,i,j⟩:=lY (Wd:=Wd) (Fl.Di f) 400 (P:=P) g d;exact⟨b,a,h.keep live,i.keep [],λcs=>⟨m,j cs⟩⟩
end
open Mu in
inductive tj where
 |ld|iC|rd (l:Lo)|sq (old:Wd) (l:Lo)|sw (old:Wd) (l:Lo)|kJ (old:Wd) (l:Lo)|t1 (sv:Bool)|gN (sv:Bool)|tq|up (sv:Bool)|add (old:Wd) (sv:Bool)|le|la|back
 |Ht|ur|ud|held|jq (old:Wd)|wq|give|ue|Dj
section
variable(P:adS)(n:zv)(b o:Nat)(kind:adK)
def FC(p:tj)(c:cO)(y:Sy):Prop:=
 match p with
 |.ld=>c=LD P n b o kind
 |.iC=>c=uN P n b o kind
 |.rd l=>c=RV P n b o kind l.aw l.sv l.it\/c=Ho P n b o kind l.aw l.sv l.it\/c=RX P n b o kind l.aw l.sv l.it
 |.sq old l=>c=SQ P n b o kind old.K l.aw l.sv l.it/\y.N=old.N/\old.L=true/\old.S=false
 |.sw old l=>c=SW P n b o kind l.it/\y.N=old.N/\l.aw=false/\l.sv=false/\old.L=true/\old.K=false/\old.S=false
 |.kJ old l=>c=Dh P n b o kind old.L old.K old.S l.aw l.sv l.it/\y.N=old.N
 |.t1 sv=>c=T1 P n b o kind sv
 |.gN sv=>c=PK P n b o kind sv
 |.tq=>c=TQ P n b o kind
 |.up sv=>c=UP P n b o kind sv
 |.add old sv=>c=AD P n b o kind (if !sv||decide (old.N=1)then -11 else -7)
 |.le=>c=QU P n b o kind\/c=OW P n b o kind
 |.la=>c=QV P n b o kind\/c=QX P n b o kind
 |.back=>c=BK n kind
 |.Ht=>c=U0 P n b o kind
 |.ur=>c=UR P n b o kind
 |.ud=>c=UD P n b o kind
 |.held=>c=sm P n b o kind
 |.jq old=>c=UC P n b o kind/\y.N=old.N/\old.L=false/\old.K=false/\old.S=false/\old.N≠0
 |.wq=>c=OX P n b o kind
 |.give=>c=G7 P n b o kind\/c=G9 P n b o kind
 |.ue=>c=UE P n b o kind
 |.Dj=>c=Uw n kind
def oy(p:tj)(cs:adt)(g:adF):Prop:=∃c y fr frs,FC P n b o kind p c y/\y.ok/\FR y c.1 fr/\mF y c.2 frs/\g=G fr (frs++cs)
end
def oy.running{P:adS}{n:zv}{b o:Nat}{kind:adK}{p:tj}{cs:adt}{g:adF}(h:oy P n b o kind p cs g):g.status=.running/\g.offers=none:=by obtain⟨c,y,fr,frs,_,_,_,_,rfl⟩:=h;exact⟨rfl,rfl⟩
structure ShM(b o:Nat)(w:World)(s:Mu.Sh):Prop where
 cw:w.cell? ⟨b,o,none⟩=some (.int .i32 (enc s.w.L s.w.K s.w.S s.w.N))
 cs:w.cell? ⟨b,o+1,none⟩=some (.int .u32 s.ms)
 fz:∀i,w.frozen? ⟨b,i,none⟩=false
def MW(b o:Nat)(w w':World):Prop:=(mK w.os w'.os/\w'.output=w.output)/\(w'.heap=w.heap\/∃i v,(i=o\/i=o+1)/\flat v=true/\w'.heap=(w.setCell ⟨b,i,none⟩ v).heap)
def EvM(b o:Nat)(es:ads):Prop:=∀e∈es,(e.loc=.mark .disable\/e.loc=.mark .enable)\/(∃i,(i=o\/i=o+1)/\e.loc=.cell ⟨b,i,none⟩/\e.sync=true)
def qV{w w':World}(h:w'.heap=w.heap)(a:Addr):w'.cell? a=w.cell? a/\w'.frozen? a=w.frozen? a:=by simp[World.cell?,World.frozen?,h]
def ShM.heap{b o:Nat}{w w':World}{s:Mu.Sh}(h:ShM b o w s)(e:w'.heap=w.heap):ShM b o w' s:=⟨by rw[(qV e _).1];exact h.cw,by rw[(qV e _).1];exact h.cs,λi=>by rw[(qV e _).2];exact h.fz i⟩
def kh{w:World}{b i:Nat}{u v:Value}(h:w.cell? ⟨b,i,none⟩=some u):(w.setCell ⟨b,i,none⟩ v).cell? ⟨b,i,none⟩=some v:=by
 unfold World.cell? at h ⊢;unfold World.setCell
 grind
def oP{w:World}{a:Addr}{v:Value}{b i:Nat}:(w.setCell a v).frozen? ⟨b,i,none⟩=w.frozen? ⟨b,i,none⟩:=by simp_all
def ShM.aW{b o:Nat}{w:World}{s:Mu.Sh}(h:ShM b o w s)(w':Mu.Wd):ShM b o (w.setCell ⟨b,o,none⟩ (.int .i32 (enc w'.L w'.K w'.S w'.N))) {s with w:=w'}:=⟨kh h.cw,by rw[dG (by simp)];exact h.cs,λi=>by rw[oP];exact h.fz i⟩
def ShM.FI{b o:Nat}{w:World}{s:Mu.Sh}(h:ShM b o w s)(m:Nat):ShM b o (w.setCell ⟨b,o+1,none⟩ (.int .u32 m)) {s with ms:=m}:=⟨by rw[dG (by simp)];exact h.cw,kh h.cs,λi=>by rw[oP];exact h.fz i⟩
def fN{b o:Nat}:EvM b o #[]:=λe h=>by simp at h
def Hu{b o i:Nat}(hi:i=o\/i=o+1):EvM b o #[⟨.cell ⟨b,i,none⟩,false,true⟩]:=λe h=>by simp_all
def kN{b o i:Nat}(hi:i=o\/i=o+1):EvM b o #[⟨.cell ⟨b,i,none⟩,false,true⟩,⟨.cell ⟨b,i,none⟩,true,true⟩]:=λe h=>by grind
def wM{b o:Nat}:EvM b o (semEvents ⟨b,o+1,none⟩):=λe h=>by
 simp[semEvents]at h
 grind
section
variable{P:adS}{n:zv}(C:gF P n)(X:gJ P n){b o:Nat}{kind:adK}{Wd:adr}{cs:adt}{g:adF}{w:World}{main:Bool}
variable(hWd:∀w,Wd w->∃v,w.cell? ⟨b,o,none⟩=some v)
def Next(P:adS)(n:zv)(b o:Nat)(kind:adK)(Wd:adr)(cs:adt)(p:tj)(a:adF):Prop:=a.status=.running/\∃c,tg P Wd a c/\oy P n b o kind p cs c
def nxt{y:Sy}{c c':cO}{live:adH}{v:SV}{x:Value}{fr:Frame}{frs:adt}{p:tj}(g:aQ P (Fl.of y) live c v=some c')(f:y.ok)(h:FR y c.1 fr)(d:mF y c.2 frs)(i:SR y v x)(j:FC P n b o kind p c' y):
 Next P n b o kind Wd cs p (G (fr.finish x) (frs++cs)):=by
 obtain⟨e,a,k,l,m⟩:=QY (Wd:=Wd) g f h d i;exact⟨rfl,_,m cs,c',y,e,a,j,f,k,l,rfl⟩
def y0:Sy:=⟨2,2,1,0⟩
def tk:y0.ok:=by unfold Sy.ok y0;decide
def FJ(h:∃fn body,P.funcs[n.lock]?=some fn/\fn.body=some body/\fn.ntmps=6):∃e,tg P Wd (G (Frame.enter P n.lock #[.pointer (some ⟨b,o,none⟩)] kind) cs) e/\oy P n b o kind .ld cs e:=by
 obtain⟨fn,body,a,i,g⟩:=h
 have j:FR y0 (dJ P n.lock [pt b o] kind) (Frame.enter P n.lock #[.pointer (some ⟨b,o,none⟩)] kind):=by
  refine⟨by simp[dJ,a,Frame.enter],by simp[dJ,a,i,Frame.enter],by simp[dJ,a,Frame.enter],by simp[dJ,a,Frame.enter,Db.of],by simp[dJ,a,Frame.enter],rfl,by simp[dJ,a,g,Frame.enter],λt=>?_⟩;simp only[dJ,a,Frame.enter,g,aaX,abn]
  match t with
  |0=>rfl
  |1|2|3|4|5=>trivial
  | t+6=>
    have:([pt b o]++List.replicate (6 - [pt b o].length) SV.cD).getD (t+6) .cD=.cD:=by simp_all
    rw[this];trivial
 obtain⟨m,d,c,k,l,p⟩:=lY (Wd:=Wd) (P:=P) (f:=lC) (y:=y0) ⟨by decide,by decide,rfl,rfl,rfl,rfl,rfl,by decide⟩ 400 j (st:=[]) (frs:=[]) trivial;have q:=p cs;exact⟨_,⟨m,q⟩,_,y0,d,c,rfl,tk,k.keep [0],l.keep [],rfl⟩
def LA:∀g:FuncId,Mark.disable≠.extern g:=λg h=>by cases h
def LB:∀g:FuncId,Mark.enable≠.extern g:=λg h=>by cases h
include C X in
def BN(h:oy P n b o kind .ld cs g):∃d,stepG P main g w=.go d w #[⟨.mark .disable,false,true⟩]/\Next P n b o kind Wd cs .iC d:=by obtain⟨c,y,fr,frs,rfl,f,e,a,rfl⟩:=h;exact⟨_,eV LA e (C.o1 b o kind).1 (by rw[show(LD P n b o kind).1.kind=_ from(C.o1 b o kind).2];decide) X.jA,nxt (C.e1 _ b o kind) f e a rfl rfl⟩
include C X in
def Hv(h:oy P n b o kind .ud cs g):∃d,stepG P main g w=.go d w #[⟨.mark .disable,false,true⟩]/\Next P n b o kind Wd cs .held d:=by obtain⟨c,y,fr,frs,rfl,f,e,a,rfl⟩:=h;exact⟨_,eV LA e (C.Ye b o kind) (by simp[UD,pF]) X.jA,nxt (C.u4 _ b o kind) f e a rfl rfl⟩
include C X in
def BO(h:oy P n b o kind .ue cs g):∃d,stepG P main g w=.go d w #[⟨.mark .enable,false,true⟩]/\Next P n b o kind Wd cs .Dj d:=by obtain⟨c,y,fr,frs,rfl,f,e,a,rfl⟩:=h;exact⟨_,eV LB e (C.Yg b o kind) (by simp[UE,pF]) X.en,nxt (C.X1 _ b o kind) f e a rfl rfl⟩
include C X in
def Hw(h:oy P n b o kind .ur cs g):∃d,stepG P main g w=.go d w #[⟨.mark (.releaseMerge ⟨b,o,none⟩),false,true⟩]/\Next P n b o kind Wd cs .ud d:=by obtain⟨c,y,fr,frs,rfl,f,e,a,rfl⟩:=h;exact⟨_,fH (λi g h=>by cases h) e (C.Yd b o kind) (by simp[UR,pF]) X.rel,nxt (C.u3 _ b o kind) f e a rfl rfl⟩
include C X in
def Hx(h:oy P n b o kind .la cs g):∃e,stepG P main g w=.go e w #[⟨.mark (.acquire ⟨b,o,none⟩),false,true⟩]/\Next P n b o kind Wd cs .back e:=by
 obtain⟨c,y,fr,frs,i,f,d,a,rfl⟩:=h;rcases i with rfl|rfl
 . exact⟨_,fH (λj g h=>by cases h) d (C.o5 b o kind) (by simp[QV,mQ]) X.acq,nxt (C.e6 _ b o kind) f d a rfl rfl⟩
 . exact⟨_,fH (λj g h=>by cases h) d (C.Yb b o kind) (by simp[QX,cK]) X.acq,nxt (C.IE _ b o kind) f d a rfl rfl⟩
include X hWd in
def through{y:Sy}{c c':cO}{live:adH}{fr:Frame}{frs:adt}{p:tj}(f:kM c.1=some (n.tM,n.tU,pt b o))(g:aQ P (Fl.of y) live c (pt b o)=some c')(h:y.ok)(e:FR y c.1 fr)(d:mF y c.2 frs)(i:FC P n b o kind p c' y):
 ∃a,tg P Wd (G fr (frs++cs)) a/\oy P n b o kind p cs a:=by
 obtain⟨t,j,k,l⟩:=X.Yh;obtain⟨_,a,m,q⟩:=nxt (P:=P) (n:=n) (b:=b) (o:=o) (kind:=kind) (Wd:=Wd) (cs:=cs) (x:=.pointer (some ⟨b,o,none⟩)) g h e d rfl i;refine⟨a,tg.trans (sk.Af ⟨rfl,λmain w r=>?_⟩) m,q⟩;exact uL e f j k l (hWd w r)
include C X hWd in
def Hy(h:oy P n b o kind .le cs g):∃s,stepG P main g w=.go s w #[⟨.mark .enable,false,true⟩]/\Next P n b o kind Wd cs .la s:=by
 obtain⟨c,y,fr,frs,t,e,f,a,rfl⟩:=h;rcases t with rfl|rfl
 . refine⟨_,eV LB f (C.o3 b o kind) (by simp[QU,mQ]) X.en,rfl,?_⟩
   obtain⟨i,d,j,k,l⟩:=QY (Wd:=Wd) (x:=.tuple #[]) (C.e4 _ b o kind) e f a rfl;obtain⟨m,q,r⟩:=through X hWd (cs:=cs) (p:=.la) (C.o4 b o kind) (C.e5 _ b o kind) e j k (.inl rfl);exact⟨m,(l cs).trans q,r⟩
 . refine⟨_,eV LB f (C.X9 b o kind) (by simp[OW,cK]) X.en,rfl,?_⟩
   obtain⟨i,d,j,k,l⟩:=QY (Wd:=Wd) (x:=.tuple #[]) (C.wJ _ b o kind) e f a rfl;obtain⟨m,q,r⟩:=through X hWd (cs:=cs) (p:=.la) (C.Ya b o kind) (C.KI _ b o kind) e j k (.inr rfl);exact⟨m,(l cs).trans q,r⟩
include C X hWd in
def xQ{v:Value}(j:w.cell? ⟨b,o,none⟩=some v)(h:oy P n b o kind .Ht cs g):∃d,stepG P main g w=.go d w #[]/\Next P n b o kind Wd cs .ur d:=by
 obtain⟨c,y,fr,frs,rfl,e,f,a,rfl⟩:=h;refine⟨_,qU f (C.WO b o kind).1 X.UH (by rw[show(U0 P n b o kind).1.fn=_ from(C.WO b o kind).2.2];exact X.nU) j,rfl,?_⟩;obtain⟨k,i,l,m,q⟩:=QY (Wd:=Wd) (x:=v) (C.u1 _ b o kind) e f a trivial;obtain⟨r,s,t⟩:=through X hWd (cs:=cs) (p:=.ur) (C.Yc b o kind) (C.u2 _ b o kind) e l m rfl;exact⟨r,(q cs).trans s,t⟩
include C X in
def Pp{sv:Bool}(h:oy P n b o kind (.t1 sv) cs g):∃f,stepG P main g w=.go f w.later #[]/\Next P n b o kind Wd cs (.gN sv) f:=by
 obtain⟨c,y,fr,frs,rfl,j,i,d,rfl⟩:=h;refine⟨_,Al i (C.X5 b o kind sv) (by simp[T1,cK]) X.nano X.Lw,?_⟩;have e:=i.re (y':={y with ws:=((w.os.mono+w.tick:Nat):Int)}) (.inl rfl) (.inl rfl) (.inr (by cases sv<;>rfl)) (.inl rfl);have a:=d.gS (y':={y with ws:=((w.os.mono+w.tick:Nat):Int)}) (by simpa[T1,cK]using C.p2 b o kind);exact nxt (y:={y with ws:=((w.os.mono+w.tick:Nat):Int)}) (x:=.int .i64 ((w.os.mono+w.tick:Nat):Int)) (C.xP _ b o kind sv) j e a rfl rfl
end
inductive To:Mu.Pc->tj->Prop
 |out:To .out .ue
 |rd (l:Mu.Lo):To (.rd l) (.rd l)
 |sq (old:Mu.Wd) (l:Mu.Lo):To (.sq old l) (.sq old l)
 |sw (old:Mu.Wd) (l:Mu.Lo):To (.sw old l) (.sw old l)
 |kJ (old:Mu.Wd) (l:Mu.Lo):To (.kJ old l) (.kJ old l)
 |t1 (sv:Bool):To (.gN sv) (.t1 sv)
 |gN (sv:Bool):To (.gN sv) (.gN sv)
 |tq:To .tq .tq
 |up (sv:Bool):To (.up sv) (.up sv)
 |add (old:Mu.Wd) (sv:Bool):To (.add old sv) (.add old sv)
 |held:To .held .le
 |jq (old:Mu.Wd):To (.jq old) (.jq old)
 |wq:To .wq .wq
 |give:To .give .give
def lZ(P:adS)(n:zv)(b o:Nat)(kind:adK)(Wd:adr)(cs:adt)(g:adF)(w:World)(main:Bool)(pc:Mu.Pc)(s:Mu.Sh):Prop:=∃c a es q e f,stepG P main g w=.go c a es/\(q,e)∈Mu.mv pc s/\To q f/\Next P n b o kind Wd cs f c/\MW b o w a/\ShM b o a e/\EvM b o es/\∀d,deafBehind d es=d
def bg{b o:Nat}{w w':World}(h:w'.heap=w.heap)(a:mK w.os w'.os/\w'.output=w.output:=by exact⟨mK.refl _,rfl⟩):MW b o w w':=⟨a,.inl h⟩
def wv{b o:Nat}{w:World}{v:Value}(h:flat v=true):MW b o w (w.setCell ⟨b,o,none⟩ v):=⟨⟨.refl _,rfl⟩,.inr ⟨o,v,.inl rfl,h,rfl⟩⟩
def Pq{b o:Nat}{w:World}{v:Value}(h:flat v=true):MW b o w (w.setCell ⟨b,o+1,none⟩ v):=⟨⟨.refl _,rfl⟩,.inr ⟨o+1,v,.inr rfl,h,rfl⟩⟩
def Hz{L K S a b c:Bool}{N d:Nat}:enc L K S N=enc a b c d↔(L=a/\K=b/\S=c/\N=d):=by
 unfold enc;constructor
 . intro h
   cases L<;>cases K<;>cases S<;>cases a<;>cases b<;>cases c<;>simp[Bool.toNat]at h ⊢<;>omega
 simp_all
section
variable{P:adS}{n:zv}(C:gF P n)(X:gJ P n){b o:Nat}{kind:adK}{Wd:adr}{cs:adt}{g:adF}{w:World}{main:Bool}{s:Mu.Sh}
def HA{w:Mu.Wd}:w=Mu.Wd.zero↔(enc w.L w.K w.S w.N=0):=by
 obtain⟨L,K,S,N⟩:=w;rw[xL (by simp)];simp[Mu.Wd.zero]
include C X in
def IF(d:ShM b o w s)(h:oy P n b o kind .iC cs g):lZ P n b o kind Wd cs g w main .iC s:=by
 obtain⟨c,y,fr,frs,rfl,l,j,f,rfl⟩:=h;have q:(uN P n b o kind).1.kind≠.early:=by simp[uN,mQ]
 by_cases k:s.w=Mu.Wd.zero
 . have m:enc s.w.L s.w.K s.w.S s.w.N=0:=HA.1 k
   have r:=d.cw;rw[m]at r;refine⟨_,_,_,.held,{s with w:={Mu.Wd.zero with L:=true}},.le,il j (C.o2 b o kind) q X.kJ (v:=0) (n:=1) (λx h=>h) (λx h=>h) r (d.fz o),by simp[Mu.mv,k],.held,nxt (C.e2 _ b o kind) l j f rfl (.inl rfl),wv rfl,?_,kN (.inl rfl),λ_=>rfl⟩;have:=d.aW {Mu.Wd.zero with L:=true};exact this
 . have m:¬enc s.w.L s.w.K s.w.S s.w.N=0:=λe=>k (HA.2 e)
   refine⟨_,_,_,.rd ⟨false,false,0⟩,s,.rd ⟨false,false,0⟩,iM j (C.o2 b o kind) q X.kJ (old:=0) (n:=1) (λx h=>h) (λx h=>h) d.cw (d.fz o) m,by simp[Mu.mv,k],.rd _,⟨rfl,?_⟩,bg rfl,d,Hu (.inl rfl),λ_=>rfl⟩;obtain⟨p,i,A,B,D⟩:=QY (Wd:=Wd) (x:=.bool false) (C.e3 _ b o kind) l j f rfl;refine⟨_,D cs,RV P n b o kind false false 0,{y with ws:=0},p,i,.inl rfl,l,?_,?_,rfl⟩
   . have a:=A.re (y':={y with ws:=0}) (.inl rfl) (.inl rfl) (.inr rfl) (.inl rfl)
     refine⟨a.fn,a.todo,a.defers,a.mode,a.kind,a.ro,a.size.trans rfl,λt=>?_⟩;have u:=a.env t;by_cases z:t=2
     . subst z;exact u
     . have e:(RV P n b o kind false false 0).1.env=(Wg P n b o kind).1.env.set 2 .IB:=rfl
       rw[e,zA,abp (za z),<-List.getD_eq_getElem?_getD];exact u
   . exact B.gS (by simpa[Wg,cK]using C.p2 b o kind)
def qW{y:Sy}{L K S:Bool}{N:Nat}(h:y.N=N):SR y (.word L K S 0) (.int .i32 (enc L K S N)):=by
 refine⟨?_,?_,by decide⟩
 . simp_all
 omega
def HB{y:Sy}{x:Bool}(h:decide (y.N=0)=x):{Fl.of y with n0:=x}=Fl.of y:=by subst h;rfl
def RZ{y:Sy}{x z:Bool}(h:decide (y.N=0)=x)(h':decide (y.N=1)=z):{Fl.of y with n0:=x,n1:=z}=Fl.of y:=by subst h;subst h';rfl
def QZ{y:Sy}{x:Bool}(h:decide (y.ws=0)=x):{Fl.of y with wz:=x}=Fl.of y:=by subst h;rfl
def UK{y:Sy}{x:Bool}(h:decide (IntKind.i64.wrap (y.tn-y.ws)>1000000)=x):{Fl.of y with tb:=x}=Fl.of y:=by subst h;rfl
def Tx(old:Mu.Wd)(l:Mu.Lo):tj:=if old.L && !old.S then .sq old l else .kJ old l
def Q0(old:Mu.Wd)(l:Mu.Lo):To (Mu.nx old l) (Tx old l):=by
 unfold Mu.nx Tx;split
 . exact .sq _ _
 . exact .kJ _ _
include C in
def HC{y:Sy}{old:Mu.Wd}{l:Mu.Lo}{fr:Frame}{frs:adt}(e:y.ok)(m:y.N=old.N)(p:FR y (HD P n b o kind old.L old.K old.S l.aw l.sv l.it).1 fr)(d:mF y (HD P n b o kind old.L old.K old.S l.aw l.sv l.it).2 frs)(f:Mu.loc (Mu.nx old l)):
 ∃q,tg P Wd (G fr (frs++cs)) q/\oy P n b o kind (Tx old l) cs q:=by
 obtain⟨L,K,S,N⟩:=old;obtain⟨aw,sv,it⟩:=l;unfold Tx;unfold Mu.nx at f;by_cases h:(L && !S)=true
 . simp only[h,aaA]at f ⊢
   simp only[zj,acf]at h;obtain⟨rfl,rfl⟩:=h;obtain⟨c,a,g,i,j⟩:=UJ (Wd:=Wd) (C.e8 (Fl.of y) b o kind K aw sv it) e p d;exact⟨_,j cs,_,y,c,a,⟨rfl,m,rfl,rfl⟩,e,g,i,rfl⟩
 . have r:(L && !S)=false:=by simpa using h
   rw[aay h]at f ⊢
   have k:(aw && !K)=false:=by
    cases aw with
    |false=>rfl
    |true=>have:=f.1 rfl;simp at this;simp[this]
   obtain⟨c,a,g,i,j⟩:=UJ (Wd:=Wd) (C.e9 (Fl.of y) b o kind L K S aw sv it r k) e p d;exact⟨_,j cs,_,y,c,a,⟨rfl,m⟩,e,g,i,rfl⟩
include C X in
def Pr{l:Mu.Lo}(i:ShM b o w s)(hb:s.w.N<=1000)(m:Mu.loc (Mu.nx s.w l))(h:oy P n b o kind (.rd l) cs g):lZ P n b o kind Wd cs g w main (.rd l) s:=by
 obtain⟨c,y,fr,frs,p,q,j,e,rfl⟩:=h;have a:({y with N:=(s.w.N:Int)}:Sy).ok:=⟨⟨by simp,by show(s.w.N:Int)<=1000;omega⟩,q.2⟩
 have key:rC c.1=some (n.tI,pt b o)->c.1.fn=n.RS->(c.1.env.all (λv=>!Hq v)=true)->c.2=Wf P n b o kind->qf P (Fl.of {y with N:=(s.w.N:Int)}) [0,2,3,4,5,6] c (.word s.w.L s.w.K s.w.S 0)=some (HD P n b o kind s.w.L s.w.K s.w.S l.aw l.sv l.it) ->
  lZ P n b o kind Wd cs (G fr (frs++cs)) w main (.rd l) s:=λr t u x z=>by
  have f:=j.re (y':={y with N:=(s.w.N:Int)}) (.inr u) (.inl rfl) (.inl rfl) (.inl rfl);have d:=e.gS (y':={y with N:=(s.w.N:Int)}) (by rw[x];exact C.p2 b o kind);obtain⟨A,k,B,D,E⟩:=UI (Wd:=Wd) z a f d (qW rfl);obtain⟨F,H,I⟩:=HC C (Wd:=Wd) (cs:=cs) (old:=s.w) (l:=l) a rfl B D m;exact⟨_,w,#[],_,s,Tx s.w l,qU j r X.UH (by rw[t];exact X.nS) i.cw,by simp[Mu.mv],Q0 _ _,⟨rfl,F,(E cs).trans H,I⟩,bg rfl,i,fN,λ_=>rfl⟩
 rcases p with rfl|rfl|rfl
 . exact key (C.X2 ..) rfl rfl rfl (C.XT ..)
 . exact key (C.X3 ..) rfl rfl rfl (C.RY ..)
 . exact key (C.X4 ..) rfl rfl rfl (C.XU ..)
include C X in
def BP{y:Sy}{aw sv:Bool}{it:Nat}{fr:Frame}{frs:adt}(f:it<4)(g:y.ok)(e:FR y (DS P n b o kind aw sv it).1 fr)(d:mF y (DS P n b o kind aw sv it).2 frs):
 ∃c,tg P Wd (G fr (frs++cs)) c/\oy P n b o kind (.rd ⟨aw,sv,it+1⟩) cs c:=by
 have a:sk P Wd (G fr (frs++cs)) (G (fr.finish (.tuple #[])) (frs++cs)):=⟨rfl,λmain w _=>uK e (C.o9 b o kind aw sv it) (by simp[DS,cK]) X.uM⟩
 have key:aQ P (Fl.of y) [0,2,3,4,5,47] (DS P n b o kind aw sv it) un=some (Ho P n b o kind aw sv (it+1:Nat)):=by
  have:it=0\/it=1\/it=2\/it=3:=by omega
  rcases this with rfl|rfl|rfl|rfl
  . exact C.FG ..
  . exact C.FH ..
  . exact C.Uy ..
  . exact C.Uz ..
 obtain⟨_,c,h,i⟩:=nxt (P:=P) (n:=n) (b:=b) (o:=o) (kind:=kind) (Wd:=Wd) (cs:=cs) (x:=.tuple #[]) (p:=.rd ⟨aw,sv,it+1⟩) key g e d rfl (.inr (.inl rfl));exact⟨c,a.Af.trans h,i⟩
include C X in
def Ps{old:Mu.Wd}{l:Mu.Lo}(t:ShM b o w s)(J:Mu.loc (.sq old l))(h:oy P n b o kind (.sq old l) cs g):lZ P n b o kind Wd cs g w main (.sq old l) s:=by
 obtain⟨c,y,fr,frs,⟨rfl,k,B,D⟩,q,m,d,rfl⟩:=h;obtain⟨L,K,S,N⟩:=old;obtain⟨aw,sv,it⟩:=l;simp only at k B D m d;subst B;subst D;obtain⟨E,F,M,_,_⟩:=J;simp only at E F M
 have u:(aw && !K)=false:=by
  cases aw with
  |false=>rfl
  |true=>simp[E rfl]
 obtain⟨r,j,v,O,G⟩:=IC (P:=P) (main:=main) (cs:=frs++cs) (w:=w) m (C.o7 b o kind K aw sv it) (by simp[SQ,cK]) X.ID
 have a:j.heap=w.heap:=by rcases G with rfl|rfl<;>rfl
 have e:mK w.os j.os/\j.output=w.output:=by rcases G with rfl|rfl<;>exact⟨.refl _,rfl⟩
 cases r with
 |false=>refine⟨_,j,#[],.kJ ⟨true,K,false,N⟩ ⟨aw,sv,it⟩,s,.kJ _ _,v,by simp[Mu.mv,Mu.hd],.kJ _ _,nxt (C.cQ (Fl.of y) b o kind K aw sv it u) q m d rfl ⟨rfl,k⟩,bg a e,t.heap a,fN,λ_=>rfl⟩
 | true=>
   have f:it<4:=by have:=O rfl;omega
   by_cases z:(!aw && !K && decide (N≠0))=true
   . simp only[zj,acf,KD]at z
     obtain⟨⟨rfl,rfl⟩,p⟩:=z;have:sv=false:=by cases sv with|false=>rfl|true=>exact absurd (F rfl) (by simp)
     subst this;have key:=C.cS (Fl.of y) b o kind it;rw[HB (by rw[k];simpa using p)]at key
     exact⟨_,j,#[],.sw ⟨true,false,false,N⟩ ⟨false,false,it⟩,s,.sw _ _,v,by simp[Mu.mv,Mu.hd,f,p],.sw _ _,nxt key q m d rfl ⟨rfl,k,rfl,rfl,rfl,rfl,rfl⟩,bg a e,t.heap a,fN,λ_=>rfl⟩
   . have i:(!aw && !K && decide (N≠0))=false:=by simpa using z
     have A:(!aw && !K && !decide (y.N=0))=false:=by
      rw[k]
      by_cases H:N=0
      . simp[H]
      . simp[H]at i ⊢;exact i
     have key:=C.Ux (Fl.of y) b o kind (decide (y.N=0)) K aw sv it A;rw[HB rfl]at key;obtain⟨Q,I,R,T,U⟩:=QY (Wd:=Wd) (x:=.bool true) key q m d rfl;obtain⟨V,W,Y⟩:=BP C X (Wd:=Wd) (cs:=cs) f q R T;refine⟨_,j,#[],.rd ⟨aw,sv,it+1⟩,s,.rd _,v,?_,.rd _,⟨rfl,V,(U cs).trans W,Y⟩,bg a e,t.heap a,fN,λ_=>rfl⟩
     simp only[Mu.mv,Mu.hd,f,i];simp
include C X in
def Pt{old:Mu.Wd}{l:Mu.Lo}(f:ShM b o w s)(V:Mu.loc (.sw old l))(h:oy P n b o kind (.sw old l) cs g):lZ P n b o kind Wd cs g w main (.sw old l) s:=by
 obtain⟨c,y,fr,frs,⟨rfl,E,F,G,H,I,J⟩,m,i,d,rfl⟩:=h;obtain⟨L,K,S,N⟩:=old;obtain⟨aw,sv,it⟩:=l;simp only at E F G H I J i d;subst F;subst G;subst H;subst I;subst J;have j:it<4:=V.2.2.2.2.2;have M:(SW P n b o kind it).1.kind≠.early:=by simp[SW,cK]
 have a:∀q:Bool,∀x,SR y (.word true q false 0) x->x=.int .i32 (enc true q false N):=λq x W=>by have:=W.1;rw[E,acF]at this;exact this
 by_cases p:s.w=⟨true,false,false,N⟩
 . have O:=f.cw
   rw[p]at O;obtain⟨r,k,t,u,v⟩:=QY (Wd:=Wd) (x:=.bool true) (C.eL (Fl.of y) b o kind true it) m i d rfl;obtain⟨z,A,B⟩:=BP C X (Wd:=Wd) (cs:=cs) j m t u;refine⟨_,_,_,.rd ⟨true,false,it+1⟩,{s with w:=⟨true,true,false,N⟩},.rd _,il i (C.o8 b o kind it) M X.kJ (a false) (a true) O (f.fz o),by simp[Mu.mv,p],.rd _,⟨rfl,z,(v cs).trans A,B⟩,wv rfl,f.aW ⟨true,true,false,N⟩,kN (.inl rfl),λ_=>rfl⟩
 . have D:¬enc s.w.L s.w.K s.w.S s.w.N=enc true false false N:=λe=>p (by
    obtain⟨Q,R,T,U⟩:=Hz.1 e;obtain⟨⟨L,K,S,Y⟩,ms⟩:=s;simp only at Q R T U;subst Q;subst R;subst T;subst U;rfl)
   obtain⟨r,k,t,u,v⟩:=QY (Wd:=Wd) (x:=.bool false) (C.eL (Fl.of y) b o kind false it) m i d rfl;obtain⟨z,A,B⟩:=BP C X (Wd:=Wd) (cs:=cs) j m t u;exact⟨_,_,_,.rd ⟨false,false,it+1⟩,s,.rd _,iM i (C.o8 b o kind it) M X.kJ (a false) (a true) f.cw (f.fz o) D,by simp[Mu.mv,p],.rd _,⟨rfl,z,(v cs).trans A,B⟩,bg rfl,f,Hu (.inl rfl),λ_=>rfl⟩
end
section
variable{P:adS}{n:zv}(C:gF P n)(X:gJ P n){b o:Nat}{kind:adK}{Wd:adr}{cs:adt}{g:adF}{w:World}{main:Bool}{s:Mu.Sh}
def Q1{a c:Mu.Wd}:a=c↔enc a.L a.K a.S a.N=enc c.L c.K c.S c.N:=by obtain⟨L,K,S,N⟩:=a;obtain⟨b,d,e,f⟩:=c;rw[Hz];simp
include C X in
def LC{old:Mu.Wd}{l:Mu.Lo}(f:ShM b o w s)(E:Mu.loc (.kJ old l))(h:oy P n b o kind (.kJ old l) cs g):lZ P n b o kind Wd cs g w main (.kJ old l) s:=by
 obtain⟨c,y,fr,frs,⟨rfl,u⟩,t,j,a,rfl⟩:=h;obtain⟨L,K,S,N⟩:=old;obtain⟨aw,sv,it⟩:=l;simp only at u j a
 have k:(aw && !K)=false:=by
  cases aw with
  |false=>rfl
  |true=>have:=E.1 rfl;simp at this;simp[this]
 have A:(Dh P n b o kind L K S aw sv it).1.kind≠.early:=by simp[Dh,cK]
 have hold:∀x,SR y (.word L K S 0) x->x=.int .i32 (enc L K S N):=λx v=>by have:=v.1;rw[u,acF]at this;exact this
 have i:∀x,SR y (Pn L K S aw sv) x->x=.int .i32 (enc (Mu.qc ⟨L,K,S,N⟩ ⟨aw,sv,it⟩).L (Mu.qc ⟨L,K,S,N⟩ ⟨aw,sv,it⟩).K (Mu.qc ⟨L,K,S,N⟩ ⟨aw,sv,it⟩).S (Mu.qc ⟨L,K,S,N⟩ ⟨aw,sv,it⟩).N):=λx v=>by have:=v.1;rw[u]at this;rw[this];simp only[Mu.qc];congr 2;split<;>simp
 by_cases p:s.w=⟨L,K,S,N⟩
 . have B:=f.cw
   rw[p]at B;have m:=il (main:=main) (cs:=frs++cs) j (C.WM b o kind L K S aw sv it) A X.kJ hold i B (f.fz o)
   by_cases d:(L||S)=true
   . have q:((.gN sv:Mu.Pc),({s with w:=Mu.qc ⟨L,K,S,N⟩ ⟨aw,sv,it⟩}:Mu.Sh))∈Mu.mv (.kJ ⟨L,K,S,N⟩ ⟨aw,sv,it⟩) s:=by
      simp only[Mu.mv,k,LK,Rp,p,aaA,d,lb]
     by_cases r:y.ws=0
     . have key:=C.UA (Fl.of y) b o kind L K S aw sv it d
       rw[QZ (by simpa using r)]at key
       exact⟨_,_,_,_,_,.t1 sv,m,q,.t1 _,nxt key t j a rfl rfl,wv rfl,f.aW _,kN (.inl rfl),λ_=>rfl⟩
     . have key:=C.UB (Fl.of y) b o kind L K S aw sv it d
       rw[QZ (by simpa using r)]at key
       exact⟨_,_,_,_,_,.gN sv,m,q,.gN _,nxt key t j a rfl rfl,wv rfl,f.aW _,kN (.inl rfl),λ_=>rfl⟩
   . have D:(L||S)=false:=by simpa using d
     have F:L=false:=by cases L<;>simp_all
     have G:S=false:=by cases S<;>simp_all
     subst F;subst G;refine⟨_,_,_,.held,{s with w:=Mu.qc ⟨false,K,false,N⟩ ⟨aw,sv,it⟩},.le,m,?_,.held,nxt (C.qg (Fl.of y) b o kind K aw sv it) t j a rfl (.inr rfl),wv rfl,f.aW _,kN (.inl rfl),λ_=>rfl⟩
     simp only[Mu.mv,k,LK,Rp,p,aaA,Bool.or_self,lb]
 . have z:¬enc s.w.L s.w.K s.w.S s.w.N=enc L K S N:=λe=>p (Q1.2 e)
   refine⟨_,_,_,.rd ⟨aw,sv,it⟩,s,.rd _,iM j (C.WM b o kind L K S aw sv it) A X.kJ hold i f.cw (f.fz o) z,?_,.rd _,nxt (C.pR (Fl.of y) b o kind L K S aw sv it) t j a rfl (.inr (.inr rfl)),bg rfl,f,Hu (.inl rfl),λ_=>rfl⟩
   simp only[Mu.mv,k,LK,Rp,p,lb]
include C X in
def IG{sv:Bool}(f:ShM b o w s)(j:s.ms≠0)(h:oy P n b o kind (.gN sv) cs g):lZ P n b o kind Wd cs g w main (.gN sv) s:=by
 obtain⟨c,y,fr,frs,rfl,k,i,d,rfl⟩:=h;have a:=ti (main:=main) (cs:=frs++cs) (w:=w) (n:=(s.ms:Int)) i (C.WN b o kind sv) (by simp[PK,cK]) X.FE f.cs (by omega) (f.fz _);have e:((s.ms:Int)-1)=((s.ms-1:Nat):Int):=by omega
 rw[e]at a;cases sv with
 |true=>exact⟨_,_,_,.up true,{s with ms:=s.ms-1},.up true,a,by simp[Mu.mv,j],.up _,nxt (C.UF (Fl.of y) b o kind) k i d rfl rfl,Pq rfl,f.FI _,wM,λ_=>rfl⟩
 |false=>exact⟨_,_,_,.tq,{s with ms:=s.ms-1},.tq,a,by simp[Mu.mv,j],.tq,nxt (C.UG (Fl.of y) b o kind) k i d rfl rfl,Pq rfl,f.FI _,wM,λ_=>rfl⟩
include C X in
def Dk{sv:Bool}(d:ShM b o w s)(e:s.ms=0)(h:oy P n b o kind (.gN sv) cs g):stepG P main g w=.go {g with status:=.blocked} w #[]:=by obtain⟨c,y,fr,frs,rfl,j,f,i,rfl⟩:=h;have a:=d.cs;rw[e]at a;exact Ak f (C.WN b o kind sv) X.FE a
include C X in
def Pu(j:ShM b o w s)(h:oy P n b o kind .tq cs g):lZ P n b o kind Wd cs g w main .tq s:=by
 obtain⟨c,y,fr,frs,rfl,k,i,d,rfl⟩:=h;have e:=Al (P:=P) (main:=main) (cs:=frs++cs) (w:=w) i (C.X6 b o kind) (by simp[TQ,cK]) X.nano X.Lw;have f:=i.re (y':={y with tn:=((w.os.mono+w.tick:Nat):Int)}) (.inl rfl) (.inl rfl) (.inl rfl) (.inr rfl);have a:=d.gS (y':={y with tn:=((w.os.mono+w.tick:Nat):Int)}) (by simpa[TQ,cK]using C.p2 b o kind);have key:=C.uv (Fl.of {y with tn:=((w.os.mono+w.tick:Nat):Int)}) b o kind (decide (IntKind.i64.wrap (((w.os.mono+w.tick:Nat):Int)-y.ws)>1000000));rw[UK rfl]at key;refine⟨_,_,_,.up (decide (IntKind.i64.wrap (((w.os.mono+w.tick:Nat):Int)-y.ws)>1000000)),s,.up _,e,?_,.up _,nxt (y:={y with tn:=((w.os.mono+w.tick:Nat):Int)}) key k f a rfl rfl,bg rfl ⟨⟨w.tick,rfl⟩,rfl⟩,j.heap rfl,fN,λ_=>rfl⟩;cases decide (IntKind.i64.wrap (((w.os.mono+w.tick:Nat):Int)-y.ws)>1000000)<;>simp[Mu.mv]
include C X in
def Pv{sv:Bool}(m:ShM b o w s)(hb:s.w.N<=1000)(v:∀q s',(q,s')∈Mu.mv (.up sv) s->Mu.loc q)(h:oy P n b o kind (.up sv) cs g):lZ P n b o kind Wd cs g w main (.up sv) s:=by
 obtain⟨c,y,fr,frs,rfl,A,x,p,rfl⟩:=h;have f:({y with N:=(s.w.N:Int)}:Sy).ok:=⟨⟨by simp,by show(s.w.N:Int)<=1000;omega⟩,A.2⟩
 have i:=x.re (y':={y with N:=(s.w.N:Int)}) (.inr rfl) (.inl rfl) (.inl rfl) (.inl rfl)
 have e:=p.gS (y':={y with N:=(s.w.N:Int)}) (by simpa[UP,cK]using C.p2 b o kind)
 have j:=qU (main:=main) (cs:=frs++cs) x (C.X7 b o kind sv) X.UH X.nS m.cw
 by_cases k:s.w.S=true
 . have r:(s.w.L||s.w.K||decide (s.w.N=0))=false:=by
    cases B:(s.w.L||s.w.K||decide (s.w.N=0))with
    |false=>rfl
    |true=>exact(v .bad s (by simp[Mu.mv,k,B])).elim
   have a:((.add s.w sv:Mu.Pc),s)∈Mu.mv (.up sv) s:=by simp[Mu.mv,k,r]
   simp only[acn,abi]at r;obtain⟨⟨D,E⟩,t⟩:=r;have key:=C.Po (Fl.of {y with N:=(s.w.N:Int)}) b o kind sv (decide (s.w.N=1))
   rw[RZ (by show decide ((s.w.N:Int)=0)=false;simpa using t) (by show decide ((s.w.N:Int)=1)=decide (s.w.N=1);rw[acJ,aca,aca];omega)]at key
   have u:SR {y with N:=(s.w.N:Int)} (.word false false true 0) (.int .i32 (enc s.w.L s.w.K s.w.S s.w.N)):=by rw[D,E,k];exact qW rfl
   exact⟨_,w,#[],_,s,.add s.w sv,j,a,.add _ _,nxt (y:={y with N:=(s.w.N:Int)}) key f i e u rfl,bg rfl,m,fN,λ_=>rfl⟩
 . have d:s.w.S=false:=by simpa using k
   have a:(Mu.nx s.w ⟨true,sv,0⟩,s)∈Mu.mv (.up sv) s:=by simp[Mu.mv,d]
   have u:SR {y with N:=(s.w.N:Int)} (.word s.w.L s.w.K false 0) (.int .i32 (enc s.w.L s.w.K s.w.S s.w.N)):=by rw[d];exact qW rfl
   obtain⟨F,z,G,H,I⟩:=UI (Wd:=Wd) (C.zw (Fl.of {y with N:=(s.w.N:Int)}) b o kind s.w.L s.w.K sv) f i e u
   obtain⟨J,M,O⟩:=HC C (Wd:=Wd) (cs:=cs) (old:=s.w) (l:=⟨true,sv,0⟩) f rfl (by rw[d];exact G) (by rw[d];exact H) (v _ _ a)
   exact⟨_,w,#[],_,s,Tx s.w ⟨true,sv,0⟩,j,a,Q0 _ _,⟨rfl,J,(I cs).trans M,O⟩,bg rfl,m,fN,λ_=>rfl⟩
include C X in
def LG{old:Mu.Wd}{sv:Bool}(d:ShM b o w s)(hb:s.w.N<=1000)(j:s.w.L=false)(k:s.w.S=true)(q:s.w.N≠0)(h:oy P n b o kind (.add old sv) cs g):lZ P n b o kind Wd cs g w main (.add old sv) s:=by
 obtain⟨c,y,fr,frs,rfl,l,i,f,rfl⟩:=h;have a:=qe (main:=main) (cs:=frs++cs) (w:=w) i (C.X8 b o kind _) (by simp[AD,cK]) X.add (λx h=>h) d.cw (d.fz _)
 have e:IntKind.i32.wrap (enc s.w.L s.w.K s.w.S s.w.N+(if !sv||decide (old.N=1)then -11 else -7))=enc true s.w.K (s.w.S && !(!sv||decide (old.N=1))) (s.w.N-1:Nat):=by
  rw[j,k];have m:((s.w.N-1:Nat):Int)=(s.w.N:Int)-1:=by omega
  rw[m];generalize (!sv||decide (old.N=1))=x;have p:=lX (L:=false) (K:=s.w.K) (S:=true) (N:=(s.w.N:Int));rw[jg (by split<;>omega) (by split<;>omega)];unfold enc;cases x<;>cases s.w.K<;>simp[Bool.toNat]<;>omega
 rw[e]at a;exact⟨_,_,_,.held,{s with w:={s.w with L:=true,S:=s.w.S && !(!sv||decide (old.N=1)),N:=s.w.N-1}},.le,a,by simp[Mu.mv],.held,nxt (C.wI (Fl.of y) b o kind _) l i f trivial (.inr rfl),wv rfl,d.aW {s.w with L:=true,S:=s.w.S && !(!sv||decide (old.N=1)),N:=s.w.N-1},kN (.inl rfl),λ_=>rfl⟩
include C X in
def IH(t:ShM b o w s)(hb:s.w.N<=1000)(q:s.w.L=true)(h:oy P n b o kind .held cs g):lZ P n b o kind Wd cs g w main .held s:=by
 obtain⟨c,y,fr,frs,rfl,A,z,u,rfl⟩:=h;have k:({y with N:=(s.w.N:Int)}:Sy).ok:=⟨⟨by simp,by show(s.w.N:Int)<=1000;omega⟩,A.2⟩
 have l:=z.re (y':={y with N:=(s.w.N:Int)}) (.inr rfl) (.inl rfl) (.inl rfl) (.inl rfl)
 have d:=u.gS (y':={y with N:=(s.w.N:Int)}) (by simpa[sm,pF]using(C.p3 b o kind).1)
 have i:=qe (main:=main) (cs:=frs++cs) (w:=w) z (C.WQ b o kind) (by simp[sm,pF]) X.add (λx h=>h) t.cw (t.fz _)
 have e:IntKind.i32.wrap (enc s.w.L s.w.K s.w.S s.w.N+-1)=enc false s.w.K s.w.S s.w.N:=by
  rw[q];have B:=lX (L:=true) (K:=s.w.K) (S:=s.w.S) (N:=(s.w.N:Int));rw[jg (by omega) (by omega)]
  unfold enc;simp[Bool.toNat];omega
 rw[e]at i;have m:=t.aW {s.w with L:=false}
 have p:SR {y with N:=(s.w.N:Int)} (.word false s.w.K s.w.S 0) (.int .i32 (enc false s.w.K s.w.S s.w.N)):=qW rfl
 by_cases r:s.w.S=true
 . have key:=C.XV (Fl.of {y with N:=(s.w.N:Int)}) b o kind (decide ((s.w.N:Int)=0)) s.w.K
   rw[r]at p;exact⟨_,_,_,.give,{s with w:={s.w with L:=false}},.give,i,by simp[Mu.mv,q,r,Mu.Wd.zero],.give,nxt (y:={y with N:=(s.w.N:Int)}) key k l d (by rw[r];exact p) (.inr rfl),wv rfl,m,kN (.inl rfl),λ_=>rfl⟩
 . have f:s.w.S=false:=by simpa using r
   by_cases v:(decide ((s.w.N:Int)=0)||s.w.K)=true
   . have key:=C.u5 (Fl.of {y with N:=(s.w.N:Int)}) b o kind (decide ((s.w.N:Int)=0)) s.w.K v
     refine⟨_,_,_,.out,{s with w:={s.w with L:=false}},.ue,i,?_,.out,nxt (y:={y with N:=(s.w.N:Int)}) key k l d (by rw[f]at p ⊢;exact p) rfl,wv rfl,m,kN (.inl rfl),λ_=>rfl⟩
     have a:(decide (s.w.N=0)||s.w.K)=true:=by simpa using v
     simp only[Mu.mv,q,abX,Rp,lb,zH,and_true];split
     . rfl
     . simp only
   . have a:(decide ((s.w.N:Int)=0)||s.w.K)=false:=by simpa using v
     simp only[acn,abi]at a;have j:s.w.N≠0:=by have:=a.1;omega
     have key:=C.XW (Fl.of {y with N:=(s.w.N:Int)}) b o kind
     rw[HB (by show decide ((s.w.N:Int)=0)=false;simpa using j)]at key
     rw[a.2,f]at p;refine⟨_,_,_,.jq {s.w with L:=false},{s with w:={s.w with L:=false}},.jq _,i,?_,.jq _,nxt (y:={y with N:=(s.w.N:Int)}) key k l d (by rw[a.2,f];exact p) ⟨rfl,rfl,rfl,a.2,f,j⟩,wv rfl,m,kN (.inl rfl),λ_=>rfl⟩
     have D:({s.w with L:=false}:Mu.Wd)≠Mu.Wd.zero:=λe=>j (by have:=congrArg Mu.Wd.N e;exact this)
     simp[Mu.mv,q,f,j,a.2,Mu.Wd.zero]
include C X in
def II{old:Mu.Wd}(d:ShM b o w s)(h:oy P n b o kind (.jq old) cs g):lZ P n b o kind Wd cs g w main (.jq old) s:=by
 obtain⟨c,y,fr,frs,⟨rfl,k,q,r,t,l⟩,u,i,f,rfl⟩:=h;obtain⟨L,K,S,N⟩:=old;simp only at k q r t l;subst q;subst r;subst t;have v:(UC P n b o kind).1.kind≠.early:=by simp[UC,vJ]
 have hold:∀x,SR y wf x->x=.int .i32 (enc false false false N):=λx m=>by have:=m.1;rw[k,acF]at this;exact this
 have a:∀x,SR y (.word false true false (-1)) x->x=.int .i32 (enc false true false (N-1:Nat)):=λx m=>by have:=m.1;rw[k]at this;rw[this];congr 2;omega
 by_cases j:s.w=⟨false,false,false,N⟩
 . have z:=d.cw
   rw[j]at z;exact⟨_,_,_,.give,{s with w:=⟨false,true,false,N-1⟩},.give,il i (C.WR b o kind) v X.kJ hold a z (d.fz o),by simp[Mu.mv,j],.give,nxt (C.XX (Fl.of y) b o kind) u i f rfl (.inl rfl),wv rfl,d.aW ⟨false,true,false,N-1⟩,kN (.inl rfl),λ_=>rfl⟩
 . have p:¬enc s.w.L s.w.K s.w.S s.w.N=enc false false false N:=λe=>j (Q1.2 e)
   exact⟨_,_,_,.wq,s,.wq,iM i (C.WR b o kind) v X.kJ hold a d.cw (d.fz o) p,by simp[Mu.mv,j],.wq,nxt (C.XY (Fl.of y) b o kind) u i f rfl rfl,bg rfl,d,Hu (.inl rfl),λ_=>rfl⟩
include C X in
def LH(k:ShM b o w s)(hb:s.w.N<=1000)(h:oy P n b o kind .wq cs g):lZ P n b o kind Wd cs g w main .wq s:=by
 obtain⟨c,y,fr,frs,rfl,x,v,l,rfl⟩:=h;have e:({y with N:=(s.w.N:Int)}:Sy).ok:=⟨⟨by simp,by show(s.w.N:Int)<=1000;omega⟩,x.2⟩
 have f:=v.re (y':={y with N:=(s.w.N:Int)}) (.inr rfl) (.inl rfl) (.inl rfl) (.inl rfl)
 have d:=l.gS (y':={y with N:=(s.w.N:Int)}) (by simpa[OX,vJ]using C.p4 b o kind)
 have i:=qU (main:=main) (cs:=frs++cs) v (C.Yf b o kind) X.UH X.nV k.cw;have m:SR {y with N:=(s.w.N:Int)} (.word s.w.L s.w.K s.w.S 0) (.int .i32 (enc s.w.L s.w.K s.w.S s.w.N)):=qW rfl
 by_cases p:(decide ((s.w.N:Int)=0)||s.w.L||s.w.K||s.w.S)=true
 . have key:=C.u7 (Fl.of {y with N:=(s.w.N:Int)}) b o kind (decide ((s.w.N:Int)=0)) s.w.L s.w.K s.w.S p
   have a:(decide (s.w.N=0)||s.w.L||s.w.K||s.w.S)=true:=by simpa using p
   exact⟨_,w,#[],.out,s,.ue,i,by simp only[Mu.mv,a,aaA,lb],.out,nxt (y:={y with N:=(s.w.N:Int)}) key e f d m rfl,bg rfl,k,fN,λ_=>rfl⟩
 . have a:(decide ((s.w.N:Int)=0)||s.w.L||s.w.K||s.w.S)=false:=by simpa using p
   have q:(decide (s.w.N=0)||s.w.L||s.w.K||s.w.S)=false:=by rw[<-a];simp
   simp only[acn,abi]at a;obtain⟨⟨⟨z,r⟩,t⟩,u⟩:=a;have j:s.w.N≠0:=by omega
   have key:=C.XZ (Fl.of {y with N:=(s.w.N:Int)}) b o kind
   rw[HB (by show decide ((s.w.N:Int)=0)=false;simpa using j)]at key
   rw[r,t,u]at m;exact⟨_,w,#[],.jq s.w,s,.jq _,i,by simp only[Mu.mv,q,LK,Rp,lb],.jq _,nxt (y:={y with N:=(s.w.N:Int)}) key e f d (by rw[r,t,u];exact m) ⟨rfl,rfl,r,t,u,j⟩,bg rfl,k,fN,λ_=>rfl⟩
include C X in
def IJ(d:ShM b o w s)(l:s.ms<=1000)(h:oy P n b o kind .give cs g):lZ P n b o kind Wd cs g w main .give s:=by
 obtain⟨c,y,fr,frs,k,j,i,f,rfl⟩:=h;have e:IntKind.u32.wrap ((s.ms:Int)+1)=((s.ms+1:Nat):Int):=by rw[IntKind.wrap_u32];omega
 rcases k with rfl|rfl
 . have a:=oJ (main:=main) (cs:=frs++cs) (w:=w) i (C.WT b o kind) (by simp[G7,vJ]) X.oO d.cs (d.fz _)
   rw[e]at a;exact⟨_,_,_,.out,{s with ms:=s.ms+1},.ue,a,by simp[Mu.mv],.out,nxt (C.u8 (Fl.of y) b o kind) j i f rfl rfl,Pq rfl,d.FI _,wM,λ_=>rfl⟩
 . have a:=oJ (main:=main) (cs:=frs++cs) (w:=w) i (C.WU b o kind) (by simp[G9,vJ]) X.oO d.cs (d.fz _)
   rw[e]at a;exact⟨_,_,_,.out,{s with ms:=s.ms+1},.ue,a,by simp[Mu.mv],.out,nxt (C.u9 (Fl.of y) b o kind) j i f rfl rfl,Pq rfl,d.FI _,wM,λ_=>rfl⟩
end

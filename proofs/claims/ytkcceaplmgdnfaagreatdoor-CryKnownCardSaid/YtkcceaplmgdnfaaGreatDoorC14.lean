import Derived.Conc.ClockLaws
import Derived.Conc.MarkLaws
import Derived.Conc.AtomicLaws2
import Derived.Conc.SmallLaws
import Derived.Laws.LoneSync
import Derived.Test.YtkcceaplmgdnfaaGreatDoorC13
set_option linter.all false
namespace Go.bu
open Go.Conc
def aU(s:iX):Option (FuncId × List SV):=
 match s.mode,s.todo with
 | .run, .inRegion ops (i::_)::_=>match ops[i]? with
   | some o=>match ye ops s.env o with
     | some true=>match o.op with
       | .call c=>match c.callee with
         |.value (.func f)=>some (f,c.args.toList.map (sv s.env))
         |_=>none
       |_=>none
     |_=>none
   |none=>none
 |_,_=>none
def pq(s:iX):Option (TypeId × SV):=
 match s.mode,s.todo with
 | .run,.inRegion ops (i::_)::_=>match ops[i]? with
   | some o=>match ye ops s.env o with
     | some true=>match o.op with
       |.load t x=>some (t,sv s.env x)
       |_=>none
     |_=>none
   |none=>none
 |_,_=>none
structure Ext(P:Program)(f:FuncId)(e:Array Value->Sem Value):Prop where
 ex:∃fn,P.funcs[f]?=some fn/\(fn.name==  "runtime.NumGoroutine")=false/\fn.body.isNone=true/\Extern.findNext fn=none/\Extern.find fn=some e
theorem cT {y:Sy} {s:iX} {fr:Frame} {f:FuncId} {svs:List SV} (j:FR y s fr) (h:aU s=some (f,svs)) :
 ∃ ops i rest kk o as a,ops[i]? = some o∧Region.wanted o (yielded ops fr.tmps)=true∧o.op = .call { callee:=.value (.func f),args:=as,argTypes:=a }∧svs=as.toList.map (sv s.env) ∧
   fr=(fr.at ⟨fr.tmps,fr.defers⟩ (.inRegion ops (i :: rest) :: kk))∧∀ v,fr.at ((⟨fr.tmps,fr.defers⟩:Act).put o.dst v) (.inRegion ops rest :: kk)=fr.finish v:=by
 have d:=j;obtain⟨fn,tmps,todo,defs,mode,kind,ro⟩:=fr;obtain⟨n,e,p,b,q,k,r,t⟩:=j;simp only at n e p b q k r t;subst k;unfold aU at h;split at h
 . rename_i ops i rest kk u w
   rw[u] at b;rw[w] at e;have b:mode = .run:=b;subst b;subst e;split at h
   . rename_i o l
     split at h
     . rename_i x
       split at h
       . rename_i c z
         split at h
         . rename_i g m
           simp only[Option.some.injEq,Prod.mk.injEq] at h;obtain⟨rfl,rfl⟩:=h;obtain⟨callee,args,a⟩:=c;simp only at m;subst m;refine⟨ops,i,rest,kk,o,args,a,l,nZ d x,z,rfl,rfl,fun v=>?_⟩
           simp only[Frame.finish,l,Option.bind_some,Act.put,Frame.at]
           grind
         . cases h
       . cases h
     . cases h
   . cases h
 . cases h
section
variable{P:Program}{main:Bool}{y:Sy}{s:iX}{fr:Frame}{f:FuncId}{svs:List SV}{cs:List Frame}{w:World}
theorem Be{fr:Frame}(x:Operand):(⟨fr.tmps,fr.defers⟩:Act).eval x=fr.eval x:=by cases x<;>rfl
theorem zt {as:Array Operand} (b:FR y s fr) {svs:List SV} (h:svs=as.toList.map (sv s.env)):∀ (j:Nat) (v:SV),svs[j]? = some v->∃ x,(as.map (⟨fr.tmps,fr.defers⟩:Act).eval)[j]? = some x∧SR y v x:=fun j v a=>by
 subst h;rw[List.getElem?_map,Array.getElem?_toList] at a;obtain⟨x,c,rfl⟩:=Option.map_eq_some_iff.1 a;exact⟨fr.eval x,by simp[c,Be],b.sv x⟩
theorem dV {m:Mark} (d:∀ g,m ≠ .extern g) (c:FR y s fr) (h:aU s=some (f,svs)) (e:s.kind ≠ .early) (j:Ext P f (fun _=>do mark m;pure Extern.Race.none_)):stepG P main (G fr cs) w = .go (G (fr.finish (.tuple #[])) cs) w #[⟨.mark m,false,true⟩]:=by
 obtain⟨ops,i,rest,kk,o,as,k,l,n,p,x,z,A⟩:=cT c h;obtain⟨fn,q,r,t,u,v⟩:=j.ex;have:=stepG_mark0 (P:=P) (main:=main) (b:=fr) (a:=⟨fr.tmps,fr.defers⟩) (kk:=kk) (cs:=cs) (w:=w) (rest:=rest) m d l n (by rw[c.kind];exact e) p q r t u v
 grind
theorem ew {mk:Addr->Mark} (j:∀ ad g,mk ad ≠ .extern g) {ad:Addr} (d:FR y s fr) (h:aU s=some (f,[.lit (.pointer (some ad))])) (k:s.kind ≠ .early) (l:Ext P f (Extern.Race.marked mk)):stepG P main (G fr cs) w = .go (G (fr.finish (.tuple #[])) cs) w #[⟨.mark (mk ad),false,true⟩]:=by
 obtain⟨ops,i,rest,kk,o,as,m,n,p,q,r,B,C⟩:=cT d h;obtain⟨fn,t,u,v,z,A⟩:=l.ex;obtain⟨x,e,c⟩:=zt d r 0 _ rfl;have c:x = .pointer (some ad):=c;rw[c] at e;have:=stepG_markAt (P:=P) (main:=main) (b:=fr) (a:=⟨fr.tmps,fr.defers⟩) (kk:=kk) (cs:=cs) (w:=w) (rest:=rest) mk j n p (by rw[d.kind];exact k) q t u v z A e
 grind
theorem Bf {as:Array Operand} {a b c:SV} (h:[a,b,c]=as.toList.map (sv s.env)):∃ x z u,as=#[x,z,u]∧sv s.env x=a∧sv s.env z=b∧sv s.env u=c:=by
 obtain⟨l⟩:=as
 match l,h with
 | [x,z,u],h=>grind
theorem IQ {as:Array Operand} {a b:SV} (h:[a,b]=as.toList.map (sv s.env)):∃ x z,as=#[x,z]∧sv s.env x=a∧sv s.env z=b:=by
 obtain⟨l⟩:=as
 match l,h with
 | [x,z],h=>grind
theorem IS {as:Array Operand} {a:SV} (h:[a]=as.toList.map (sv s.env)):∃ x,as=#[x]∧sv s.env x=a:=by
 obtain⟨l⟩:=as
 match l,h with
 | [x],h=>grind
theorem gO(b:FR y s fr){x:Operand}{a:SV}(h:sv s.env x=a):SR y a ((⟨fr.tmps,fr.defers⟩:Act).eval x):=by subst h;rw[Be];exact b.sv x
theorem fT {k:IntKind} {ad:Addr} {a b:SV} {v n:Int} (c:FR y s fr) (h:aU s=some (f,[.lit (.pointer (some ad)),a,b])) (e:s.kind ≠ .early) (g:Ext P f (Extern.Atomic.casT (.int k)))
 (j:∀ x,SR y a x->x = .int k v) (hb:∀ x,SR y b x->x = .int k n) (l:w.cell? ad=some (.int k v)) (m:w.frozen? ad=false) :
 stepG P main (G fr cs) w = .go (G (fr.finish (.bool true)) cs) (w.setCell ad (.int k n)) #[⟨.cell ad,false,true⟩,⟨.cell ad,true,true⟩]:=by
 obtain⟨ops,i,rest,kk,o,as,p,q,r,t,A,J,K⟩:=cT c h;obtain⟨fn,B,C,D,E,F⟩:=g.ex;obtain⟨x,z,u,rfl,H,d,I⟩:=Bf A;have:=stepG_cas_hit (P:=P) (main:=main) (b:=fr) (a:=⟨fr.tmps,fr.defers⟩) (kk:=kk) (cs:=cs) (w:=w) (rest:=rest) q r (by rw[c.kind];exact e) t B C D E k F (gO c H) (j _ (gO c d)) (hb _ (gO c I)) l m
 grind
theorem gE {k:IntKind} {ad:Addr} {a b:SV} {v old n:Int} (c:FR y s fr) (h:aU s=some (f,[.lit (.pointer (some ad)),a,b])) (g:s.kind ≠ .early) (j:Ext P f (Extern.Atomic.casT (.int k)))
 (l:∀ x,SR y a x->x = .int k old) (hb:∀ x,SR y b x->x = .int k n) (m:w.cell? ad=some (.int k v)) (p:w.frozen? ad=false) (d : ¬ v=old) :
 stepG P main (G fr cs) w = .go (G (fr.finish (.bool false)) cs) w #[⟨.cell ad,false,true⟩]:=by
 obtain⟨ops,i,rest,kk,o,as,q,r,t,A,B,K,L⟩:=cT c h;obtain⟨fn,C,D,E,F,H⟩:=j.ex;obtain⟨x,z,u,rfl,I,e,J⟩:=Bf B;have:=stepG_cas_miss (P:=P) (main:=main) (b:=fr) (a:=⟨fr.tmps,fr.defers⟩) (kk:=kk) (cs:=cs) (w:=w) (rest:=rest) r t (by rw[c.kind];exact g) A C D E F k H (gO c I) (l _ (gO c e)) (hb _ (gO c J)) m p d
 grind
theorem n8 {k:IntKind} {ad:Addr} {a:SV} {v d:Int} (c:FR y s fr) (h:aU s=some (f,[.lit (.pointer (some ad)),a])) (g:s.kind ≠ .early) (j:Ext P f (Extern.Atomic.update (Op.intArith .add) k true))
 (l:∀ x,SR y a x->x = .int k d) (m:w.cell? ad=some (.int k v)) (n:w.frozen? ad=false) :
 stepG P main (G fr cs) w = .go (G (fr.finish (.int k (k.wrap (v+d)))) cs) (w.setCell ad (.int k (k.wrap (v+d)))) #[⟨.cell ad,false,true⟩,⟨.cell ad,true,true⟩]:=by
 obtain⟨ops,i,rest,kk,o,as,p,q,r,t,u,H,I⟩:=cT c h;obtain⟨fn,A,B,C,D,E⟩:=j.ex;obtain⟨x,z,rfl,F,e⟩:=IQ u;have:=stepG_add_atomic (P:=P) (main:=main) (b:=fr) (a:=⟨fr.tmps,fr.defers⟩) (kk:=kk) (cs:=cs) (w:=w) (rest:=rest) q r (by rw[c.kind];exact g) t A B C D k E (gO c F) (l _ (gO c e)) m n
 grind
theorem qQ {ad:Addr} {l:List SV} {n:Int} (d:FR y s fr) (h:aU s=some (f,.lit (.pointer (some ad)) :: l)) (g:s.kind ≠ .early) (j:Ext P f Extern.Sync.semacquire) (k:w.cell? ad=some (.int .u32 n)) (m:n≠0) (p:w.frozen? ad=false) :
 stepG P main (G fr cs) w = .go (G (fr.finish (.tuple #[])) cs) (w.setCell ad (.int .u32 (n-1))) (semEvents ad):=by
 obtain⟨ops,i,rest,kk,o,as,q,r,t,u,v,E,F⟩:=cT d h;obtain⟨fn,z,A,B,C,D⟩:=j.ex;obtain⟨x,e,c⟩:=zt d v 0 _ rfl;have c:x = .pointer (some ad):=c;rw[c] at e;have:=stepG_semacquire (P:=P) (main:=main) (b:=fr) (a:=⟨fr.tmps,fr.defers⟩) (kk:=kk) (cs:=cs) (w:=w) (rest:=rest) r t (by rw[d.kind];exact g) u z A B C D e k m p
 grind
theorem yk {ad:Addr} {l:List SV} (d:FR y s fr) (h:aU s=some (f,.lit (.pointer (some ad)) :: l)) (g:Ext P f Extern.Sync.semacquire) (j:w.cell? ad=some (.int .u32 0)) :
 stepG P main (G fr cs) w = .go { G fr cs with status:=.blocked } w #[]:=by
 obtain⟨ops,i,rest,kk,o,as,k,m,n,p,q,A,B⟩:=cT d h;obtain⟨fn,r,t,u,v,z⟩:=g.ex;obtain⟨x,e,c⟩:=zt d q 0 _ rfl;have c:x = .pointer (some ad):=c;rw[c] at e;have:=stepG_semacquire_wait (P:=P) (main:=main) (b:=fr) (a:=⟨fr.tmps,fr.defers⟩) (kk:=kk) (cs:=cs) (w:=w) (rest:=rest) m n p r t u v z e j
 grind
theorem m5 {ad:Addr} {l:List SV} {n:Int} (d:FR y s fr) (h:aU s=some (f,.lit (.pointer (some ad)) :: l)) (g:s.kind ≠ .early) (j:Ext P f Extern.Sync.semrelease) (k:w.cell? ad=some (.int .u32 n)) (m:w.frozen? ad=false) :
 stepG P main (G fr cs) w = .go (G (fr.finish (.tuple #[])) cs) (w.setCell ad (.int .u32 (IntKind.u32.wrap (n+1)))) (semEvents ad):=by
 obtain⟨ops,i,rest,kk,o,as,p,q,r,t,u,D,E⟩:=cT d h;obtain⟨fn,v,z,A,B,C⟩:=j.ex;obtain⟨x,e,c⟩:=zt d u 0 _ rfl;have c:x = .pointer (some ad):=c;rw[c] at e;have:=stepG_semrelease (P:=P) (main:=main) (b:=fr) (a:=⟨fr.tmps,fr.defers⟩) (kk:=kk) (cs:=cs) (w:=w) (rest:=rest) q r (by rw[d.kind];exact g) t v z A B C e k m
 grind
theorem yl (d:FR y s fr) (h:aU s=some (f,svs)) (e:s.kind ≠ .early) (g:Ext P f Extern.OsHooks.nano) (j:∃ fn,P.funcs[f]? = some fn∧fn.norace=true) :
 stepG P main (G fr cs) w = .go (G (fr.finish (.int .i64 ((w.os.mono+w.tick:Nat):Int))) cs) w.later #[]:=by
 obtain⟨ops,i,rest,kk,o,as,k,l,m,n,x,z,A⟩:=cT d h;obtain⟨fn,p,q,r,t,u⟩:=g.ex;obtain⟨c,B,v⟩:=j;obtain rfl:c=fn:=by grind
 have:=stepG_nanotime (P:=P) (main:=main) (b:=fr) (a:=⟨fr.tmps,fr.defers⟩) (kk:=kk) (cs:=cs) (w:=w) (rest:=rest) l m (by rw[d.kind];exact e) n p q r t u v
 grind
theorem F5 {n:Int} (d:FR y s fr) (h:aU s=some (f,[.lit (.int .i64 n)])) (g:s.kind ≠ .early) (v:Ext P f Extern.Sync.canSpin) :
 ∃ b w',stepG P main (G fr cs) w = .go (G (fr.finish (.bool b)) cs) w' #[]∧(b=true->n<4)∧(w'=w∨w'=w.asked):=by
 obtain⟨ops,i,rest,kk,o,as,z,j,l,m,e,B,C⟩:=cT d h;obtain⟨fn,p,q,r,t,u⟩:=v.ex;obtain⟨x,rfl,A⟩:=IS e;have c:(⟨fr.tmps,fr.defers⟩:Act).eval x = .int .i64 n:=gO d A
 by_cases e:n<4
 . have:=stepG_canSpin_ask (P:=P) (main:=main) (b:=fr) (a:=⟨fr.tmps,fr.defers⟩) (kk:=kk) (cs:=cs) (w:=w) (rest:=rest) j l (by rw[d.kind];exact g) m p q r t u (n:=n) (k:=.i64) (by simp[c]) e
   grind
 . have:=stepG_canSpin_no (P:=P) (main:=main) (b:=fr) (a:=⟨fr.tmps,fr.defers⟩) (kk:=kk) (cs:=cs) (w:=w) (rest:=rest) j l (by rw[d.kind];exact g) m p q r t u (n:=n) (k:=.i64) (by simp[c]) (by omega)
   grind
theorem se {v:Value} (c:FR y s fr) (h:aU s=some (f,svs)) (d:s.kind ≠ .early) (e:Ext P f (fun _=>pure v)):stepG P main (G fr cs) w = .go (G (fr.finish v) cs) w #[]:=by
 obtain⟨ops,i,rest,kk,o,as,g,j,k,l,t,u,x⟩:=cT c h;obtain⟨fn,m,n,p,q,r⟩:=e.ex;have:=stepG_entry (P:=P) (main:=main) (b:=fr) (a:=⟨fr.tmps,fr.defers⟩) (kk:=kk) (cs:=cs) (w:=w) (rest:=rest) (v:=v) (w':=w) (evs:=#[]) j k (by rw[c.kind];exact d) l m n p q r (by simp) (by simp) (by simp)
 grind
theorem IT{α β:Type}{P:Program}{f:α->Sem β}(s:Sem α):∀{a:α},l8 P s=some a->∀w es,(s.bind f).runT P w es=(f a).runT P w es:=by
 induction s with
 |pure b=>intro a h w es;simp only[l8,Option.some.injEq]at h;subst h;rfl
 |program g c=>intro a h w es;simp only[l8]at h;exact c P h w es
 |_=>intro a h;simp[l8]at h
theorem oQ{t:Nat}{ad:Addr}{v:Value}(q:FR y s fr)(h:pq s=some (t,.lit (.pointer (some ad))))(C:l8 P (isAgg t)=some false)(D:∃fn,P.funcs[s.fn]?=some fn/\fn.norace=true)(E:w.cell? ad=some v):
 stepG P main (G fr cs) w=.go (G (fr.finish v) cs) w #[]:=by
 have f:=q;obtain⟨fn,tmps,todo,defs,mode,kind,ro⟩:=fr;obtain⟨r,i,F,g,H,u,I,J⟩:=q;simp only at r i F g H u I J;subst u;unfold pq at h;split at h
 . rename_i ops z rest A K j
   rw[K]at g;rw[j]at i;have g:mode=.run:=g;subst g;subst i;split at h
   . rename_i o L
     split at h
     . rename_i M
       split at h
       . rename_i a x k
         simp only[Option.some.injEq,Prod.mk.injEq]at h;obtain⟨rfl,N⟩:=h;have d:=f.sv x;rw[N]at d;have d:Frame.eval ⟨fn,tmps,.inRegion ops (z::rest)::A,defs,.run,kind,none⟩ x=.pointer (some ad):=d;obtain⟨O,l,p⟩:=D;subst r;rw[mD L (nZ f M)];have hex:execOp (Frame.eval ⟨s.fn,tmps,.inRegion ops (z::rest)::A,defs,.run,kind,none⟩) o=Sem.bind (Instr.loadAt a (.pointer (some ad))) (λv=>pure (Next.value v)):=by simp only[execOp,k,d];rfl
         have e:(Sem.bind (Instr.loadAt a (.pointer (some ad))) (λv=>(pure (Next.value v):Sem Next))).runT P w #[]=(.ok (.value v) w,#[⟨.cell ad,false,false⟩]):=by
          have Q:Instr.loadAt a (.pointer (some ad))=Sem.bind (isAgg a) (λb=>if b=true then Sem.bind (sizeOf a) (λn=>Sem.bind (loadCells ad n) (λc=>pure (.agg c)))else load ad):=rfl
          rw[Q]
          have R:Sem.bind (Sem.bind (isAgg a) (λb=>if b=true then Sem.bind (sizeOf a) (λn=>Sem.bind (loadCells ad n) (λc=>pure (.agg c)))else load ad)) (λv=>(pure (Next.value v):Sem Next))=
           Sem.bind (isAgg a) (λb=>Sem.bind (if b=true then Sem.bind (sizeOf a) (λn=>Sem.bind (loadCells ad n) (λc=>pure (.agg c)))else load ad) (λv=>(pure (Next.value v):Sem Next))):=bind_assoc (m:=Sem) _ _ _
          rw[R,IT _ C];show(Sem.bind (load ad) (λv=>(pure (Next.value v):Sem Next))).runT P w #[]=_
          unfold load;show Sem.runT P (Sem.load .plain ad λv=>pure (Next.value v)) w #[]=_
          simp only[Sem.runT,E];rfl
         rw[hex]
         have S:seen P s.fn #[⟨.cell ad,false,false⟩]=#[]:=by rw[seen_def];simp[l,p,seenStep]
         simp only[stepG.apply,if_true,e,GStep.after]
         by_cases B:(kind==CallKind.early)=true
         . simp[B,fE,G]
         . simp[B,S,G]
       . cases h
     . cases h
   . cases h
 . cases h
def jL(s:iX):Option (TypeId × TypeId × SV):=
 match s.mode,s.todo with
 | .run,.inRegion ops (i::_)::_=>match ops[i]? with
   | some o=>match ye ops s.env o with
     | some true=>match o.op with
       |.convert a b x=>some (a,b,sv s.env x)
       |_=>none
     |_=>none
   |none=>none
 |_,_=>none
theorem sf{a b t:TypeId}{ad:Addr}(l:FR y s fr)(h:jL s=some (a,b,.lit (.pointer (some ad))))(m:P.underlying a=some (.pointer t))(n:P.underlying b=some .unsafePointer)(p:(P.info? t).map (λi=>decide (i.size=0))=some false)(f:∃v,w.cell? ad=some v):
 stepG P main (G fr cs) w=.go (G (fr.finish (.pointer (some ad))) cs) w #[]:=by
 obtain⟨v,f⟩:=f;have d:=l;obtain⟨fn,tmps,todo,defs,mode,kind,ro⟩:=fr;obtain⟨z,g,A,e,B,q,C,D⟩:=l;simp only at z g A e B q C D;subst q;unfold jL at h;split at h
 . rename_i ops r rest u E j
   rw[E]at e;rw[j]at g;have e:mode=.run:=e;subst e;subst g;split at h
   . rename_i o F
     split at h
     . rename_i H
       split at h
       . rename_i I J x k
         simp only[Option.some.injEq,Prod.mk.injEq]at h;obtain⟨rfl,rfl,K⟩:=h;have c:=d.sv x;rw[K]at c;have c:Frame.eval ⟨fn,tmps,.inRegion ops (r::rest)::u,defs,.run,kind,none⟩ x=.pointer (some ad):=c;rw[mD F (nZ d H)];have hex:execOp (Frame.eval ⟨fn,tmps,.inRegion ops (r::rest)::u,defs,.run,kind,none⟩) o=(do pure (.value (<-convert I J (.pointer (some ad)))):Sem Next):=by simp only[execOp,k,c]
         have L:=run_convert_to_unsafe m n p f;have M:=events_convert_to_unsafe m n p f #[];rw[hex];simp[stepG.apply,L,M,GStep.after,fE,G,Result.andThen]
       . cases h
     . cases h
   . cases h
 . cases h
end
def di(P:Program)(f:FuncId)(args:List SV)(kind:CallKind):iX:=
 match P.funcs[f]? with
 |some fn=>⟨f,[.code (fn.body.getD .skip)],args++List.replicate (fn.ntmps-args.length) .bJ,[],.run,kind⟩
 |none=>⟨f,[],args,[],.run,kind⟩
abbrev cB:=iX × List iX
def next(P:Program)(a:Fl)(c:cB)(v:SV):cB:=match vz c.1 v with|some s=>sgo P a 400 s c.2|none=>c
def pt(b o:Nat):SV:=.lit (.pointer (some ⟨b,o,none⟩))
def un:SV:=.lit (.tuple #[])
def tt:SV:=.lit (.bool true)
def ff:SV:=.lit (.bool false)
def EV(live:List Nat)(env:List SV):List SV:=(List.range env.length).zipWith (λi v=>if live.contains i then v else .bJ) env
def keep(live:List Nat)(s:iX):iX:={s with env:=EV live s.env}
def IU(env:List SV):List (Nat × SV)->List SV
 |[]=>env
 |(i,v)::l=>IU (env.set i v) l
theorem FR.keep{y:Sy}{s:iX}{fr:Frame}(h:FR y s fr)(live:List Nat):FR y (keep live s) fr:=by
 refine⟨h.fn,h.todo,h.defers,h.mode,h.kind,h.ro,?_,λt=>?_⟩
 . rw[h.size]
   show s.env.length=(EV live s.env).length;rw[EV,List.length_zipWith,List.length_range,Nat.min_self]
 . have:=h.env t
   simp only[Go.bu.keep,EV];rw[List.getD_eq_getElem?_getD,List.getElem?_zipWith];by_cases a:t<s.env.length
   . rw[List.getElem?_range a,List.getElem?_eq_getElem a]
     simp only[Option.getD_some];split
     . simp_all
     . trivial
   simp_all
def plain:SV->Bool
 |.bJ=>true
 |.lit _=>true
 |_=>false
theorem FR.fF{y y':Sy}{s:iX}{fr:Frame}(h:FR y s fr)(a:s.env.all plain=true):FR y' s fr:=by
 refine⟨h.fn,h.todo,h.defers,h.mode,h.kind,h.ro,h.size,λt=>?_⟩;have b:=h.env t
 have c:plain (s.env.getD t .bJ)=true:=by
  rw[List.getD_eq_getElem?_getD];cases q:s.env[t]? with
  |none=>rfl
  |some v=>grind
 generalize s.env.getD t .bJ=v at *;cases v<;>simp_all [plain,SR]
structure xy where
 lock:Nat
 unlock:Nat
 Rf:Nat
 uw:Nat
 O3:Nat
 N2:Nat
 iF:Nat
 en:Nat
 acq:Nat
 rel:Nat
 jI:Nat
 add:Nat
 F6:Nat
 si:Nat
 nano:Nat
 Dd:Nat
 m6:Nat
 tM:Nat
 tU:Nat
 tI:Nat
def TB(c:cB):List Nat:=[c.1.fn,c.1.todo.length,(match c.1.todo with|.inRegion ops (i::_)::_=>i|_=>999),(match aU c.1 with|some (f,_)=>f|none=>match pq c.1 with|some (t,_)=>1000+t|none=>999)]++c.2.map (·.fn)
def kl:Fl:=⟨false,false,false,false,false,false⟩
def IV(P:Program)(f:Fl):Nat->iX->List iX->cB
 |0,fr,st=>(fr,st)
 | n + 1,fr,st=>match ss P f fr st with
   | some (a,b)=>match a.todo with
     |.code _::.inLoop _::_=>(a,b)
     |_=>IV P f n a b
   |none=>(fr,st)
def Bg(live:List Nat)(c:cB):cB:=(keep live c.1,c.2.map (keep []))
def aN(P:Program)(a:Fl)(live:List Nat)(c:cB)(v:SV):Option cB:=(vz c.1 v).map λs=>Bg live (sgo P a 400 s c.2)
def n9(P:Program)(a:Fl)(live:List Nat)(c:cB)(v:SV):Option cB:=(vz c.1 v).map λs=>Bg live (IV P a 400 s c.2)
def Rg(P:Program)(a:Fl)(live:List Nat)(c:cB):cB:=Bg live (sgo P a 400 c.1 c.2)
def bl(x:Bool):SV:=.lit (.bool x)
def i64(n:Int):SV:=.lit (.int .i64 n)
def i32(n:Int):SV:=.lit (.int .i32 n)
def jk(n:Nat):List SV:=List.replicate n .bJ
section
variable(P:Program)(n:xy)(b o:Nat)(kind:CallKind)
def wf:SV:=.word false false false 0
def wl:SV:=.word true false false 0
def TC:cB:=Bg [0] (sgo P kl 400 (di P n.lock [pt b o] kind) [])
def IW:cB:=next P kl (TC P n b o kind) un
def Rh:cB:=next P kl (IW P n b o kind) tt
def Ri:cB:=next P kl (Rh P n b o kind) un
def TD:cB:=next P kl (Ri P n b o kind) (pt b o)
def De:cB:=next P kl (IW P n b o kind) ff
def WM:cB:=(n9 P kl [] (De P n b o kind) wf).getD (De P n b o kind)
def TE:cB:=next P kl (De P n b o kind) wl
def UH:cB:=next P kl (TE P n b o kind) tt
def UI:cB:=next P kl (UH P n b o kind) tt
def TF:cB:=next P kl (UI P n b o kind) un
def O4:cB:=next P kl (TE P n b o kind) ff
def TG:cB:=next P kl (O4 P n b o kind) ff
def Rj:cB:=next P kl (next P kl (De P n b o kind) wf) tt
def Rk:cB:=next P kl (Rj P n b o kind) un
def TH:cB:=next P kl (Rk P n b o kind) (pt b o)
def UJ:cB:=next P kl (O4 P n b o kind) tt
def UK:cB:=next P kl (UJ P n b o kind) .F4
def UL:cB:=next P kl (UK P n b o kind) un
def UM:cB:=next P kl (UL P n b o kind) .now
def WN:cB:=next P kl (UM P n b o kind) (.word false false true 0)
def Rl:List iX:=(TC P n b o kind).2
def Tj:List iX:=(De P n b o kind).2.map (keep [])
def lF(a:List Item)(l:List (Nat × SV)):cB:=(⟨n.Rf,a,IU (jk 13) l,[],.run,.normal⟩,Rl P n b o kind)
def cu(a:List Item)(l:List (Nat × SV)):cB:=(⟨n.O3,a,IU (jk 139) l,[],.run,.normal⟩,Tj P n b o kind)
def LD:cB:=TC P n b o kind
def sj:cB:=lF P n b o kind (IW P n b o kind).1.todo [(0,pt b o),(5,pt b o)]
def N3:cB:=lF P n b o kind (Rh P n b o kind).1.todo [(0,pt b o)]
def Qo:cB:=lF P n b o kind (Ri P n b o kind).1.todo [(8,pt b o)]
def N4:cB:=lF P n b o kind (TD P n b o kind).1.todo [(9,pt b o)]
def BK:cB:=(⟨n.lock,[],jk 6,[],.ret,kind⟩,[])
def N5(aw sv:Bool)(it:Int):List (Nat × SV):=[(0,pt b o),(2,.F4),(3,bl sv),(4,bl aw),(5,i64 it)]
def Tl:cB:=cu P n b o kind (De P n b o kind).1.todo [(0,pt b o),(2,i64 0),(3,ff),(4,ff),(5,i64 0),(12,pt b o)]
def O5(aw sv:Bool)(it:Int):cB:=cu P n b o kind (De P n b o kind).1.todo (N5 b o aw sv it++[(12,pt b o)])
def EW(aw sv:Bool)(it:Int):cB:=cu P n b o kind (TF P n b o kind).1.todo (N5 b o aw sv it++[(47,pt b o)])
def O6(aw sv:Bool)(it:Int):cB:=cu P n b o kind (TG P n b o kind).1.todo (N5 b o aw sv it++[(133,pt b o)])
def HD(L K S aw sv:Bool)(it:Int):cB:=cu P n b o kind (WM P n b o kind).1.todo (N5 b o aw sv it++[(6,.word L K S 0)])
def SQ(K aw sv:Bool)(it:Int):cB:=cu P n b o kind (TE P n b o kind).1.todo (N5 b o aw sv it++[(6,.word true K false 0),(17,tt),(18,i64 it)])
def SW(it:Int):cB:=cu P n b o kind (UH P n b o kind).1.todo (N5 b o false false it++[(33,tt),(36,pt b o),(37,.word true false false 0),(39,.word true true false 0)])
def DS(aw sv:Bool)(it:Int):cB:=cu P n b o kind (UI P n b o kind).1.todo (N5 b o aw sv it)
def MG(L K S aw sv:Bool):SV:=.word (L||!S) (if aw then false else K) (S||(sv && L)) (if L||S then 1 else 0)
def Bh(L K S aw sv:Bool)(it:Int):cB:=cu P n b o kind (O4 P n b o kind).1.todo (N5 b o aw sv it++[(6,.word L K S 0),(77,pt b o),(78,.word L K S 0),(79,MG L K S aw sv)])
def T1(sv:Bool):cB:=cu P n b o kind (UJ P n b o kind).1.todo [(0,pt b o),(3,bl sv)]
def PK(sv:Bool):cB:=cu P n b o kind (UK P n b o kind).1.todo [(0,pt b o),(2,.F4),(3,bl sv),(91,pt b (o+1))]
def TQ:cB:=cu P n b o kind (UL P n b o kind).1.todo [(0,pt b o),(2,.F4),(95,ff)]
def UP(sv:Bool):cB:=cu P n b o kind (UM P n b o kind).1.todo [(0,pt b o),(2,.F4),(3,bl sv),(103,pt b o)]
def AD(d:Int):cB:=cu P n b o kind (WN P n b o kind).1.todo [(0,pt b o),(128,pt b o),(129,i32 d)]
def Mb:cB:=cu P n b o kind (Rj P n b o kind).1.todo [(0,pt b o)]
def Qp:cB:=cu P n b o kind (Rk P n b o kind).1.todo [(136,pt b o)]
def N6:cB:=cu P n b o kind (TH P n b o kind).1.todo [(137,pt b o)]
def TJ:cB:=Bg [0,5] (sgo P kl 400 (di P n.unlock [pt b o] kind) [])
def Rm:cB:=next P kl (TJ P n b o kind) .bJ
def UN:cB:=next P kl (Rm P n b o kind) (pt b o)
def UO:cB:=next P kl (UN P n b o kind) un
def EX:cB:=next P kl (UO P n b o kind) un
def WO:cB:=next P {kl with n0:=true} (EX P n b o kind) wf
def Tm:cB:=next P kl (EX P n b o kind) wf
def WQ:cB:=next P kl (EX P n b o kind) (.word false false true 0)
def WR:cB:=next P kl (Tm P n b o kind) tt
def TK:cB:=next P kl (Tm P n b o kind) ff
def Rn:List iX:=(TJ P n b o kind).2
def TL:List iX:=(Tm P n b o kind).2.map (keep [])
def nI(a:List Item)(l:List (Nat × SV)):cB:=(⟨n.uw,a,IU (jk 21) l,[],.run,.normal⟩,Rn P n b o kind)
def tw(a:List Item)(l:List (Nat × SV)):cB:=(⟨n.N2,a,IU (jk 43) l,[],.run,.normal⟩,TL P n b o kind)
def U0:cB:=TJ P n b o kind
def Qq:cB:=nI P n b o kind (Rm P n b o kind).1.todo [(0,pt b o),(7,pt b o)]
def UR:cB:=nI P n b o kind (UN P n b o kind).1.todo [(0,pt b o),(8,pt b o)]
def UD:cB:=nI P n b o kind (UO P n b o kind).1.todo [(0,pt b o)]
def qe:cB:=nI P n b o kind (EX P n b o kind).1.todo [(0,pt b o),(13,pt b o),(14,.bJ)]
def UE:cB:=nI P n b o kind (WO P n b o kind).1.todo []
def UC:cB:=tw P n b o kind (Tm P n b o kind).1.todo [(0,pt b o),(27,pt b o),(28,wf),(29,.word false true false (-1))]
def G7:cB:=tw P n b o kind (WR P n b o kind).1.todo [(33,pt b (o+1))]
def G9:cB:=tw P n b o kind (WQ P n b o kind).1.todo [(41,pt b (o+1))]
def Mc:cB:=tw P n b o kind (TK P n b o kind).1.todo [(0,pt b o),(37,pt b o)]
def Ro:cB:=(⟨n.unlock,[],jk 6,[],.ret,kind⟩,[])
end
structure eY(P:Program)(n:xy):Prop where
 e1:∀(fl:Fl) b o kind,aN P fl [0,5] (LD P n b o kind) un=some (sj P n b o kind)
 e2:∀(fl:Fl) b o kind,aN P fl [0] (sj P n b o kind) tt=some (N3 P n b o kind)
 e3:∀(fl:Fl) b o kind,aN P fl [0,2,3,4,5,12] (sj P n b o kind) ff=some (Tl P n b o kind)
 e4:∀(fl:Fl) b o kind,aN P fl [8] (N3 P n b o kind) un=some (Qo P n b o kind)
 e5:∀(fl:Fl) b o kind,aN P fl [9] (Qo P n b o kind) (pt b o)=some (N4 P n b o kind)
 e6:∀(fl:Fl) b o kind,aN P fl [] (N4 P n b o kind) un=some (BK n kind)
 Rq:∀(fl:Fl) b o kind L K S aw sv it,n9 P fl [0,2,3,4,5,6] (O5 P n b o kind aw sv it) (.word L K S 0)=some (HD P n b o kind L K S aw sv it)
 Rr:∀(fl:Fl) b o kind L K S aw sv it,n9 P fl [0,2,3,4,5,6] (EW P n b o kind aw sv it) (.word L K S 0)=some (HD P n b o kind L K S aw sv it)
 Qr:∀(fl:Fl) b o kind L K S aw sv it,n9 P fl [0,2,3,4,5,6] (O6 P n b o kind aw sv it) (.word L K S 0)=some (HD P n b o kind L K S aw sv it)
 e8:∀(fl:Fl) b o kind K aw sv it,Rg P fl [0,2,3,4,5,6,17,18] (HD P n b o kind true K false aw sv it)=SQ P n b o kind K aw sv it
 e9:∀(fl:Fl) b o kind L K S aw sv it,(L && !S)=false->(aw && !K)=false->Rg P fl [0,2,3,4,5,6,77,78,79] (HD P n b o kind L K S aw sv it)=Bh P n b o kind L K S aw sv it
 xh:∀(fl:Fl) b o kind it,aN P {fl with n0:=false} [0,2,3,4,5,33,36,37,39] (SQ P n b o kind false false false it) tt=some (SW P n b o kind it)
 Rs:∀(fl:Fl) b o kind n0 K aw sv it,(!aw && !K && !n0)=false->aN P {fl with n0:=n0} [0,2,3,4,5] (SQ P n b o kind K aw sv it) tt=some (DS P n b o kind aw sv it)
 CQ:∀(fl:Fl) b o kind K aw sv it,(aw && !K)=false->aN P fl [0,2,3,4,5,6,77,78,79] (SQ P n b o kind K aw sv it) ff=some (Bh P n b o kind true K false aw sv it)
 Me:∀(fl:Fl) b o kind r it,aN P fl [0,2,3,4,5] (SW P n b o kind it) (bl r)=some (DS P n b o kind r false it)
 Rt:∀(fl:Fl) b o kind aw sv,aN P fl [0,2,3,4,5,47] (DS P n b o kind aw sv 0) un=some (EW P n b o kind aw sv 1)
 Ru:∀(fl:Fl) b o kind aw sv,aN P fl [0,2,3,4,5,47] (DS P n b o kind aw sv 1) un=some (EW P n b o kind aw sv 2)
 Rv:∀(fl:Fl) b o kind aw sv,aN P fl [0,2,3,4,5,47] (DS P n b o kind aw sv 2) un=some (EW P n b o kind aw sv 3)
 Rw:∀(fl:Fl) b o kind aw sv,aN P fl [0,2,3,4,5,47] (DS P n b o kind aw sv 3) un=some (EW P n b o kind aw sv 4)
 O7:∀(fl:Fl) b o kind K aw sv it,aN P fl [0] (Bh P n b o kind false K false aw sv it) tt=some (Mb P n b o kind)
 Rx:∀(fl:Fl) b o kind L K S aw sv it,(L||S)=true->aN P {fl with wz:=true} [0,3] (Bh P n b o kind L K S aw sv it) tt=some (T1 P n b o kind sv)
 Ry:∀(fl:Fl) b o kind L K S aw sv it,(L||S)=true->aN P {fl with wz:=false} [0,2,3,91] (Bh P n b o kind L K S aw sv it) tt=some (PK P n b o kind sv)
 zu:∀(fl:Fl) b o kind L K S aw sv it,aN P fl [0,2,3,4,5,133] (Bh P n b o kind L K S aw sv it) ff=some (O6 P n b o kind aw sv it)
 vB:∀(fl:Fl) b o kind sv,aN P fl [0,2,3,91] (T1 P n b o kind sv) .F4=some (PK P n b o kind sv)
 Rz:∀(fl:Fl) b o kind,aN P fl [0,2,3,103] (PK P n b o kind true) un=some (UP P n b o kind true)
 RA:∀(fl:Fl) b o kind,aN P fl [0,2,95] (PK P n b o kind false) un=some (TQ P n b o kind)
 rU:∀(fl:Fl) b o kind x,aN P {fl with tb:=x} [0,2,3,103] (TQ P n b o kind) .now=some (UP P n b o kind x)
 MH:∀(fl:Fl) b o kind sv n1,aN P {fl with n0:=false,n1:=n1} [0,128,129] (UP P n b o kind sv) (.word false false true 0)=some (AD P n b o kind (if !sv||n1 then -11 else -7))
 xz:∀(fl:Fl) b o kind L K sv,n9 P fl [0,2,3,4,5,6] (UP P n b o kind sv) (.word L K false 0)=some (HD P n b o kind L K false true sv 0)
 uy:∀(fl:Fl) b o kind d,aN P fl [0] (AD P n b o kind d) .bJ=some (Mb P n b o kind)
 uz:∀(fl:Fl) b o kind,aN P fl [136] (Mb P n b o kind) un=some (Qp P n b o kind)
 H5:∀(fl:Fl) b o kind,aN P fl [137] (Qp P n b o kind) (pt b o)=some (N6 P n b o kind)
 uA:∀(fl:Fl) b o kind,aN P fl [] (N6 P n b o kind) un=some (BK n kind)
 u1:∀(fl:Fl) b o kind,aN P fl [0,7] (U0 P n b o kind) .bJ=some (Qq P n b o kind)
 u2:∀(fl:Fl) b o kind,aN P fl [0,8] (Qq P n b o kind) (pt b o)=some (UR P n b o kind)
 u3:∀(fl:Fl) b o kind,aN P fl [0] (UR P n b o kind) un=some (UD P n b o kind)
 u4:∀(fl:Fl) b o kind,aN P fl [0,13] (UD P n b o kind) un=some (qe P n b o kind)
 u5:∀(fl:Fl) b o kind n0 K,(n0||K)=true->aN P {fl with n0:=n0} [] (qe P n b o kind) (.word false K false 0)=some (UE P n b o kind)
 UQ:∀(fl:Fl) b o kind n0 K,aN P {fl with n0:=n0} [41] (qe P n b o kind) (.word false K true 0)=some (G9 P n b o kind)
 US:∀(fl:Fl) b o kind,aN P {fl with n0:=false} [0,27,28,29] (qe P n b o kind) (.word false false false 0)=some (UC P n b o kind)
 UT:∀(fl:Fl) b o kind,aN P fl [33] (UC P n b o kind) tt=some (G7 P n b o kind)
 UU:∀(fl:Fl) b o kind,aN P fl [0,37] (UC P n b o kind) ff=some (Mc P n b o kind)
 u7:∀(fl:Fl) b o kind n0 L K S,(n0||L||K||S)=true->aN P {fl with n0:=n0} [] (Mc P n b o kind) (.word L K S 0)=some (UE P n b o kind)
 UW:∀(fl:Fl) b o kind,aN P {fl with n0:=false} [0,27,28,29] (Mc P n b o kind) (.word false false false 0)=some (UC P n b o kind)
 u8:∀(fl:Fl) b o kind,aN P fl [] (G7 P n b o kind) un=some (UE P n b o kind)
 u9:∀(fl:Fl) b o kind,aN P fl [] (G9 P n b o kind) un=some (UE P n b o kind)
 UX:∀(fl:Fl) b o kind,aN P fl [] (UE P n b o kind) un=some (Ro n kind)
 o1:∀b o kind,aU (LD P n b o kind).1=some (n.iF,[])/\(LD P n b o kind).1.kind=.normal
 o2:∀b o kind,aU (sj P n b o kind).1=some (n.jI,[pt b o,i32 0,i32 1])
 o3:∀b o kind,aU (N3 P n b o kind).1=some (n.en,[])
 o4:∀b o kind,jL (Qo P n b o kind).1=some (n.tM,n.tU,pt b o)
 o5:∀b o kind,aU (N4 P n b o kind).1=some (n.acq,[pt b o])
 UY:∀b o kind aw sv it,pq (O5 P n b o kind aw sv it).1=some (n.tI,pt b o)
 UZ:∀b o kind aw sv it,pq (EW P n b o kind aw sv it).1=some (n.tI,pt b o)
 U1:∀b o kind aw sv it,pq (O6 P n b o kind aw sv it).1=some (n.tI,pt b o)
 o7:∀b o kind K aw sv it,aU (SQ P n b o kind K aw sv it).1=some (n.F6,[i64 it])
 o8:∀b o kind it,aU (SW P n b o kind it).1=some (n.jI,[pt b o,.word true false false 0,.word true true false 0])
 o9:∀b o kind aw sv it,aU (DS P n b o kind aw sv it).1=some (n.si,[])
 Qs:∀b o kind L K S aw sv it,aU (Bh P n b o kind L K S aw sv it).1=some (n.jI,[pt b o,.word L K S 0,MG L K S aw sv])
 RB:∀b o kind sv,aU (T1 P n b o kind sv).1=some (n.nano,[])
 Qt:∀b o kind sv,aU (PK P n b o kind sv).1=some (n.Dd,[pt b (o+1),.bJ,i64 2])
 Tn:∀b o kind,aU (TQ P n b o kind).1=some (n.nano,[])
 Qu:∀b o kind sv,pq (UP P n b o kind sv).1=some (n.tI,pt b o)
 RD:∀b o kind d,aU (AD P n b o kind d).1=some (n.add,[pt b o,i32 d])
 U2:∀b o kind,aU (Mb P n b o kind).1=some (n.en,[])
 U3:∀b o kind,jL (Qp P n b o kind).1=some (n.tM,n.tU,pt b o)
 U4:∀b o kind,aU (N6 P n b o kind).1=some (n.acq,[pt b o])
 TM:∀b o kind,pq (U0 P n b o kind).1=some (n.tI,pt b o)/\(U0 P n b o kind).1.kind=.normal/\(U0 P n b o kind).1.fn=n.uw
 U5:∀b o kind,jL (Qq P n b o kind).1=some (n.tM,n.tU,pt b o)
 U6:∀b o kind,aU (UR P n b o kind).1=some (n.rel,[pt b o])
 U7:∀b o kind,aU (UD P n b o kind).1=some (n.iF,[])
 TN:∀b o kind,aU (qe P n b o kind).1=some (n.add,[pt b o,i32 (-1)])
 TO:∀b o kind,aU (UC P n b o kind).1=some (n.jI,[pt b o,wf,.word false true false (-1)])
 TP:∀b o kind,aU (G7 P n b o kind).1=some (n.m6,[pt b (o+1),ff,i64 2])
 TR:∀b o kind,aU (G9 P n b o kind).1=some (n.m6,[pt b (o+1),tt,i64 2])
 U8:∀b o kind,pq (Mc P n b o kind).1=some (n.tI,pt b o)
 U9:∀b o kind,aU (UE P n b o kind).1=some (n.en,[])
 p1:∀b o kind,(Rl P n b o kind).all (·.env.all plain)=true/\(LD P n b o kind).1.env.all plain=true/\(LD P n b o kind).2=Rl P n b o kind
 p2:∀b o kind,(Tj P n b o kind).all (·.env.all plain)=true
 p3:∀b o kind,(Rn P n b o kind).all (·.env.all plain)=true/\(U0 P n b o kind).1.env.all plain=true/\(U0 P n b o kind).2=Rn P n b o kind
 p4:∀b o kind,(TL P n b o kind).all (·.env.all plain)=true
structure eZ(P:Program)(n:xy):Prop where
 iF:Ext P n.iF (λ_=>do mark .disable;pure Extern.Race.none_)
 en:Ext P n.en (λ_=>do mark .enable;pure Extern.Race.none_)
 acq:Ext P n.acq (Extern.Race.marked .acquire)
 rel:Ext P n.rel (Extern.Race.marked .releaseMerge)
 jI:Ext P n.jI (Extern.Atomic.casT (.int .i32))
 add:Ext P n.add (Extern.Atomic.update (Op.intArith .add) .i32 true)
 F6:Ext P n.F6 Extern.Sync.canSpin
 si:Ext P n.si (λ_=>pure (.tuple #[]))
 nano:Ext P n.nano Extern.OsHooks.nano
 IX:∃fn,P.funcs[n.nano]?=some fn/\fn.norace=true
 Dd:Ext P n.Dd Extern.Sync.semacquire
 m6:Ext P n.m6 Extern.Sync.semrelease
 RE:l8 P (isAgg n.tI)=some false
 Va:∃t,P.underlying n.tM=some (.pointer t)/\P.underlying n.tU=some .unsafePointer/\(P.info? t).map (λi=>decide (i.size=0))=some false
 nS:∃fn,P.funcs[n.O3]?=some fn/\fn.norace=true
 nU:∃fn,P.funcs[n.uw]?=some fn/\fn.norace=true
 nV:∃fn,P.funcs[n.N2]?=some fn/\fn.norace=true
def Sy.ok(y:Sy):Prop:=(0<=y.N/\y.N<=1000)/\(0<=y.c/\y.c<=1000)
def Fl.of(y:Sy):Fl:=⟨decide (y.N=0),decide (y.N=1),decide (y.c=0),decide (y.c=1),decide (y.ws=0),decide (IntKind.i64.wrap (y.tn-y.ws)>1000000)⟩
theorem Fl.Bi{y:Sy}(h:y.ok):(Fl.of y).At y:=⟨h.1,h.2,rfl,rfl,rfl,rfl,rfl,rfl⟩
def EY:SV->Bool|.word ..=>true|.cnt=>true|_=>false
def IY:SV->Bool|.dN _=>true|.EU=>true|.F3=>true|_=>false
def IZ:SV->Bool|.F4=>true|.Rc=>true|_=>false
def I0:SV->Bool|.now=>true|.Rc=>true|_=>false
theorem SR.re{y y':Sy}{v:SV}{x:Value}(h:SR y v x)(a:y.N=y'.N\/EY v=false)(b:y.c=y'.c\/IY v=false)(d:y.ws=y'.ws\/IZ v=false)(e:y.tn=y'.tn\/I0 v=false):SR y' v x:=by cases v<;>simp_all [SR,EY,IY,IZ,I0]
theorem FR.re{y y':Sy}{s:iX}{fr:Frame}(h:FR y s fr)(a:y.N=y'.N\/s.env.all (λv=>!EY v)=true)(b:y.c=y'.c\/s.env.all (λv=>!IY v)=true)
 (d:y.ws=y'.ws\/s.env.all (λv=>!IZ v)=true) (e:y.tn=y'.tn\/s.env.all (λv=>!I0 v)=true):FR y' s fr:=by
 have key:∀(u:SV->Bool) (t:Nat),u .bJ=false->s.env.all (λv=>!u v)=true->u (s.env.getD t .bJ)=false:=λu t f g=>by grind
 exact⟨h.fn,h.todo,h.defers,h.mode,h.kind,h.ro,h.size,λt=>(h.env t).re (a.imp id (key _ t rfl)) (b.imp id (key _ t rfl)) (d.imp id (key _ t rfl)) (e.imp id (key _ t rfl))⟩
theorem lj.fF{y y':Sy}:∀{l:List iX}{fs:List Frame},lj y l fs->l.all (·.env.all plain)=true->lj y' l fs
 |[],fs,h,_=>by rw[h.lE];trivial
 |s::l,fs,h,a=>by obtain⟨f,b,rfl,c,d⟩:=h.cons_inv;simp only[List.all_cons,Bool.and_eq_true]at a;exact⟨c.fF a.1,d.fF a.2⟩
theorem lj.keep{y:Sy}(live:List Nat):∀{l:List iX}{fs:List Frame},lj y l fs->lj y (l.map (Go.bu.keep live)) fs
 |[],fs,h=>by simp_all
 |s::l,fs,h=>by obtain⟨f,a,rfl,b,c⟩:=h.cons_inv;exact⟨b.keep live,c.keep live⟩
theorem EZ{P:Program}{Wd:World->Prop}{f:Fl}{y:Sy}(i:f.At y):∀(n:Nat){s:iX}{st:List iX}{fr:Frame}{frs:List Frame},FR y s fr->lj y st frs ->
 ∃m b a,FR y (IV P f n s st).1 b/\lj y (IV P f n s st).2 a/\∀cs,iu P Wd m (G fr (frs++cs)) (G b (a++cs))
 |0,s,st,fr,frs,g,c=>⟨0,fr,frs,g,c,λ_=>rfl⟩
 | n + 1,s,st,fr,frs,g,c=>by
   unfold IV;cases e:ss P f s st with
   |none=>exact⟨0,fr,frs,g,c,λ_=>rfl⟩
   | some p=>
     obtain⟨u,o⟩:=p;obtain⟨b,a,j,k,l⟩:=N1 i e g c;simp only;split
     . exact⟨1,b,a,j,k,λcs=>⟨_,l cs,rfl⟩⟩
     . obtain⟨m,h,d,q,r,t⟩:=EZ i n j k
       exact⟨m+1,h,d,q,r,λcs=>⟨_,l cs,t cs⟩⟩
section
variable{P:Program}{Wd:World->Prop}{y:Sy}{c c':cB}{live:List Nat}{v:SV}{x:Value}{fr:Frame}{frs:List Frame}
theorem N7(e:aN P (Fl.of y) live c v=some c')(f:y.ok)(g:FR y c.1 fr)(d:lj y c.2 frs)(h:SR y v x):
 ∃b a,FR y c'.1 b/\lj y c'.2 a/\∀cs,qO P Wd (G (fr.finish x) (frs++cs)) (G b (a++cs)):=by
 obtain⟨s,i,rfl⟩:=Option.map_eq_some_iff.1 e;obtain⟨m,b,a,j,k,l⟩:=kO (Wd:=Wd) (Fl.Bi f) 400 (P:=P) (g.fin i h) d;exact⟨b,a,j.keep live,k.keep [],λcs=>⟨m,l cs⟩⟩
theorem RF(e:n9 P (Fl.of y) live c v=some c')(f:y.ok)(g:FR y c.1 fr)(d:lj y c.2 frs)(h:SR y v x):
 ∃b a,FR y c'.1 b/\lj y c'.2 a/\∀cs,qO P Wd (G (fr.finish x) (frs++cs)) (G b (a++cs)):=by
 obtain⟨s,i,rfl⟩:=Option.map_eq_some_iff.1 e;obtain⟨m,b,a,j,k,l⟩:=EZ (Wd:=Wd) (Fl.Bi f) 400 (P:=P) (g.fin i h) d;exact⟨b,a,j.keep live,k.keep [],λcs=>⟨m,l cs⟩⟩
theorem RG(e:Rg P (Fl.of y) live c=c')(f:y.ok)(g:FR y c.1 fr)(d:lj y c.2 frs):
 ∃b a,FR y c'.1 b/\lj y c'.2 a/\∀cs,qO P Wd (G fr (frs++cs)) (G b (a++cs)):=by
 subst e;obtain⟨m,b,a,h,i,j⟩:=kO (Wd:=Wd) (Fl.Bi f) 400 (P:=P) g d;exact⟨b,a,h.keep live,i.keep [],λcs=>⟨m,j cs⟩⟩
end
open Mu in
inductive qR where
 |ld|fZ|rd (l:Lo)|sq (old:Wd) (l:Lo)|sw (old:Wd) (l:Lo)|jI (old:Wd) (l:Lo)|t1 (sv:Bool)|fA (sv:Bool)|tq|up (sv:Bool)|add (old:Wd) (sv:Bool)|le|la|back
 |E0|ur|ud|held|ir (old:Wd)|ub|give|ue|Bj
section
variable(P:Program)(n:xy)(b o:Nat)(kind:CallKind)
def Db(p:qR)(c:cB)(y:Sy):Prop:=
 match p with
 |.ld=>c=LD P n b o kind
 |.fZ=>c=sj P n b o kind
 |.rd l=>c=O5 P n b o kind l.aw l.sv l.it\/c=EW P n b o kind l.aw l.sv l.it\/c=O6 P n b o kind l.aw l.sv l.it
 |.sq old l=>c=SQ P n b o kind old.K l.aw l.sv l.it/\y.N=old.N/\old.L=true/\old.S=false
 |.sw old l=>c=SW P n b o kind l.it/\y.N=old.N/\l.aw=false/\l.sv=false/\old.L=true/\old.K=false/\old.S=false
 |.jI old l=>c=Bh P n b o kind old.L old.K old.S l.aw l.sv l.it/\y.N=old.N
 |.t1 sv=>c=T1 P n b o kind sv
 |.fA sv=>c=PK P n b o kind sv
 |.tq=>c=TQ P n b o kind
 |.up sv=>c=UP P n b o kind sv
 |.add old sv=>c=AD P n b o kind (if !sv||decide (old.N=1)then -11 else -7)
 |.le=>c=N3 P n b o kind\/c=Mb P n b o kind
 |.la=>c=N4 P n b o kind\/c=N6 P n b o kind
 |.back=>c=BK n kind
 |.E0=>c=U0 P n b o kind
 |.ur=>c=UR P n b o kind
 |.ud=>c=UD P n b o kind
 |.held=>c=qe P n b o kind
 |.ir old=>c=UC P n b o kind/\y.N=old.N/\old.L=false/\old.K=false/\old.S=false/\old.N≠0
 |.ub=>c=Mc P n b o kind
 |.give=>c=G7 P n b o kind\/c=G9 P n b o kind
 |.ue=>c=UE P n b o kind
 |.Bj=>c=Ro n kind
def mO(p:qR)(cs:List Frame)(g:Goroutine):Prop:=∃c y fr frs,Db P n b o kind p c y/\y.ok/\FR y c.1 fr/\lj y c.2 frs/\g=G fr (frs++cs)
end
theorem mO.running{P:Program}{n:xy}{b o:Nat}{kind:CallKind}{p:qR}{cs:List Frame}{g:Goroutine}(h:mO P n b o kind p cs g):g.status=.running/\g.offers=none:=by obtain⟨c,y,fr,frs,_,_,_,_,rfl⟩:=h;exact⟨rfl,rfl⟩
structure ShM(b o:Nat)(w:World)(s:Mu.Sh):Prop where
 cw:w.cell? ⟨b,o,none⟩=some (.int .i32 (enc s.w.L s.w.K s.w.S s.w.N))
 cs:w.cell? ⟨b,o+1,none⟩=some (.int .u32 s.ms)
 fz:∀i,w.frozen? ⟨b,i,none⟩=false
def MW(b o:Nat)(w w':World):Prop:=(lx w.os w'.os/\w'.output=w.output)/\(w'.heap=w.heap\/∃i v,(i=o\/i=o+1)/\flat v=true/\w'.heap=(w.setCell ⟨b,i,none⟩ v).heap)
def EvM(b o:Nat)(es:Array Event):Prop:=∀e∈es,(e.loc=.mark .disable\/e.loc=.mark .enable)\/(∃i,(i=o\/i=o+1)/\e.loc=.cell ⟨b,i,none⟩/\e.sync=true)
theorem oR{w w':World}(h:w'.heap=w.heap)(a:Addr):w'.cell? a=w.cell? a/\w'.frozen? a=w.frozen? a:=by simp[World.cell?,World.frozen?,h]
theorem ShM.heap{b o:Nat}{w w':World}{s:Mu.Sh}(h:ShM b o w s)(e:w'.heap=w.heap):ShM b o w' s:=⟨by rw[(oR e _).1];exact h.cw,by rw[(oR e _).1];exact h.cs,λi=>by rw[(oR e _).2];exact h.fz i⟩
theorem js{w:World}{b i:Nat}{u v:Value}(h:w.cell? ⟨b,i,none⟩=some u):(w.setCell ⟨b,i,none⟩ v).cell? ⟨b,i,none⟩=some v:=by
 unfold World.cell? at h ⊢;unfold World.setCell
 grind
theorem m7{w:World}{a:Addr}{v:Value}{b i:Nat}:(w.setCell a v).frozen? ⟨b,i,none⟩=w.frozen? ⟨b,i,none⟩:=by simp_all
theorem ShM.aP{b o:Nat}{w:World}{s:Mu.Sh}(h:ShM b o w s)(w':Mu.Wd):ShM b o (w.setCell ⟨b,o,none⟩ (.int .i32 (enc w'.L w'.K w'.S w'.N))) {s with w:=w'}:=⟨js h.cw,by rw[de (by simp)];exact h.cs,λi=>by rw[m7];exact h.fz i⟩
theorem ShM.Df{b o:Nat}{w:World}{s:Mu.Sh}(h:ShM b o w s)(m:Nat):ShM b o (w.setCell ⟨b,o+1,none⟩ (.int .u32 m)) {s with ms:=m}:=⟨by rw[de (by simp)];exact h.cw,js h.cs,λi=>by rw[m7];exact h.fz i⟩
theorem eF{b o:Nat}:EvM b o #[]:=λe h=>by simp at h
theorem E1{b o i:Nat}(a:i=o\/i=o+1):EvM b o #[⟨.cell ⟨b,i,none⟩,false,true⟩]:=λe h=>by simp_all
theorem jM{b o i:Nat}(a:i=o\/i=o+1):EvM b o #[⟨.cell ⟨b,i,none⟩,false,true⟩,⟨.cell ⟨b,i,none⟩,true,true⟩]:=λe h=>by grind
theorem uB{b o:Nat}:EvM b o (semEvents ⟨b,o+1,none⟩):=λe h=>by
 simp[semEvents]at h
 grind
section
variable{P:Program}{n:xy}(C:eY P n)(X:eZ P n){b o:Nat}{kind:CallKind}{Wd:World->Prop}{cs:List Frame}{g:Goroutine}{w:World}{main:Bool}
variable(hWd:∀w,Wd w->∃v,w.cell? ⟨b,o,none⟩=some v)
def Next(P:Program)(n:xy)(b o:Nat)(kind:CallKind)(Wd:World->Prop)(cs:List Frame)(p:qR)(a:Goroutine):Prop:=a.status=.running/\∃c,qO P Wd a c/\mO P n b o kind p cs c
theorem nxt{y:Sy}{c c':cB}{live:List Nat}{v:SV}{x:Value}{fr:Frame}{frs:List Frame}{p:qR}(g:aN P (Fl.of y) live c v=some c')(f:y.ok)(h:FR y c.1 fr)(d:lj y c.2 frs)(i:SR y v x)(j:Db P n b o kind p c' y):
 Next P n b o kind Wd cs p (G (fr.finish x) (frs++cs)):=by
 obtain⟨e,a,k,l,m⟩:=N7 (Wd:=Wd) g f h d i;exact⟨rfl,_,m cs,c',y,e,a,j,f,k,l,rfl⟩
def y0:Sy:=⟨2,2,1,0⟩
theorem qS:y0.ok:=by unfold Sy.ok y0;decide
theorem Dg(h:∃fn body,P.funcs[n.lock]?=some fn/\fn.body=some body/\fn.ntmps=6):∃e,qO P Wd (G (Frame.enter P n.lock #[.pointer (some ⟨b,o,none⟩)] kind) cs) e/\mO P n b o kind .ld cs e:=by
 obtain⟨fn,body,a,i,g⟩:=h
 have j:FR y0 (di P n.lock [pt b o] kind) (Frame.enter P n.lock #[.pointer (some ⟨b,o,none⟩)] kind):=by
  refine⟨by simp[di,a,Frame.enter],by simp[di,a,i,Frame.enter],by simp[di,a,Frame.enter],by simp[di,a,Frame.enter,Bb.of],by simp[di,a,Frame.enter],rfl,by simp[di,a,g,Frame.enter],λt=>?_⟩;simp only[di,a,Frame.enter,g,Option.map_some,Option.getD_some]
  match t with
  |0=>rfl
  |1|2|3|4|5=>trivial
  | t+6=>
    have:([pt b o]++List.replicate (6 - [pt b o].length) SV.bJ).getD (t+6) .bJ=.bJ:=by simp_all
    rw[this];trivial
 obtain⟨m,d,c,k,l,p⟩:=kO (Wd:=Wd) (P:=P) (f:=kl) (y:=y0) ⟨by decide,by decide,rfl,rfl,rfl,rfl,rfl,by decide⟩ 400 j (st:=[]) (frs:=[]) trivial;have q:=p cs;exact⟨_,⟨m,q⟩,_,y0,d,c,rfl,qS,k.keep [0],l.keep [],rfl⟩
theorem I1:∀g:FuncId,Mark.disable≠.extern g:=λg h=>by cases h
theorem I2:∀g:FuncId,Mark.enable≠.extern g:=λg h=>by cases h
include C X in
theorem zv(h:mO P n b o kind .ld cs g):∃d,stepG P main g w=.go d w #[⟨.mark .disable,false,true⟩]/\Next P n b o kind Wd cs .fZ d:=by obtain⟨c,y,fr,frs,rfl,f,e,a,rfl⟩:=h;exact⟨_,dV I1 e (C.o1 b o kind).1 (by rw[show(LD P n b o kind).1.kind=_ from(C.o1 b o kind).2];decide) X.iF,nxt (C.e1 _ b o kind) f e a rfl rfl⟩
include C X in
theorem E2(h:mO P n b o kind .ud cs g):∃d,stepG P main g w=.go d w #[⟨.mark .disable,false,true⟩]/\Next P n b o kind Wd cs .held d:=by obtain⟨c,y,fr,frs,rfl,f,e,a,rfl⟩:=h;exact⟨_,dV I1 e (C.U7 b o kind) (by simp[UD,nI]) X.iF,nxt (C.u4 _ b o kind) f e a rfl rfl⟩
include C X in
theorem zw(h:mO P n b o kind .ue cs g):∃d,stepG P main g w=.go d w #[⟨.mark .enable,false,true⟩]/\Next P n b o kind Wd cs .Bj d:=by obtain⟨c,y,fr,frs,rfl,f,e,a,rfl⟩:=h;exact⟨_,dV I2 e (C.U9 b o kind) (by simp[UE,nI]) X.en,nxt (C.UX _ b o kind) f e a rfl rfl⟩
include C X in
theorem E3(h:mO P n b o kind .ur cs g):∃d,stepG P main g w=.go d w #[⟨.mark (.releaseMerge ⟨b,o,none⟩),false,true⟩]/\Next P n b o kind Wd cs .ud d:=by obtain⟨c,y,fr,frs,rfl,f,e,a,rfl⟩:=h;exact⟨_,ew (λi g h=>by cases h) e (C.U6 b o kind) (by simp[UR,nI]) X.rel,nxt (C.u3 _ b o kind) f e a rfl rfl⟩
include C X in
theorem E4(h:mO P n b o kind .la cs g):∃e,stepG P main g w=.go e w #[⟨.mark (.acquire ⟨b,o,none⟩),false,true⟩]/\Next P n b o kind Wd cs .back e:=by
 obtain⟨c,y,fr,frs,i,f,d,a,rfl⟩:=h;rcases i with rfl|rfl
 . exact⟨_,ew (λj g h=>by cases h) d (C.o5 b o kind) (by simp[N4,lF]) X.acq,nxt (C.e6 _ b o kind) f d a rfl rfl⟩
 . exact⟨_,ew (λj g h=>by cases h) d (C.U4 b o kind) (by simp[N6,cu]) X.acq,nxt (C.uA _ b o kind) f d a rfl rfl⟩
include X hWd in
theorem through{y:Sy}{c c':cB}{live:List Nat}{fr:Frame}{frs:List Frame}{p:qR}(f:jL c.1=some (n.tM,n.tU,pt b o))(g:aN P (Fl.of y) live c (pt b o)=some c')(h:y.ok)(e:FR y c.1 fr)(d:lj y c.2 frs)(i:Db P n b o kind p c' y):
 ∃a,qO P Wd (G fr (frs++cs)) a/\mO P n b o kind p cs a:=by
 obtain⟨t,j,k,l⟩:=X.Va;obtain⟨_,a,m,q⟩:=nxt (P:=P) (n:=n) (b:=b) (o:=o) (kind:=kind) (Wd:=Wd) (cs:=cs) (x:=.pointer (some ⟨b,o,none⟩)) g h e d rfl i;refine⟨a,qO.trans (qd.yf ⟨rfl,λmain w r=>?_⟩) m,q⟩;exact sf e f j k l (hWd w r)
include C X hWd in
theorem E5(h:mO P n b o kind .le cs g):∃s,stepG P main g w=.go s w #[⟨.mark .enable,false,true⟩]/\Next P n b o kind Wd cs .la s:=by
 obtain⟨c,y,fr,frs,t,e,f,a,rfl⟩:=h;rcases t with rfl|rfl
 . refine⟨_,dV I2 f (C.o3 b o kind) (by simp[N3,lF]) X.en,rfl,?_⟩
   obtain⟨i,d,j,k,l⟩:=N7 (Wd:=Wd) (x:=.tuple #[]) (C.e4 _ b o kind) e f a rfl;obtain⟨m,q,r⟩:=through X hWd (cs:=cs) (p:=.la) (C.o4 b o kind) (C.e5 _ b o kind) e j k (.inl rfl);exact⟨m,(l cs).trans q,r⟩
 . refine⟨_,dV I2 f (C.U2 b o kind) (by simp[Mb,cu]) X.en,rfl,?_⟩
   obtain⟨i,d,j,k,l⟩:=N7 (Wd:=Wd) (x:=.tuple #[]) (C.uz _ b o kind) e f a rfl;obtain⟨m,q,r⟩:=through X hWd (cs:=cs) (p:=.la) (C.U3 b o kind) (C.H5 _ b o kind) e j k (.inr rfl);exact⟨m,(l cs).trans q,r⟩
include C X hWd in
theorem vC{v:Value}(j:w.cell? ⟨b,o,none⟩=some v)(h:mO P n b o kind .E0 cs g):∃d,stepG P main g w=.go d w #[]/\Next P n b o kind Wd cs .ur d:=by
 obtain⟨c,y,fr,frs,rfl,e,f,a,rfl⟩:=h;refine⟨_,oQ f (C.TM b o kind).1 X.RE (by rw[show(U0 P n b o kind).1.fn=_ from(C.TM b o kind).2.2];exact X.nU) j,rfl,?_⟩;obtain⟨k,i,l,m,q⟩:=N7 (Wd:=Wd) (x:=v) (C.u1 _ b o kind) e f a trivial;obtain⟨r,s,t⟩:=through X hWd (cs:=cs) (p:=.ur) (C.U5 b o kind) (C.u2 _ b o kind) e l m rfl;exact⟨r,(q cs).trans s,t⟩
include C X in
theorem MI{sv:Bool}(h:mO P n b o kind (.t1 sv) cs g):∃f,stepG P main g w=.go f w.later #[]/\Next P n b o kind Wd cs (.fA sv) f:=by
 obtain⟨c,y,fr,frs,rfl,j,i,d,rfl⟩:=h;refine⟨_,yl i (C.RB b o kind sv) (by simp[T1,cu]) X.nano X.IX,?_⟩;have e:=i.re (y':={y with ws:=((w.os.mono+w.tick:Nat):Int)}) (.inl rfl) (.inl rfl) (.inr (by cases sv<;>rfl)) (.inl rfl);have a:=d.fF (y':={y with ws:=((w.os.mono+w.tick:Nat):Int)}) (by simpa[T1,cu]using C.p2 b o kind);exact nxt (y:={y with ws:=((w.os.mono+w.tick:Nat):Int)}) (x:=.int .i64 ((w.os.mono+w.tick:Nat):Int)) (C.vB _ b o kind sv) j e a rfl rfl
end
end Go.bu

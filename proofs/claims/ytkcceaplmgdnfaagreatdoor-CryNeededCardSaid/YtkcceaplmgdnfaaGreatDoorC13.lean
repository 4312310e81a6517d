import Derived.Conc.ClockLaws
import Derived.Conc.MarkLaws
import Derived.Conc.AtomicLaws2
import Derived.Conc.SmallLaws
import Derived.Laws.LoneSync
import Derived.Test.YtkcceaplmgdnfaaGreatDoorC12
set_option linter.all false
namespace Go.bQ
open Go.Conc
def bb(s:jJ):Option (FuncId × List SV):=
 match s.mode,s.todo with
 | .run, .inRegion ops (i::_)::_=>match ops[i]? with
   | some o=>match zJ ops s.env o with
     | some true=>match o.op with
       | .call c=>match c.callee with
         |.value (.func f)=>some (f,c.args.toList.map (sv s.env))
         |_=>none
       |_=>none
     |_=>none
   |none=>none
 |_,_=>none
def qL(s:jJ):Option (TypeId × SV):=
 match s.mode,s.todo with
 | .run,.inRegion ops (i::_)::_=>match ops[i]? with
   | some o=>match zJ ops s.env o with
     | some true=>match o.op with
       |.load t x=>some (t,sv s.env x)
       |_=>none
     |_=>none
   |none=>none
 |_,_=>none
structure Ext(P:acD)(f:FuncId)(e:abY->Sem Value):Prop where
 ex:∃fn,P.funcs[f]?=some fn/\(fn.name==  "runtime.NumGoroutine")=false/\fn.body.isNone=true/\Extern.findNext fn=none/\Extern.find fn=some e
theorem dq {y:Sy} {s:jJ} {fr:Frame} {f:FuncId} {svs:acA} (j:FR y s fr) (h:bb s=some (f,svs)) :
 ∃ ops i rest kk o as a,ops[i]? = some o∧Region.wanted o (yielded ops fr.tmps)=true∧o.op = .call { callee:=.value (.func f),args:=as,argTypes:=a }∧svs=as.toList.map (sv s.env) ∧
   fr=(fr.at ⟨fr.tmps,fr.defers⟩ (.inRegion ops (i :: rest) :: kk))∧∀ v,fr.at ((⟨fr.tmps,fr.defers⟩:Act).put o.dst v) (.inRegion ops rest :: kk)=fr.finish v:=by
 have d:=j;obtain⟨fn,tmps,todo,defs,mode,kind,ro⟩:=fr;obtain⟨n,e,p,b,q,k,r,t⟩:=j;simp only at n e p b q k r t;subst k;unfold bb at h;split at h
 . rename_i ops i rest kk u w
   rw[u] at b;rw[w] at e;have b:mode = .run:=b;subst b;subst e;split at h
   . rename_i o l
     split at h
     . rename_i x
       split at h
       . rename_i c z
         split at h
         . rename_i g m
           simp only[kn,zG] at h;obtain⟨rfl,rfl⟩:=h;obtain⟨callee,args,a⟩:=c;simp only at m;subst m;refine⟨ops,i,rest,kk,o,args,a,l,pG d x,z,rfl,rfl,fun v=>?_⟩
           simp only[Frame.finish,l,Option.bind_some,Act.put,Frame.at]
           grind
         . cases h
       . cases h
     . cases h
   . cases h
 . cases h
section
variable{P:acD}{main:Bool}{y:Sy}{s:jJ}{fr:Frame}{f:FuncId}{svs:acA}{cs:acb}{w:World}
theorem CG{fr:Frame}(x:acE):(⟨fr.tmps,fr.defers⟩:Act).eval x=fr.eval x:=by cases x<;>rfl
theorem Bh {as:abQ} (b:FR y s fr) {svs:acA} (h:svs=as.toList.map (sv s.env)):∀ (j:Nat) (v:SV),svs[j]? = some v->∃ x,(as.map (⟨fr.tmps,fr.defers⟩:Act).eval)[j]? = some x∧SR y v x:=fun j v a=>by
 subst h;rw[ZT,abv] at a;obtain⟨x,c,rfl⟩:=Option.map_eq_some_iff.1 a;exact⟨fr.eval x,by simp[c,CG],b.sv x⟩
theorem eP {m:Mark} (d:∀ g,m ≠ .extern g) (c:FR y s fr) (h:bb s=some (f,svs)) (e:s.kind ≠ .early) (j:Ext P f (fun _=>do mark m;pure Extern.Race.none_)):stepG P main (G fr cs) w = .go (G (fr.finish (.tuple #[])) cs) w #[⟨.mark m,false,true⟩]:=by
 obtain⟨ops,i,rest,kk,o,as,k,l,n,p,x,z,A⟩:=dq c h;obtain⟨fn,q,r,t,u,v⟩:=j.ex;have:=stepG_mark0 (P:=P) (main:=main) (b:=fr) (a:=⟨fr.tmps,fr.defers⟩) (kk:=kk) (cs:=cs) (w:=w) (rest:=rest) m d l n (by rw[c.kind];exact e) p q r t u v
 grind
theorem fD {mk:Addr->Mark} (j:∀ ad g,mk ad ≠ .extern g) {ad:Addr} (d:FR y s fr) (h:bb s=some (f,[.lit (.pointer (some ad))])) (k:s.kind ≠ .early) (l:Ext P f (Extern.Race.marked mk)):stepG P main (G fr cs) w = .go (G (fr.finish (.tuple #[])) cs) w #[⟨.mark (mk ad),false,true⟩]:=by
 obtain⟨ops,i,rest,kk,o,as,m,n,p,q,r,B,C⟩:=dq d h;obtain⟨fn,t,u,v,z,A⟩:=l.ex;obtain⟨x,e,c⟩:=Bh d r 0 _ rfl;have c:x = .pointer (some ad):=c;rw[c] at e;have:=stepG_markAt (P:=P) (main:=main) (b:=fr) (a:=⟨fr.tmps,fr.defers⟩) (kk:=kk) (cs:=cs) (w:=w) (rest:=rest) mk j n p (by rw[d.kind];exact k) q t u v z A e
 grind
theorem CH {as:abQ} {a b c:SV} (h:[a,b,c]=as.toList.map (sv s.env)):∃ x z u,as=#[x,z,u]∧sv s.env x=a∧sv s.env z=b∧sv s.env u=c:=by
 obtain⟨l⟩:=as
 match l,h with
 | [x,z,u],h=>grind
theorem Kw {as:abQ} {a b:SV} (h:[a,b]=as.toList.map (sv s.env)):∃ x z,as=#[x,z]∧sv s.env x=a∧sv s.env z=b:=by
 obtain⟨l⟩:=as
 match l,h with
 | [x,z],h=>grind
theorem Kx {as:abQ} {a:SV} (h:[a]=as.toList.map (sv s.env)):∃ x,as=#[x]∧sv s.env x=a:=by
 obtain⟨l⟩:=as
 match l,h with
 | [x],h=>grind
theorem iK(b:FR y s fr){x:acE}{a:SV}(h:sv s.env x=a):SR y a ((⟨fr.tmps,fr.defers⟩:Act).eval x):=by subst h;rw[CG];exact b.sv x
theorem hQ {k:IntKind} {ad:Addr} {a b:SV} {v n:Int} (c:FR y s fr) (h:bb s=some (f,[.lit (.pointer (some ad)),a,b])) (e:s.kind ≠ .early) (g:Ext P f (Extern.Atomic.casT (.int k)))
 (j:∀ x,SR y a x->x = .int k v) (hb:∀ x,SR y b x->x = .int k n) (l:w.cell? ad=some (.int k v)) (m:w.frozen? ad=false) :
 stepG P main (G fr cs) w = .go (G (fr.finish (.bool true)) cs) (w.setCell ad (.int k n)) #[⟨.cell ad,false,true⟩,⟨.cell ad,true,true⟩]:=by
 obtain⟨ops,i,rest,kk,o,as,p,q,r,t,A,J,K⟩:=dq c h;obtain⟨fn,B,C,D,E,F⟩:=g.ex;obtain⟨x,z,u,rfl,H,d,I⟩:=CH A;have:=stepG_cas_hit (P:=P) (main:=main) (b:=fr) (a:=⟨fr.tmps,fr.defers⟩) (kk:=kk) (cs:=cs) (w:=w) (rest:=rest) q r (by rw[c.kind];exact e) t B C D E k F (iK c H) (j _ (iK c d)) (hb _ (iK c I)) l m
 grind
theorem iC {k:IntKind} {ad:Addr} {a b:SV} {v old n:Int} (c:FR y s fr) (h:bb s=some (f,[.lit (.pointer (some ad)),a,b])) (g:s.kind ≠ .early) (j:Ext P f (Extern.Atomic.casT (.int k)))
 (l:∀ x,SR y a x->x = .int k old) (hb:∀ x,SR y b x->x = .int k n) (m:w.cell? ad=some (.int k v)) (p:w.frozen? ad=false) (d : ¬ v=old) :
 stepG P main (G fr cs) w = .go (G (fr.finish (.bool false)) cs) w #[⟨.cell ad,false,true⟩]:=by
 obtain⟨ops,i,rest,kk,o,as,q,r,t,A,B,K,L⟩:=dq c h;obtain⟨fn,C,D,E,F,H⟩:=j.ex;obtain⟨x,z,u,rfl,I,e,J⟩:=CH B;have:=stepG_cas_miss (P:=P) (main:=main) (b:=fr) (a:=⟨fr.tmps,fr.defers⟩) (kk:=kk) (cs:=cs) (w:=w) (rest:=rest) r t (by rw[c.kind];exact g) A C D E F k H (iK c I) (l _ (iK c e)) (hb _ (iK c J)) m p d
 grind
theorem pH {k:IntKind} {ad:Addr} {a:SV} {v d:Int} (c:FR y s fr) (h:bb s=some (f,[.lit (.pointer (some ad)),a])) (g:s.kind ≠ .early) (j:Ext P f (Extern.Atomic.update (Op.intArith .add) k true))
 (l:∀ x,SR y a x->x = .int k d) (m:w.cell? ad=some (.int k v)) (n:w.frozen? ad=false) :
 stepG P main (G fr cs) w = .go (G (fr.finish (.int k (k.wrap (v+d)))) cs) (w.setCell ad (.int k (k.wrap (v+d)))) #[⟨.cell ad,false,true⟩,⟨.cell ad,true,true⟩]:=by
 obtain⟨ops,i,rest,kk,o,as,p,q,r,t,u,H,I⟩:=dq c h;obtain⟨fn,A,B,C,D,E⟩:=j.ex;obtain⟨x,z,rfl,F,e⟩:=Kw u;have:=stepG_add_atomic (P:=P) (main:=main) (b:=fr) (a:=⟨fr.tmps,fr.defers⟩) (kk:=kk) (cs:=cs) (w:=w) (rest:=rest) q r (by rw[c.kind];exact g) t A B C D k E (iK c F) (l _ (iK c e)) m n
 grind
theorem sD {ad:Addr} {l:acA} {n:Int} (d:FR y s fr) (h:bb s=some (f,.lit (.pointer (some ad)) :: l)) (g:s.kind ≠ .early) (j:Ext P f Extern.Sync.semacquire) (k:w.cell? ad=some (.int .u32 n)) (m:n≠0) (p:w.frozen? ad=false) :
 stepG P main (G fr cs) w = .go (G (fr.finish (.tuple #[])) cs) (w.setCell ad (.int .u32 (n-1))) (semEvents ad):=by
 obtain⟨ops,i,rest,kk,o,as,q,r,t,u,v,E,F⟩:=dq d h;obtain⟨fn,z,A,B,C,D⟩:=j.ex;obtain⟨x,e,c⟩:=Bh d v 0 _ rfl;have c:x = .pointer (some ad):=c;rw[c] at e;have:=stepG_semacquire (P:=P) (main:=main) (b:=fr) (a:=⟨fr.tmps,fr.defers⟩) (kk:=kk) (cs:=cs) (w:=w) (rest:=rest) r t (by rw[d.kind];exact g) u z A B C D e k m p
 grind
theorem zP {ad:Addr} {l:acA} (d:FR y s fr) (h:bb s=some (f,.lit (.pointer (some ad)) :: l)) (g:Ext P f Extern.Sync.semacquire) (j:w.cell? ad=some (.int .u32 0)) :
 stepG P main (G fr cs) w = .go { G fr cs with status:=.blocked } w #[]:=by
 obtain⟨ops,i,rest,kk,o,as,k,m,n,p,q,A,B⟩:=dq d h;obtain⟨fn,r,t,u,v,z⟩:=g.ex;obtain⟨x,e,c⟩:=Bh d q 0 _ rfl;have c:x = .pointer (some ad):=c;rw[c] at e;have:=stepG_semacquire_wait (P:=P) (main:=main) (b:=fr) (a:=⟨fr.tmps,fr.defers⟩) (kk:=kk) (cs:=cs) (w:=w) (rest:=rest) m n p r t u v z e j
 grind
theorem og {ad:Addr} {l:acA} {n:Int} (d:FR y s fr) (h:bb s=some (f,.lit (.pointer (some ad)) :: l)) (g:s.kind ≠ .early) (j:Ext P f Extern.Sync.semrelease) (k:w.cell? ad=some (.int .u32 n)) (m:w.frozen? ad=false) :
 stepG P main (G fr cs) w = .go (G (fr.finish (.tuple #[])) cs) (w.setCell ad (.int .u32 (IntKind.u32.wrap (n+1)))) (semEvents ad):=by
 obtain⟨ops,i,rest,kk,o,as,p,q,r,t,u,D,E⟩:=dq d h;obtain⟨fn,v,z,A,B,C⟩:=j.ex;obtain⟨x,e,c⟩:=Bh d u 0 _ rfl;have c:x = .pointer (some ad):=c;rw[c] at e;have:=stepG_semrelease (P:=P) (main:=main) (b:=fr) (a:=⟨fr.tmps,fr.defers⟩) (kk:=kk) (cs:=cs) (w:=w) (rest:=rest) q r (by rw[d.kind];exact g) t v z A B C e k m
 grind
theorem zQ (d:FR y s fr) (h:bb s=some (f,svs)) (e:s.kind ≠ .early) (g:Ext P f Extern.OsHooks.nano) (j:∃ fn,P.funcs[f]? = some fn∧fn.norace=true) :
 stepG P main (G fr cs) w = .go (G (fr.finish (.int .i64 ((w.os.mono+w.tick:Nat):Int))) cs) w.later #[]:=by
 obtain⟨ops,i,rest,kk,o,as,k,l,m,n,x,z,A⟩:=dq d h;obtain⟨fn,p,q,r,t,u⟩:=g.ex;obtain⟨c,B,v⟩:=j;obtain rfl:c=fn:=by grind
 have:=stepG_nanotime (P:=P) (main:=main) (b:=fr) (a:=⟨fr.tmps,fr.defers⟩) (kk:=kk) (cs:=cs) (w:=w) (rest:=rest) l m (by rw[d.kind];exact e) n p q r t u v
 grind
theorem HM {n:Int} (d:FR y s fr) (h:bb s=some (f,[.lit (.int .i64 n)])) (g:s.kind ≠ .early) (v:Ext P f Extern.Sync.canSpin) :
 ∃ b w',stepG P main (G fr cs) w = .go (G (fr.finish (.bool b)) cs) w' #[]∧(b=true->n<4)∧(w'=w∨w'=w.asked):=by
 obtain⟨ops,i,rest,kk,o,as,z,j,l,m,e,B,C⟩:=dq d h;obtain⟨fn,p,q,r,t,u⟩:=v.ex;obtain⟨x,rfl,A⟩:=Kx e;have c:(⟨fr.tmps,fr.defers⟩:Act).eval x = .int .i64 n:=iK d A
 by_cases e:n<4
 . have:=stepG_canSpin_ask (P:=P) (main:=main) (b:=fr) (a:=⟨fr.tmps,fr.defers⟩) (kk:=kk) (cs:=cs) (w:=w) (rest:=rest) j l (by rw[d.kind];exact g) m p q r t u (n:=n) (k:=.i64) (by simp[c]) e
   grind
 . have:=stepG_canSpin_no (P:=P) (main:=main) (b:=fr) (a:=⟨fr.tmps,fr.defers⟩) (kk:=kk) (cs:=cs) (w:=w) (rest:=rest) j l (by rw[d.kind];exact g) m p q r t u (n:=n) (k:=.i64) (by simp[c]) (by omega)
   grind
theorem tW {v:Value} (c:FR y s fr) (h:bb s=some (f,svs)) (d:s.kind ≠ .early) (e:Ext P f (fun _=>pure v)):stepG P main (G fr cs) w = .go (G (fr.finish v) cs) w #[]:=by
 obtain⟨ops,i,rest,kk,o,as,g,j,k,l,t,u,x⟩:=dq c h;obtain⟨fn,m,n,p,q,r⟩:=e.ex;have:=stepG_entry (P:=P) (main:=main) (b:=fr) (a:=⟨fr.tmps,fr.defers⟩) (kk:=kk) (cs:=cs) (w:=w) (rest:=rest) (v:=v) (w':=w) (evs:=#[]) j k (by rw[c.kind];exact d) l m n p q r (by simp) (by simp) (by simp)
 grind
theorem Ky{α β:Type}{P:acD}{f:α->Sem β}(s:Sem α):∀{a:α},m7 P s=some a->∀w es,(s.bind f).runT P w es=(f a).runT P w es:=by
 induction s with
 |pure b=>intro a h w es;simp only[m7,kn]at h;subst h;rfl
 |program g c=>intro a h w es;simp only[m7]at h;exact c P h w es
 |_=>intro a h;simp[m7]at h
theorem qt{t:Nat}{ad:Addr}{v:Value}(q:FR y s fr)(h:qL s=some (t,.lit (.pointer (some ad))))(C:m7 P (isAgg t)=some false)(D:∃fn,P.funcs[s.fn]?=some fn/\fn.norace=true)(E:w.cell? ad=some v):
 stepG P main (G fr cs) w=.go (G (fr.finish v) cs) w #[]:=by
 have f:=q;obtain⟨fn,tmps,todo,defs,mode,kind,ro⟩:=fr;obtain⟨r,i,F,g,H,u,I,J⟩:=q;simp only at r i F g H u I J;subst u;unfold qL at h;split at h
 . rename_i ops z rest A K j
   rw[K]at g;rw[j]at i;have g:mode=.run:=g;subst g;subst i;split at h
   . rename_i o L
     split at h
     . rename_i M
       split at h
       . rename_i a x k
         simp only[kn,zG]at h;obtain⟨rfl,N⟩:=h;have d:=f.sv x;rw[N]at d;have d:Frame.eval ⟨fn,tmps,.inRegion ops (z::rest)::A,defs,.run,kind,none⟩ x=.pointer (some ad):=d;obtain⟨O,l,p⟩:=D;subst r;rw[nG L (pG f M)];have hex:execOp (Frame.eval ⟨s.fn,tmps,.inRegion ops (z::rest)::A,defs,.run,kind,none⟩) o=Sem.bind (Instr.loadAt a (.pointer (some ad))) (λv=>pure (Next.value v)):=by simp only[execOp,k,d];rfl
         have e:(Sem.bind (Instr.loadAt a (.pointer (some ad))) (λv=>(pure (Next.value v):Sem Next))).runT P w #[]=(.ok (.value v) w,#[⟨.cell ad,false,false⟩]):=by
          have Q:Instr.loadAt a (.pointer (some ad))=Sem.bind (isAgg a) (λb=>if b=true then Sem.bind (sizeOf a) (λn=>Sem.bind (loadCells ad n) (λc=>pure (.agg c)))else load ad):=rfl
          rw[Q]
          have R:Sem.bind (Sem.bind (isAgg a) (λb=>if b=true then Sem.bind (sizeOf a) (λn=>Sem.bind (loadCells ad n) (λc=>pure (.agg c)))else load ad)) (λv=>(pure (Next.value v):Sem Next))=
           Sem.bind (isAgg a) (λb=>Sem.bind (if b=true then Sem.bind (sizeOf a) (λn=>Sem.bind (loadCells ad n) (λc=>pure (.agg c)))else load ad) (λv=>(pure (Next.value v):Sem Next))):=bind_assoc (m:=Sem) _ _ _
          rw[R,Ky _ C];show(Sem.bind (load ad) (λv=>(pure (Next.value v):Sem Next))).runT P w #[]=_
          unfold load;show Sem.runT P (Sem.load .plain ad λv=>pure (Next.value v)) w #[]=_
          simp only[Sem.runT,E];rfl
         rw[hex]
         have S:seen P s.fn #[⟨.cell ad,false,false⟩]=#[]:=by rw[seen_def];simp[l,p,seenStep]
         simp only[stepG.apply,if_true,e,GStep.after]
         by_cases B:(kind==CallKind.early)=true
         . simp[B,gK,G]
         . simp[B,S,G]
       . cases h
     . cases h
   . cases h
 . cases h
def kz(s:jJ):Option (TypeId × TypeId × SV):=
 match s.mode,s.todo with
 | .run,.inRegion ops (i::_)::_=>match ops[i]? with
   | some o=>match zJ ops s.env o with
     | some true=>match o.op with
       |.convert a b x=>some (a,b,sv s.env x)
       |_=>none
     |_=>none
   |none=>none
 |_,_=>none
theorem tX{a b t:TypeId}{ad:Addr}(l:FR y s fr)(h:kz s=some (a,b,.lit (.pointer (some ad))))(m:P.underlying a=some (.pointer t))(n:P.underlying b=some .unsafePointer)(p:(P.info? t).map (λi=>decide (i.size=0))=some false)(f:∃v,w.cell? ad=some v):
 stepG P main (G fr cs) w=.go (G (fr.finish (.pointer (some ad))) cs) w #[]:=by
 obtain⟨v,f⟩:=f;have d:=l;obtain⟨fn,tmps,todo,defs,mode,kind,ro⟩:=fr;obtain⟨z,g,A,e,B,q,C,D⟩:=l;simp only at z g A e B q C D;subst q;unfold kz at h;split at h
 . rename_i ops r rest u E j
   rw[E]at e;rw[j]at g;have e:mode=.run:=e;subst e;subst g;split at h
   . rename_i o F
     split at h
     . rename_i H
       split at h
       . rename_i I J x k
         simp only[kn,zG]at h;obtain⟨rfl,rfl,K⟩:=h;have c:=d.sv x;rw[K]at c;have c:Frame.eval ⟨fn,tmps,.inRegion ops (r::rest)::u,defs,.run,kind,none⟩ x=.pointer (some ad):=c;rw[nG F (pG d H)];have hex:execOp (Frame.eval ⟨fn,tmps,.inRegion ops (r::rest)::u,defs,.run,kind,none⟩) o=(do pure (.value (<-convert I J (.pointer (some ad)))):Sem Next):=by simp only[execOp,k,c]
         have L:=run_convert_to_unsafe m n p f;have M:=events_convert_to_unsafe m n p f #[];rw[hex];simp[stepG.apply,L,M,GStep.after,gK,G,Result.andThen]
       . cases h
     . cases h
   . cases h
 . cases h
end
def dH(P:acD)(f:FuncId)(args:acA)(kind:acv):jJ:=
 match P.funcs[f]? with
 |some fn=>⟨f,[.code (fn.body.getD .skip)],args++List.replicate (fn.ntmps-args.length) .cE,[],.run,kind⟩
 |none=>⟨f,[],args,[],.run,kind⟩
abbrev cP:=jJ × List jJ
def next(P:acD)(a:Fl)(c:cP)(v:SV):cP:=match xh c.1 v with|some s=>sgo P a 400 s c.2|none=>c
def pt(b o:Nat):SV:=.lit (.pointer (some ⟨b,o,none⟩))
def un:SV:=.lit (.tuple #[])
def tt:SV:=.lit (.bool true)
def ff:SV:=.lit (.bool false)
def Gt(live:acr)(env:acA):acA:=(List.range env.length).zipWith (λi v=>if live.contains i then v else .cE) env
def keep(live:acr)(s:jJ):jJ:={s with env:=Gt live s.env}
def Kz(env:acA):abJ->acA
 |[]=>env
 |(i,v)::l=>Kz (env.set i v) l
theorem FR.keep{y:Sy}{s:jJ}{fr:Frame}(h:FR y s fr)(live:acr):FR y (keep live s) fr:=by
 refine⟨h.fn,h.todo,h.defers,h.mode,h.kind,h.ro,?_,λt=>?_⟩
 . rw[h.size]
   show s.env.length=(Gt live s.env).length;rw[Gt,List.length_zipWith,aaw,Nat.min_self]
 . have:=h.env t
   simp only[Go.bQ.keep,Gt];rw[zA,List.getElem?_zipWith];by_cases a:t<s.env.length
   . rw[List.getElem?_range a,zU a]
     simp only[aaf];split
     . simp_all
     . trivial
   simp_all
def plain:SV->Bool
 |.cE=>true
 |.lit _=>true
 |_=>false
theorem FR.gL{y y':Sy}{s:jJ}{fr:Frame}(h:FR y s fr)(a:s.env.all plain=true):FR y' s fr:=by
 refine⟨h.fn,h.todo,h.defers,h.mode,h.kind,h.ro,h.size,λt=>?_⟩;have b:=h.env t
 have c:plain (s.env.getD t .cE)=true:=by
  rw[zA];cases q:s.env[t]? with
  |none=>rfl
  |some v=>grind
 generalize s.env.getD t .cE=v at *;cases v<;>simp_all [plain,SR]
structure yV where
 lock:Nat
 unlock:Nat
 Tj:Nat
 vN:Nat
 QS:Nat
 PU:Nat
 jl:Nat
 en:Nat
 acq:Nat
 rel:Nat
 ko:Nat
 add:Nat
 HN:Nat
 tY:Nat
 nano:Nat
 ER:Nat
 oh:Nat
 tM:Nat
 tU:Nat
 tI:Nat
def Vu(c:cP):acr:=[c.1.fn,c.1.todo.length,(match c.1.todo with|.inRegion ops (i::_)::_=>i|_=>999),(match bb c.1 with|some (f,_)=>f|none=>match qL c.1 with|some (t,_)=>1000+t|none=>999)]++c.2.map (·.fn)
def kX:Fl:=⟨false,false,false,false,false,false⟩
def KA(P:acD)(f:Fl):Nat->jJ->acB->cP
 |0,fr,st=>(fr,st)
 | n + 1,fr,st=>match ss P f fr st with
   | some (a,b)=>match a.todo with
     |.code _::.inLoop _::_=>(a,b)
     |_=>KA P f n a b
   |none=>(fr,st)
def CI(live:acr)(c:cP):cP:=(keep live c.1,c.2.map (keep []))
def aP(P:acD)(a:Fl)(live:acr)(c:cP)(v:SV):Option cP:=(xh c.1 v).map λs=>CI live (sgo P a 400 s c.2)
def pI(P:acD)(a:Fl)(live:acr)(c:cP)(v:SV):Option cP:=(xh c.1 v).map λs=>CI live (KA P a 400 s c.2)
def Tl(P:acD)(a:Fl)(live:acr)(c:cP):cP:=CI live (sgo P a 400 c.1 c.2)
def bl(x:Bool):SV:=.lit (.bool x)
def i64(n:Int):SV:=.lit (.int .i64 n)
def i32(n:Int):SV:=.lit (.int .i32 n)
def jk(n:Nat):acA:=List.replicate n .cE
section
variable(P:acD)(n:yV)(b o:Nat)(kind:acv)
def wf:SV:=.word false false false 0
def wl:SV:=.word true false false 0
def Vv:cP:=CI [0] (sgo P kX 400 (dH P n.lock [pt b o] kind) [])
def KB:cP:=next P kX (Vv P n b o kind) un
def Tm:cP:=next P kX (KB P n b o kind) tt
def Tn:cP:=next P kX (Tm P n b o kind) un
def Vw:cP:=next P kX (Tn P n b o kind) (pt b o)
def ES:cP:=next P kX (KB P n b o kind) ff
def YI:cP:=(pI P kX [] (ES P n b o kind) wf).getD (ES P n b o kind)
def Vx:cP:=next P kX (ES P n b o kind) wl
def Wv:cP:=next P kX (Vx P n b o kind) tt
def Ww:cP:=next P kX (Wv P n b o kind) tt
def Vy:cP:=next P kX (Ww P n b o kind) un
def QT:cP:=next P kX (Vx P n b o kind) ff
def Vz:cP:=next P kX (QT P n b o kind) ff
def Tp:cP:=next P kX (next P kX (ES P n b o kind) wf) tt
def Tq:cP:=next P kX (Tp P n b o kind) un
def VA:cP:=next P kX (Tq P n b o kind) (pt b o)
def Wx:cP:=next P kX (QT P n b o kind) tt
def Wy:cP:=next P kX (Wx P n b o kind) .HL
def Wz:cP:=next P kX (Wy P n b o kind) un
def WG:cP:=next P kX (Wz P n b o kind) .now
def YJ:cP:=next P kX (WG P n b o kind) (.word false false true 0)
def Tr:acB:=(Vv P n b o kind).2
def Vf:acB:=(ES P n b o kind).2.map (keep [])
def mD(a:acm)(l:abJ):cP:=(⟨n.Tj,a,Kz (jk 13) l,[],.run,.normal⟩,Tr P n b o kind)
def cL(a:acm)(l:abJ):cP:=(⟨n.QS,a,Kz (jk 139) l,[],.run,.normal⟩,Vf P n b o kind)
def LD:cP:=Vv P n b o kind
def tZ:cP:=mD P n b o kind (KB P n b o kind).1.todo [(0,pt b o),(5,pt b o)]
def PV:cP:=mD P n b o kind (Tm P n b o kind).1.todo [(0,pt b o)]
def Sk:cP:=mD P n b o kind (Tn P n b o kind).1.todo [(8,pt b o)]
def PW:cP:=mD P n b o kind (Vw P n b o kind).1.todo [(9,pt b o)]
def BK:cP:=(⟨n.lock,[],jk 6,[],.ret,kind⟩,[])
def PX(aw sv:Bool)(it:Int):abJ:=[(0,pt b o),(2,.HL),(3,bl sv),(4,bl aw),(5,i64 it)]
def Vg:cP:=cL P n b o kind (ES P n b o kind).1.todo [(0,pt b o),(2,i64 0),(3,ff),(4,ff),(5,i64 0),(12,pt b o)]
def QU(aw sv:Bool)(it:Int):cP:=cL P n b o kind (ES P n b o kind).1.todo (PX b o aw sv it++[(12,pt b o)])
def Gu(aw sv:Bool)(it:Int):cP:=cL P n b o kind (Vy P n b o kind).1.todo (PX b o aw sv it++[(47,pt b o)])
def QV(aw sv:Bool)(it:Int):cP:=cL P n b o kind (Vz P n b o kind).1.todo (PX b o aw sv it++[(133,pt b o)])
def HD(L K S aw sv:Bool)(it:Int):cP:=cL P n b o kind (YI P n b o kind).1.todo (PX b o aw sv it++[(6,.word L K S 0)])
def SQ(K aw sv:Bool)(it:Int):cP:=cL P n b o kind (Vx P n b o kind).1.todo (PX b o aw sv it++[(6,.word true K false 0),(17,tt),(18,i64 it)])
def SW(it:Int):cP:=cL P n b o kind (Wv P n b o kind).1.todo (PX b o false false it++[(33,tt),(36,pt b o),(37,.word true false false 0),(39,.word true true false 0)])
def DS(aw sv:Bool)(it:Int):cP:=cL P n b o kind (Ww P n b o kind).1.todo (PX b o aw sv it)
def Ot(L K S aw sv:Bool):SV:=.word (L||!S) (if aw then false else K) (S||(sv && L)) (if L||S then 1 else 0)
def CJ(L K S aw sv:Bool)(it:Int):cP:=cL P n b o kind (QT P n b o kind).1.todo (PX b o aw sv it++[(6,.word L K S 0),(77,pt b o),(78,.word L K S 0),(79,Ot L K S aw sv)])
def T1(sv:Bool):cP:=cL P n b o kind (Wx P n b o kind).1.todo [(0,pt b o),(3,bl sv)]
def PK(sv:Bool):cP:=cL P n b o kind (Wy P n b o kind).1.todo [(0,pt b o),(2,.HL),(3,bl sv),(91,pt b (o+1))]
def TQ:cP:=cL P n b o kind (Wz P n b o kind).1.todo [(0,pt b o),(2,.HL),(95,ff)]
def UP(sv:Bool):cP:=cL P n b o kind (WG P n b o kind).1.todo [(0,pt b o),(2,.HL),(3,bl sv),(103,pt b o)]
def AD(d:Int):cP:=cL P n b o kind (YJ P n b o kind).1.todo [(0,pt b o),(128,pt b o),(129,i32 d)]
def N1:cP:=cL P n b o kind (Tp P n b o kind).1.todo [(0,pt b o)]
def Sl:cP:=cL P n b o kind (Tq P n b o kind).1.todo [(136,pt b o)]
def PY:cP:=cL P n b o kind (VA P n b o kind).1.todo [(137,pt b o)]
def VB:cP:=CI [0,5] (sgo P kX 400 (dH P n.unlock [pt b o] kind) [])
def Ts:cP:=next P kX (VB P n b o kind) .cE
def WH:cP:=next P kX (Ts P n b o kind) (pt b o)
def WI:cP:=next P kX (WH P n b o kind) un
def Gv:cP:=next P kX (WI P n b o kind) un
def YK:cP:=next P {kX with n0:=true} (Gv P n b o kind) wf
def Vh:cP:=next P kX (Gv P n b o kind) wf
def YL:cP:=next P kX (Gv P n b o kind) (.word false false true 0)
def YM:cP:=next P kX (Vh P n b o kind) tt
def VC:cP:=next P kX (Vh P n b o kind) ff
def Tt:acB:=(VB P n b o kind).2
def VD:acB:=(Vh P n b o kind).2.map (keep [])
def oX(a:acm)(l:abJ):cP:=(⟨n.vN,a,Kz (jk 21) l,[],.run,.normal⟩,Tt P n b o kind)
def va(a:acm)(l:abJ):cP:=(⟨n.PU,a,Kz (jk 43) l,[],.run,.normal⟩,VD P n b o kind)
def U0:cP:=VB P n b o kind
def Sm:cP:=oX P n b o kind (Ts P n b o kind).1.todo [(0,pt b o),(7,pt b o)]
def UR:cP:=oX P n b o kind (WH P n b o kind).1.todo [(0,pt b o),(8,pt b o)]
def UD:cP:=oX P n b o kind (WI P n b o kind).1.todo [(0,pt b o)]
def rK:cP:=oX P n b o kind (Gv P n b o kind).1.todo [(0,pt b o),(13,pt b o),(14,.cE)]
def UE:cP:=oX P n b o kind (YK P n b o kind).1.todo []
def UC:cP:=va P n b o kind (Vh P n b o kind).1.todo [(0,pt b o),(27,pt b o),(28,wf),(29,.word false true false (-1))]
def G7:cP:=va P n b o kind (YM P n b o kind).1.todo [(33,pt b (o+1))]
def G9:cP:=va P n b o kind (YL P n b o kind).1.todo [(41,pt b (o+1))]
def N2:cP:=va P n b o kind (VC P n b o kind).1.todo [(0,pt b o),(37,pt b o)]
def Tu:cP:=(⟨n.unlock,[],jk 6,[],.ret,kind⟩,[])
end
structure gn(P:acD)(n:yV):Prop where
 e1:∀(fl:Fl) b o kind,aP P fl [0,5] (LD P n b o kind) un=some (tZ P n b o kind)
 e2:∀(fl:Fl) b o kind,aP P fl [0] (tZ P n b o kind) tt=some (PV P n b o kind)
 e3:∀(fl:Fl) b o kind,aP P fl [0,2,3,4,5,12] (tZ P n b o kind) ff=some (Vg P n b o kind)
 e4:∀(fl:Fl) b o kind,aP P fl [8] (PV P n b o kind) un=some (Sk P n b o kind)
 e5:∀(fl:Fl) b o kind,aP P fl [9] (Sk P n b o kind) (pt b o)=some (PW P n b o kind)
 e6:∀(fl:Fl) b o kind,aP P fl [] (PW P n b o kind) un=some (BK n kind)
 WJ:∀(fl:Fl) b o kind L K S aw sv it,pI P fl [0,2,3,4,5,6] (QU P n b o kind aw sv it) (.word L K S 0)=some (HD P n b o kind L K S aw sv it)
 QW:∀(fl:Fl) b o kind L K S aw sv it,pI P fl [0,2,3,4,5,6] (Gu P n b o kind aw sv it) (.word L K S 0)=some (HD P n b o kind L K S aw sv it)
 WK:∀(fl:Fl) b o kind L K S aw sv it,pI P fl [0,2,3,4,5,6] (QV P n b o kind aw sv it) (.word L K S 0)=some (HD P n b o kind L K S aw sv it)
 e8:∀(fl:Fl) b o kind K aw sv it,Tl P fl [0,2,3,4,5,6,17,18] (HD P n b o kind true K false aw sv it)=SQ P n b o kind K aw sv it
 e9:∀(fl:Fl) b o kind L K S aw sv it,(L && !S)=false->(aw && !K)=false->Tl P fl [0,2,3,4,5,6,77,78,79] (HD P n b o kind L K S aw sv it)=CJ P n b o kind L K S aw sv it
 bK:∀(fl:Fl) b o kind it,aP P {fl with n0:=false} [0,2,3,4,5,33,36,37,39] (SQ P n b o kind false false false it) tt=some (SW P n b o kind it)
 Tv:∀(fl:Fl) b o kind n0 K aw sv it,(!aw && !K && !n0)=false->aP P {fl with n0:=n0} [0,2,3,4,5] (SQ P n b o kind K aw sv it) tt=some (DS P n b o kind aw sv it)
 bG:∀(fl:Fl) b o kind K aw sv it,(aw && !K)=false->aP P fl [0,2,3,4,5,6,77,78,79] (SQ P n b o kind K aw sv it) ff=some (CJ P n b o kind true K false aw sv it)
 cD:∀(fl:Fl) b o kind r it,aP P fl [0,2,3,4,5] (SW P n b o kind it) (bl r)=some (DS P n b o kind r false it)
 ET:∀(fl:Fl) b o kind aw sv,aP P fl [0,2,3,4,5,47] (DS P n b o kind aw sv 0) un=some (Gu P n b o kind aw sv 1)
 EU:∀(fl:Fl) b o kind aw sv,aP P fl [0,2,3,4,5,47] (DS P n b o kind aw sv 1) un=some (Gu P n b o kind aw sv 2)
 Tw:∀(fl:Fl) b o kind aw sv,aP P fl [0,2,3,4,5,47] (DS P n b o kind aw sv 2) un=some (Gu P n b o kind aw sv 3)
 Tx:∀(fl:Fl) b o kind aw sv,aP P fl [0,2,3,4,5,47] (DS P n b o kind aw sv 3) un=some (Gu P n b o kind aw sv 4)
 JL:∀(fl:Fl) b o kind K aw sv it,aP P fl [0] (CJ P n b o kind false K false aw sv it) tt=some (N1 P n b o kind)
 Ty:∀(fl:Fl) b o kind L K S aw sv it,(L||S)=true->aP P {fl with wz:=true} [0,3] (CJ P n b o kind L K S aw sv it) tt=some (T1 P n b o kind sv)
 Tz:∀(fl:Fl) b o kind L K S aw sv it,(L||S)=true->aP P {fl with wz:=false} [0,2,3,91] (CJ P n b o kind L K S aw sv it) tt=some (PK P n b o kind sv)
 Bi:∀(fl:Fl) b o kind L K S aw sv it,aP P fl [0,2,3,4,5,133] (CJ P n b o kind L K S aw sv it) ff=some (QV P n b o kind aw sv it)
 xj:∀(fl:Fl) b o kind sv,aP P fl [0,2,3,91] (T1 P n b o kind sv) .HL=some (PK P n b o kind sv)
 TA:∀(fl:Fl) b o kind,aP P fl [0,2,3,103] (PK P n b o kind true) un=some (UP P n b o kind true)
 TB:∀(fl:Fl) b o kind,aP P fl [0,2,95] (PK P n b o kind false) un=some (TQ P n b o kind)
 tF:∀(fl:Fl) b o kind x,aP P {fl with tb:=x} [0,2,3,103] (TQ P n b o kind) .now=some (UP P n b o kind x)
 Ou:∀(fl:Fl) b o kind sv n1,aP P {fl with n0:=false,n1:=n1} [0,128,129] (UP P n b o kind sv) (.word false false true 0)=some (AD P n b o kind (if !sv||n1 then -11 else -7))
 yW:∀(fl:Fl) b o kind L K sv,pI P fl [0,2,3,4,5,6] (UP P n b o kind sv) (.word L K false 0)=some (HD P n b o kind L K false true sv 0)
 vO:∀(fl:Fl) b o kind d,aP P fl [0] (AD P n b o kind d) .cE=some (N1 P n b o kind)
 vP:∀(fl:Fl) b o kind,aP P fl [136] (N1 P n b o kind) un=some (Sl P n b o kind)
 JM:∀(fl:Fl) b o kind,aP P fl [137] (Sl P n b o kind) (pt b o)=some (PY P n b o kind)
 HO:∀(fl:Fl) b o kind,aP P fl [] (PY P n b o kind) un=some (BK n kind)
 u1:∀(fl:Fl) b o kind,aP P fl [0,7] (U0 P n b o kind) .cE=some (Sm P n b o kind)
 u2:∀(fl:Fl) b o kind,aP P fl [0,8] (Sm P n b o kind) (pt b o)=some (UR P n b o kind)
 u3:∀(fl:Fl) b o kind,aP P fl [0] (UR P n b o kind) un=some (UD P n b o kind)
 u4:∀(fl:Fl) b o kind,aP P fl [0,13] (UD P n b o kind) un=some (rK P n b o kind)
 u5:∀(fl:Fl) b o kind n0 K,(n0||K)=true->aP P {fl with n0:=n0} [] (rK P n b o kind) (.word false K false 0)=some (UE P n b o kind)
 WL:∀(fl:Fl) b o kind n0 K,aP P {fl with n0:=n0} [41] (rK P n b o kind) (.word false K true 0)=some (G9 P n b o kind)
 WM:∀(fl:Fl) b o kind,aP P {fl with n0:=false} [0,27,28,29] (rK P n b o kind) (.word false false false 0)=some (UC P n b o kind)
 WN:∀(fl:Fl) b o kind,aP P fl [33] (UC P n b o kind) tt=some (G7 P n b o kind)
 WO:∀(fl:Fl) b o kind,aP P fl [0,37] (UC P n b o kind) ff=some (N2 P n b o kind)
 u7:∀(fl:Fl) b o kind n0 L K S,(n0||L||K||S)=true->aP P {fl with n0:=n0} [] (N2 P n b o kind) (.word L K S 0)=some (UE P n b o kind)
 WQ:∀(fl:Fl) b o kind,aP P {fl with n0:=false} [0,27,28,29] (N2 P n b o kind) (.word false false false 0)=some (UC P n b o kind)
 u8:∀(fl:Fl) b o kind,aP P fl [] (G7 P n b o kind) un=some (UE P n b o kind)
 u9:∀(fl:Fl) b o kind,aP P fl [] (G9 P n b o kind) un=some (UE P n b o kind)
 WR:∀(fl:Fl) b o kind,aP P fl [] (UE P n b o kind) un=some (Tu n kind)
 o1:∀b o kind,bb (LD P n b o kind).1=some (n.jl,[])/\(LD P n b o kind).1.kind=.normal
 o2:∀b o kind,bb (tZ P n b o kind).1=some (n.ko,[pt b o,i32 0,i32 1])
 o3:∀b o kind,bb (PV P n b o kind).1=some (n.en,[])
 o4:∀b o kind,kz (Sk P n b o kind).1=some (n.tM,n.tU,pt b o)
 o5:∀b o kind,bb (PW P n b o kind).1=some (n.acq,[pt b o])
 WT:∀b o kind aw sv it,qL (QU P n b o kind aw sv it).1=some (n.tI,pt b o)
 WU:∀b o kind aw sv it,qL (Gu P n b o kind aw sv it).1=some (n.tI,pt b o)
 WV:∀b o kind aw sv it,qL (QV P n b o kind aw sv it).1=some (n.tI,pt b o)
 o7:∀b o kind K aw sv it,bb (SQ P n b o kind K aw sv it).1=some (n.HN,[i64 it])
 o8:∀b o kind it,bb (SW P n b o kind it).1=some (n.ko,[pt b o,.word true false false 0,.word true true false 0])
 o9:∀b o kind aw sv it,bb (DS P n b o kind aw sv it).1=some (n.tY,[])
 VE:∀b o kind L K S aw sv it,bb (CJ P n b o kind L K S aw sv it).1=some (n.ko,[pt b o,.word L K S 0,Ot L K S aw sv])
 WW:∀b o kind sv,bb (T1 P n b o kind sv).1=some (n.nano,[])
 VF:∀b o kind sv,bb (PK P n b o kind sv).1=some (n.ER,[pt b (o+1),.cE,i64 2])
 WX:∀b o kind,bb (TQ P n b o kind).1=some (n.nano,[])
 WZ:∀b o kind sv,qL (UP P n b o kind sv).1=some (n.tI,pt b o)
 W2:∀b o kind d,bb (AD P n b o kind d).1=some (n.add,[pt b o,i32 d])
 W6:∀b o kind,bb (N1 P n b o kind).1=some (n.en,[])
 W7:∀b o kind,kz (Sl P n b o kind).1=some (n.tM,n.tU,pt b o)
 W8:∀b o kind,bb (PY P n b o kind).1=some (n.acq,[pt b o])
 VG:∀b o kind,qL (U0 P n b o kind).1=some (n.tI,pt b o)/\(U0 P n b o kind).1.kind=.normal/\(U0 P n b o kind).1.fn=n.vN
 W9:∀b o kind,kz (Sm P n b o kind).1=some (n.tM,n.tU,pt b o)
 Xa:∀b o kind,bb (UR P n b o kind).1=some (n.rel,[pt b o])
 Xb:∀b o kind,bb (UD P n b o kind).1=some (n.jl,[])
 VH:∀b o kind,bb (rK P n b o kind).1=some (n.add,[pt b o,i32 (-1)])
 VI:∀b o kind,bb (UC P n b o kind).1=some (n.ko,[pt b o,wf,.word false true false (-1)])
 VJ:∀b o kind,bb (G7 P n b o kind).1=some (n.oh,[pt b (o+1),ff,i64 2])
 VK:∀b o kind,bb (G9 P n b o kind).1=some (n.oh,[pt b (o+1),tt,i64 2])
 Xc:∀b o kind,qL (N2 P n b o kind).1=some (n.tI,pt b o)
 Xd:∀b o kind,bb (UE P n b o kind).1=some (n.en,[])
 p1:∀b o kind,(Tr P n b o kind).all (·.env.all plain)=true/\(LD P n b o kind).1.env.all plain=true/\(LD P n b o kind).2=Tr P n b o kind
 p2:∀b o kind,(Vf P n b o kind).all (·.env.all plain)=true
 p3:∀b o kind,(Tt P n b o kind).all (·.env.all plain)=true/\(U0 P n b o kind).1.env.all plain=true/\(U0 P n b o kind).2=Tt P n b o kind
 p4:∀b o kind,(VD P n b o kind).all (·.env.all plain)=true
structure gq(P:acD)(n:yV):Prop where
 jl:Ext P n.jl (λ_=>do mark .disable;pure Extern.Race.none_)
 en:Ext P n.en (λ_=>do mark .enable;pure Extern.Race.none_)
 acq:Ext P n.acq (Extern.Race.marked .acquire)
 rel:Ext P n.rel (Extern.Race.marked .releaseMerge)
 ko:Ext P n.ko (Extern.Atomic.casT (.int .i32))
 add:Ext P n.add (Extern.Atomic.update (Op.intArith .add) .i32 true)
 HN:Ext P n.HN Extern.Sync.canSpin
 tY:Ext P n.tY (λ_=>pure (.tuple #[]))
 nano:Ext P n.nano Extern.OsHooks.nano
 KC:∃fn,P.funcs[n.nano]?=some fn/\fn.norace=true
 ER:Ext P n.ER Extern.Sync.semacquire
 oh:Ext P n.oh Extern.Sync.semrelease
 TC:m7 P (isAgg n.tI)=some false
 Xe:∃t,P.underlying n.tM=some (.pointer t)/\P.underlying n.tU=some .unsafePointer/\(P.info? t).map (λi=>decide (i.size=0))=some false
 nS:∃fn,P.funcs[n.QS]?=some fn/\fn.norace=true
 nU:∃fn,P.funcs[n.vN]?=some fn/\fn.norace=true
 nV:∃fn,P.funcs[n.PU]?=some fn/\fn.norace=true
def Sy.ok(y:Sy):Prop:=(0<=y.N/\y.N<=1000)/\(0<=y.c/\y.c<=1000)
def Fl.of(y:Sy):Fl:=⟨decide (y.N=0),decide (y.N=1),decide (y.c=0),decide (y.c=1),decide (y.ws=0),decide (IntKind.i64.wrap (y.tn-y.ws)>1000000)⟩
theorem Fl.CN{y:Sy}(h:y.ok):(Fl.of y).At y:=⟨h.1,h.2,rfl,rfl,rfl,rfl,rfl,rfl⟩
def Gw:SV->Bool|.word ..=>true|.cnt=>true|_=>false
def KG:SV->Bool|.ew _=>true|.Gs=>true|.HK=>true|_=>false
def KH:SV->Bool|.HL=>true|.Tf=>true|_=>false
def KI:SV->Bool|.now=>true|.Tf=>true|_=>false
theorem SR.re{y y':Sy}{v:SV}{x:Value}(h:SR y v x)(a:y.N=y'.N\/Gw v=false)(b:y.c=y'.c\/KG v=false)(d:y.ws=y'.ws\/KH v=false)(e:y.tn=y'.tn\/KI v=false):SR y' v x:=by cases v<;>simp_all [SR,Gw,KG,KH,KI]
theorem FR.re{y y':Sy}{s:jJ}{fr:Frame}(h:FR y s fr)(a:y.N=y'.N\/s.env.all (λv=>!Gw v)=true)(b:y.c=y'.c\/s.env.all (λv=>!KG v)=true)
 (d:y.ws=y'.ws\/s.env.all (λv=>!KH v)=true) (e:y.tn=y'.tn\/s.env.all (λv=>!KI v)=true):FR y' s fr:=by
 have key:∀(u:SV->Bool) (t:Nat),u .cE=false->s.env.all (λv=>!u v)=true->u (s.env.getD t .cE)=false:=λu t f g=>by grind
 exact⟨h.fn,h.todo,h.defers,h.mode,h.kind,h.ro,h.size,λt=>(h.env t).re (a.imp id (key _ t rfl)) (b.imp id (key _ t rfl)) (d.imp id (key _ t rfl)) (e.imp id (key _ t rfl))⟩
theorem l8.gL{y y':Sy}:∀{l:acB}{fs:acb},l8 y l fs->l.all (·.env.all plain)=true->l8 y' l fs
 |[],fs,h,_=>by rw[h.mC];trivial
 |s::l,fs,h,a=>by obtain⟨f,b,rfl,c,d⟩:=h.cons_inv;simp only[ZY,zj]at a;exact⟨c.gL a.1,d.gL a.2⟩
theorem l8.keep{y:Sy}(live:acr):∀{l:acB}{fs:acb},l8 y l fs->l8 y (l.map (Go.bQ.keep live)) fs
 |[],fs,h=>by simp_all
 |s::l,fs,h=>by obtain⟨f,a,rfl,b,c⟩:=h.cons_inv;exact⟨b.keep live,c.keep live⟩
theorem Gx{P:acD}{Wd:abZ}{f:Fl}{y:Sy}(i:f.At y):∀(n:Nat){s:jJ}{st:acB}{fr:Frame}{frs:acb},FR y s fr->l8 y st frs ->
 ∃m b a,FR y (KA P f n s st).1 b/\l8 y (KA P f n s st).2 a/\∀cs,jb P Wd m (G fr (frs++cs)) (G b (a++cs))
 |0,s,st,fr,frs,g,c=>⟨0,fr,frs,g,c,λ_=>rfl⟩
 | n + 1,s,st,fr,frs,g,c=>by
   unfold KA;cases e:ss P f s st with
   |none=>exact⟨0,fr,frs,g,c,λ_=>rfl⟩
   | some p=>
     obtain⟨u,o⟩:=p;obtain⟨b,a,j,k,l⟩:=PT i e g c;simp only;split
     . exact⟨1,b,a,j,k,λcs=>⟨_,l cs,rfl⟩⟩
     . obtain⟨m,h,d,q,r,t⟩:=Gx i n j k
       exact⟨m+1,h,d,q,r,λcs=>⟨_,l cs,t cs⟩⟩
section
variable{P:acD}{Wd:abZ}{y:Sy}{c c':cP}{live:acr}{v:SV}{x:Value}{fr:Frame}{frs:acb}
theorem PZ(e:aP P (Fl.of y) live c v=some c')(f:y.ok)(g:FR y c.1 fr)(d:l8 y c.2 frs)(h:SR y v x):
 ∃b a,FR y c'.1 b/\l8 y c'.2 a/\∀cs,sB P Wd (G (fr.finish x) (frs++cs)) (G b (a++cs)):=by
 obtain⟨s,i,rfl⟩:=Option.map_eq_some_iff.1 e;obtain⟨m,b,a,j,k,l⟩:=lJ (Wd:=Wd) (Fl.CN f) 400 (P:=P) (g.fin i h) d;exact⟨b,a,j.keep live,k.keep [],λcs=>⟨m,l cs⟩⟩
theorem TD(e:pI P (Fl.of y) live c v=some c')(f:y.ok)(g:FR y c.1 fr)(d:l8 y c.2 frs)(h:SR y v x):
 ∃b a,FR y c'.1 b/\l8 y c'.2 a/\∀cs,sB P Wd (G (fr.finish x) (frs++cs)) (G b (a++cs)):=by
 obtain⟨s,i,rfl⟩:=Option.map_eq_some_iff.1 e;obtain⟨m,b,a,j,k,l⟩:=Gx (Wd:=Wd) (Fl.CN f) 400 (P:=P) (g.fin i h) d;exact⟨b,a,j.keep live,k.keep [],λcs=>⟨m,l cs⟩⟩
theorem TE(e:Tl P (Fl.of y) live c=c')(f:y.ok)(g:FR y c.1 fr)(d:l8 y c.2 frs):
 ∃b a,FR y c'.1 b/\l8 y c'.2 a/\∀cs,sB P Wd (G fr (frs++cs)) (G b (a++cs)):=by
 subst e;obtain⟨m,b,a,h,i,j⟩:=lJ (Wd:=Wd) (Fl.CN f) 400 (P:=P) g d;exact⟨b,a,h.keep live,i.keep [],λcs=>⟨m,j cs⟩⟩
end
open Mu in
inductive sE where
 |ld|iq|rd (l:Lo)|sq (old:Wd) (l:Lo)|sw (old:Wd) (l:Lo)|ko (old:Wd) (l:Lo)|t1 (sv:Bool)|gE (sv:Bool)|tq|up (sv:Bool)|add (old:Wd) (sv:Bool)|le|la|back
 |Gy|ur|ud|held|ja (old:Wd)|vC|give|ue|CO
section
variable(P:acD)(n:yV)(b o:Nat)(kind:acv)
def EO(p:sE)(c:cP)(y:Sy):Prop:=
 match p with
 |.ld=>c=LD P n b o kind
 |.iq=>c=tZ P n b o kind
 |.rd l=>c=QU P n b o kind l.aw l.sv l.it\/c=Gu P n b o kind l.aw l.sv l.it\/c=QV P n b o kind l.aw l.sv l.it
 |.sq old l=>c=SQ P n b o kind old.K l.aw l.sv l.it/\y.N=old.N/\old.L=true/\old.S=false
 |.sw old l=>c=SW P n b o kind l.it/\y.N=old.N/\l.aw=false/\l.sv=false/\old.L=true/\old.K=false/\old.S=false
 |.ko old l=>c=CJ P n b o kind old.L old.K old.S l.aw l.sv l.it/\y.N=old.N
 |.t1 sv=>c=T1 P n b o kind sv
 |.gE sv=>c=PK P n b o kind sv
 |.tq=>c=TQ P n b o kind
 |.up sv=>c=UP P n b o kind sv
 |.add old sv=>c=AD P n b o kind (if !sv||decide (old.N=1)then -11 else -7)
 |.le=>c=PV P n b o kind\/c=N1 P n b o kind
 |.la=>c=PW P n b o kind\/c=PY P n b o kind
 |.back=>c=BK n kind
 |.Gy=>c=U0 P n b o kind
 |.ur=>c=UR P n b o kind
 |.ud=>c=UD P n b o kind
 |.held=>c=rK P n b o kind
 |.ja old=>c=UC P n b o kind/\y.N=old.N/\old.L=false/\old.K=false/\old.S=false/\old.N≠0
 |.vC=>c=N2 P n b o kind
 |.give=>c=G7 P n b o kind\/c=G9 P n b o kind
 |.ue=>c=UE P n b o kind
 |.CO=>c=Tu n kind
def nT(p:sE)(cs:acb)(g:aco):Prop:=∃c y fr frs,EO P n b o kind p c y/\y.ok/\FR y c.1 fr/\l8 y c.2 frs/\g=G fr (frs++cs)
end
theorem nT.running{P:acD}{n:yV}{b o:Nat}{kind:acv}{p:sE}{cs:acb}{g:aco}(h:nT P n b o kind p cs g):g.status=.running/\g.offers=none:=by obtain⟨c,y,fr,frs,_,_,_,_,rfl⟩:=h;exact⟨rfl,rfl⟩
structure ShM(b o:Nat)(w:World)(s:Mu.Sh):Prop where
 cw:w.cell? ⟨b,o,none⟩=some (.int .i32 (enc s.w.L s.w.K s.w.S s.w.N))
 cs:w.cell? ⟨b,o+1,none⟩=some (.int .u32 s.ms)
 fz:∀i,w.frozen? ⟨b,i,none⟩=false
def MW(b o:Nat)(w w':World):Prop:=(mn w.os w'.os/\w'.output=w.output)/\(w'.heap=w.heap\/∃i v,(i=o\/i=o+1)/\flat v=true/\w'.heap=(w.setCell ⟨b,i,none⟩ v).heap)
def EvM(b o:Nat)(es:aca):Prop:=∀e∈es,(e.loc=.mark .disable\/e.loc=.mark .enable)\/(∃i,(i=o\/i=o+1)/\e.loc=.cell ⟨b,i,none⟩/\e.sync=true)
theorem qu{w w':World}(h:w'.heap=w.heap)(a:Addr):w'.cell? a=w.cell? a/\w'.frozen? a=w.frozen? a:=by simp[World.cell?,World.frozen?,h]
theorem ShM.heap{b o:Nat}{w w':World}{s:Mu.Sh}(h:ShM b o w s)(e:w'.heap=w.heap):ShM b o w' s:=⟨by rw[(qu e _).1];exact h.cw,by rw[(qu e _).1];exact h.cs,λi=>by rw[(qu e _).2];exact h.fz i⟩
theorem jV{w:World}{b i:Nat}{u v:Value}(h:w.cell? ⟨b,i,none⟩=some u):(w.setCell ⟨b,i,none⟩ v).cell? ⟨b,i,none⟩=some v:=by
 unfold World.cell? at h ⊢;unfold World.setCell
 grind
theorem oi{w:World}{a:Addr}{v:Value}{b i:Nat}:(w.setCell a v).frozen? ⟨b,i,none⟩=w.frozen? ⟨b,i,none⟩:=by simp_all
theorem ShM.aT{b o:Nat}{w:World}{s:Mu.Sh}(h:ShM b o w s)(w':Mu.Wd):ShM b o (w.setCell ⟨b,o,none⟩ (.int .i32 (enc w'.L w'.K w'.S w'.N))) {s with w:=w'}:=⟨jV h.cw,by rw[dE (by simp)];exact h.cs,λi=>by rw[oi];exact h.fz i⟩
theorem ShM.EV{b o:Nat}{w:World}{s:Mu.Sh}(h:ShM b o w s)(m:Nat):ShM b o (w.setCell ⟨b,o+1,none⟩ (.int .u32 m)) {s with ms:=m}:=⟨by rw[dE (by simp)];exact h.cw,jV h.cs,λi=>by rw[oi];exact h.fz i⟩
theorem fJ{b o:Nat}:EvM b o #[]:=λe h=>by simp at h
theorem Gz{b o i:Nat}(hi:i=o\/i=o+1):EvM b o #[⟨.cell ⟨b,i,none⟩,false,true⟩]:=λe h=>by simp_all
theorem kA{b o i:Nat}(hi:i=o\/i=o+1):EvM b o #[⟨.cell ⟨b,i,none⟩,false,true⟩,⟨.cell ⟨b,i,none⟩,true,true⟩]:=λe h=>by grind
theorem vQ{b o:Nat}:EvM b o (semEvents ⟨b,o+1,none⟩):=λe h=>by
 simp[semEvents]at h
 grind
section
variable{P:acD}{n:yV}(C:gn P n)(X:gq P n){b o:Nat}{kind:acv}{Wd:abZ}{cs:acb}{g:aco}{w:World}{main:Bool}
variable(hWd:∀w,Wd w->∃v,w.cell? ⟨b,o,none⟩=some v)
def Next(P:acD)(n:yV)(b o:Nat)(kind:acv)(Wd:abZ)(cs:acb)(p:sE)(a:aco):Prop:=a.status=.running/\∃c,sB P Wd a c/\nT P n b o kind p cs c
theorem nxt{y:Sy}{c c':cP}{live:acr}{v:SV}{x:Value}{fr:Frame}{frs:acb}{p:sE}(g:aP P (Fl.of y) live c v=some c')(f:y.ok)(h:FR y c.1 fr)(d:l8 y c.2 frs)(i:SR y v x)(j:EO P n b o kind p c' y):
 Next P n b o kind Wd cs p (G (fr.finish x) (frs++cs)):=by
 obtain⟨e,a,k,l,m⟩:=PZ (Wd:=Wd) g f h d i;exact⟨rfl,_,m cs,c',y,e,a,j,f,k,l,rfl⟩
def y0:Sy:=⟨2,2,1,0⟩
theorem sF:y0.ok:=by unfold Sy.ok y0;decide
theorem EW(h:∃fn body,P.funcs[n.lock]?=some fn/\fn.body=some body/\fn.ntmps=6):∃e,sB P Wd (G (Frame.enter P n.lock #[.pointer (some ⟨b,o,none⟩)] kind) cs) e/\nT P n b o kind .ld cs e:=by
 obtain⟨fn,body,a,i,g⟩:=h
 have j:FR y0 (dH P n.lock [pt b o] kind) (Frame.enter P n.lock #[.pointer (some ⟨b,o,none⟩)] kind):=by
  refine⟨by simp[dH,a,Frame.enter],by simp[dH,a,i,Frame.enter],by simp[dH,a,Frame.enter],by simp[dH,a,Frame.enter,CC.of],by simp[dH,a,Frame.enter],rfl,by simp[dH,a,g,Frame.enter],λt=>?_⟩;simp only[dH,a,Frame.enter,g,ZR,aaf]
  match t with
  |0=>rfl
  |1|2|3|4|5=>trivial
  | t+6=>
    have:([pt b o]++List.replicate (6 - [pt b o].length) SV.cE).getD (t+6) .cE=.cE:=by simp_all
    rw[this];trivial
 obtain⟨m,d,c,k,l,p⟩:=lJ (Wd:=Wd) (P:=P) (f:=kX) (y:=y0) ⟨by decide,by decide,rfl,rfl,rfl,rfl,rfl,by decide⟩ 400 j (st:=[]) (frs:=[]) trivial;have q:=p cs;exact⟨_,⟨m,q⟩,_,y0,d,c,rfl,sF,k.keep [0],l.keep [],rfl⟩
theorem KJ:∀g:FuncId,Mark.disable≠.extern g:=λg h=>by cases h
theorem KL:∀g:FuncId,Mark.enable≠.extern g:=λg h=>by cases h
include C X in
theorem Bj(h:nT P n b o kind .ld cs g):∃d,stepG P main g w=.go d w #[⟨.mark .disable,false,true⟩]/\Next P n b o kind Wd cs .iq d:=by obtain⟨c,y,fr,frs,rfl,f,e,a,rfl⟩:=h;exact⟨_,eP KJ e (C.o1 b o kind).1 (by rw[show(LD P n b o kind).1.kind=_ from(C.o1 b o kind).2];decide) X.jl,nxt (C.e1 _ b o kind) f e a rfl rfl⟩
include C X in
theorem GA(h:nT P n b o kind .ud cs g):∃d,stepG P main g w=.go d w #[⟨.mark .disable,false,true⟩]/\Next P n b o kind Wd cs .held d:=by obtain⟨c,y,fr,frs,rfl,f,e,a,rfl⟩:=h;exact⟨_,eP KJ e (C.Xb b o kind) (by simp[UD,oX]) X.jl,nxt (C.u4 _ b o kind) f e a rfl rfl⟩
include C X in
theorem Bl(h:nT P n b o kind .ue cs g):∃d,stepG P main g w=.go d w #[⟨.mark .enable,false,true⟩]/\Next P n b o kind Wd cs .CO d:=by obtain⟨c,y,fr,frs,rfl,f,e,a,rfl⟩:=h;exact⟨_,eP KL e (C.Xd b o kind) (by simp[UE,oX]) X.en,nxt (C.WR _ b o kind) f e a rfl rfl⟩
include C X in
theorem GB(h:nT P n b o kind .ur cs g):∃d,stepG P main g w=.go d w #[⟨.mark (.releaseMerge ⟨b,o,none⟩),false,true⟩]/\Next P n b o kind Wd cs .ud d:=by obtain⟨c,y,fr,frs,rfl,f,e,a,rfl⟩:=h;exact⟨_,fD (λi g h=>by cases h) e (C.Xa b o kind) (by simp[UR,oX]) X.rel,nxt (C.u3 _ b o kind) f e a rfl rfl⟩
include C X in
theorem GC(h:nT P n b o kind .la cs g):∃e,stepG P main g w=.go e w #[⟨.mark (.acquire ⟨b,o,none⟩),false,true⟩]/\Next P n b o kind Wd cs .back e:=by
 obtain⟨c,y,fr,frs,i,f,d,a,rfl⟩:=h;rcases i with rfl|rfl
 . exact⟨_,fD (λj g h=>by cases h) d (C.o5 b o kind) (by simp[PW,mD]) X.acq,nxt (C.e6 _ b o kind) f d a rfl rfl⟩
 . exact⟨_,fD (λj g h=>by cases h) d (C.W8 b o kind) (by simp[PY,cL]) X.acq,nxt (C.HO _ b o kind) f d a rfl rfl⟩
include X hWd in
theorem through{y:Sy}{c c':cP}{live:acr}{fr:Frame}{frs:acb}{p:sE}(f:kz c.1=some (n.tM,n.tU,pt b o))(g:aP P (Fl.of y) live c (pt b o)=some c')(h:y.ok)(e:FR y c.1 fr)(d:l8 y c.2 frs)(i:EO P n b o kind p c' y):
 ∃a,sB P Wd (G fr (frs++cs)) a/\nT P n b o kind p cs a:=by
 obtain⟨t,j,k,l⟩:=X.Xe;obtain⟨_,a,m,q⟩:=nxt (P:=P) (n:=n) (b:=b) (o:=o) (kind:=kind) (Wd:=Wd) (cs:=cs) (x:=.pointer (some ⟨b,o,none⟩)) g h e d rfl i;refine⟨a,sB.trans (rJ.zK ⟨rfl,λmain w r=>?_⟩) m,q⟩;exact tX e f j k l (hWd w r)
include C X hWd in
theorem GD(h:nT P n b o kind .le cs g):∃s,stepG P main g w=.go s w #[⟨.mark .enable,false,true⟩]/\Next P n b o kind Wd cs .la s:=by
 obtain⟨c,y,fr,frs,t,e,f,a,rfl⟩:=h;rcases t with rfl|rfl
 . refine⟨_,eP KL f (C.o3 b o kind) (by simp[PV,mD]) X.en,rfl,?_⟩
   obtain⟨i,d,j,k,l⟩:=PZ (Wd:=Wd) (x:=.tuple #[]) (C.e4 _ b o kind) e f a rfl;obtain⟨m,q,r⟩:=through X hWd (cs:=cs) (p:=.la) (C.o4 b o kind) (C.e5 _ b o kind) e j k (.inl rfl);exact⟨m,(l cs).trans q,r⟩
 . refine⟨_,eP KL f (C.W6 b o kind) (by simp[N1,cL]) X.en,rfl,?_⟩
   obtain⟨i,d,j,k,l⟩:=PZ (Wd:=Wd) (x:=.tuple #[]) (C.vP _ b o kind) e f a rfl;obtain⟨m,q,r⟩:=through X hWd (cs:=cs) (p:=.la) (C.W7 b o kind) (C.JM _ b o kind) e j k (.inr rfl);exact⟨m,(l cs).trans q,r⟩
include C X hWd in
theorem xk{v:Value}(j:w.cell? ⟨b,o,none⟩=some v)(h:nT P n b o kind .Gy cs g):∃d,stepG P main g w=.go d w #[]/\Next P n b o kind Wd cs .ur d:=by
 obtain⟨c,y,fr,frs,rfl,e,f,a,rfl⟩:=h;refine⟨_,qt f (C.VG b o kind).1 X.TC (by rw[show(U0 P n b o kind).1.fn=_ from(C.VG b o kind).2.2];exact X.nU) j,rfl,?_⟩;obtain⟨k,i,l,m,q⟩:=PZ (Wd:=Wd) (x:=v) (C.u1 _ b o kind) e f a trivial;obtain⟨r,s,t⟩:=through X hWd (cs:=cs) (p:=.ur) (C.W9 b o kind) (C.u2 _ b o kind) e l m rfl;exact⟨r,(q cs).trans s,t⟩
include C X in
theorem Ov{sv:Bool}(h:nT P n b o kind (.t1 sv) cs g):∃f,stepG P main g w=.go f w.later #[]/\Next P n b o kind Wd cs (.gE sv) f:=by
 obtain⟨c,y,fr,frs,rfl,j,i,d,rfl⟩:=h;refine⟨_,zQ i (C.WW b o kind sv) (by simp[T1,cL]) X.nano X.KC,?_⟩;have e:=i.re (y':={y with ws:=((w.os.mono+w.tick:Nat):Int)}) (.inl rfl) (.inl rfl) (.inr (by cases sv<;>rfl)) (.inl rfl);have a:=d.gL (y':={y with ws:=((w.os.mono+w.tick:Nat):Int)}) (by simpa[T1,cL]using C.p2 b o kind);exact nxt (y:={y with ws:=((w.os.mono+w.tick:Nat):Int)}) (x:=.int .i64 ((w.os.mono+w.tick:Nat):Int)) (C.xj _ b o kind sv) j e a rfl rfl
end

/- Part 15 of the proof. -/
import Derived.Conc.ClockLaws
import Derived.Conc.MarkLaws
import Derived.Conc.AtomicLaws2
import Derived.Conc.SmallLaws
import Derived.Laws.LoneSync
import Derived.Test.YtigilmjkokbblaaGreatDoorC14
set_option linter.all false
namespace Go.bd
open Go.Conc
def bb(s:jG):Option (FuncId × List SV):=
 match s.mode,s.todo with
 | .run, .inRegion ops (i::_)::_=>match ops[i]? with
   | some o=>match zY ops s.env o with
     | some true=>match o.op with
       | .call c=>match c.callee with
         |.value (.func f)=>some (f,c.args.toList.map (sv s.env))
         |_=>none
       |_=>none
     |_=>none
   |none=>none
 |_,_=>none
def qG(s:jG):Option (TypeId × SV):=
 match s.mode,s.todo with
 | .run,.inRegion ops (i::_)::_=>match ops[i]? with
   | some o=>match zY ops s.env o with
     | some true=>match o.op with
       |.load t x=>some (t,sv s.env x)
       |_=>none
     |_=>none
   |none=>none
 |_,_=>none
structure Ext(P:Program)(f:FuncId)(e:Array Value->Sem Value):Prop where
 ex:∃fn,P.funcs[f]?=some fn/\(fn.name==  "runtime.NumGoroutine")=false/\fn.body.isNone=true/\Extern.findNext fn=none/\Extern.find fn=some e
theorem dq {y:Sy} {s:jG} {fr:Frame} {f:FuncId} {svs:List SV} (j:FR y s fr) (h:bb s=some (f,svs)) :
 ∃ ops i rest kk o as a,ops[i]? = some o∧Region.wanted o (yielded ops fr.tmps)=true∧o.op = .call { callee:=.value (.func f),args:=as,argTypes:=a }∧svs=as.toList.map (sv s.env) ∧
   fr=(fr.at ⟨fr.tmps,fr.defers⟩ (.inRegion ops (i :: rest) :: kk))∧∀ v,fr.at ((⟨fr.tmps,fr.defers⟩:Act).put o.dst v) (.inRegion ops rest :: kk)=fr.finish v:=by
 have d:=j;obtain⟨fn,tmps,todo,defs,mode,kind,ro⟩:=fr;obtain⟨n,e,p,b,q,k,r,t⟩:=j;simp only at n e p b q k r t;subst k;unfold bb at h;split at h
 . rename_i ops i rest kk u w
   rw[u] at b;rw[w] at e;have b:mode = .run:=b;subst b;subst e;split at h
   . rename_i o l
     split at h
     . rename_i x
       split at h
       . rename_i c z
         split at h
         . rename_i g m
           simp only[Option.some.injEq,Prod.mk.injEq] at h;obtain⟨rfl,rfl⟩:=h;obtain⟨callee,args,a⟩:=c;simp only at m;subst m;refine⟨ops,i,rest,kk,o,args,a,l,pR d x,z,rfl,rfl,fun v=>?_⟩
           simp only[Frame.finish,l,Option.bind_some,Act.put,Frame.at];cases o.dst <;> rfl
         . cases h
       . cases h
     . cases h
   . cases h
 . cases h
section
variable{P:Program}{main:Bool}{y:Sy}{s:jG}{fr:Frame}{f:FuncId}{svs:List SV}{cs:List Frame}{w:World}
theorem Dc{fr:Frame}(x:Operand):(⟨fr.tmps,fr.defers⟩:Act).eval x=fr.eval x:=by cases x<;>rfl
theorem Bx {as:Array Operand} (b:FR y s fr) {svs:List SV} (h:svs=as.toList.map (sv s.env)):∀ (j:Nat) (v:SV),svs[j]? = some v->∃ x,(as.map (⟨fr.tmps,fr.defers⟩:Act).eval)[j]? = some x∧SR y v x:=fun j v a=>by
 subst h;rw[List.getElem?_map,Array.getElem?_toList] at a;obtain⟨x,c,rfl⟩:=Option.map_eq_some_iff.1 a;exact⟨fr.eval x,by simp[c,Dc],b.sv x⟩
theorem eT {m:Mark} (d:∀ g,m ≠ .extern g) (c:FR y s fr) (h:bb s=some (f,svs)) (e:s.kind ≠ .early) (j:Ext P f (fun _=>do mark m;pure Extern.Race.none_)):stepG P main (G fr cs) w = .go (G (fr.finish (.tuple #[])) cs) w #[⟨.mark m,false,true⟩]:=by
 obtain⟨ops,i,rest,kk,o,as,k,l,n,p,A,q,r⟩:=dq c h;obtain⟨fn,t,u,v,x,z⟩:=j.ex;have:=stepG_mark0 (P:=P) (main:=main) (b:=fr) (a:=⟨fr.tmps,fr.defers⟩) (kk:=kk) (cs:=cs) (w:=w) (rest:=rest) m d l n (by rw[c.kind];exact e) p t u v x z
 rw[r,← q] at this;exact this
theorem fD {mk:Addr->Mark} (j:∀ ad g,mk ad ≠ .extern g) {ad:Addr} (d:FR y s fr) (h:bb s=some (f,[.lit (.pointer (some ad))])) (k:s.kind ≠ .early) (l:Ext P f (Extern.Race.marked mk)):stepG P main (G fr cs) w = .go (G (fr.finish (.tuple #[])) cs) w #[⟨.mark (mk ad),false,true⟩]:=by
 obtain⟨ops,i,rest,kk,o,as,m,n,p,q,r,t,u⟩:=dq d h;obtain⟨fn,v,z,A,B,C⟩:=l.ex;obtain⟨x,e,c⟩:=Bx d r 0 _ rfl;have c:x = .pointer (some ad):=c;rw[c] at e;have:=stepG_markAt (P:=P) (main:=main) (b:=fr) (a:=⟨fr.tmps,fr.defers⟩) (kk:=kk) (cs:=cs) (w:=w) (rest:=rest) mk j n p (by rw[d.kind];exact k) q v z A B C e
 rw[u,← t] at this;exact this
theorem Dd {as:Array Operand} {a b c:SV} (h:[a,b,c]=as.toList.map (sv s.env)):∃ x z u,as=#[x,z,u]∧sv s.env x=a∧sv s.env z=b∧sv s.env u=c:=by
 obtain⟨l⟩:=as
 match l,h with
 | [x,z,u],h=>simp at h;exact⟨x,z,u,rfl,h.1.symm,h.2.1.symm,h.2.2.symm⟩
theorem KR {as:Array Operand} {a b:SV} (h:[a,b]=as.toList.map (sv s.env)):∃ x z,as=#[x,z]∧sv s.env x=a∧sv s.env z=b:=by
 obtain⟨l⟩:=as
 match l,h with
 | [x,z],h=>simp at h;exact⟨x,z,rfl,h.1.symm,h.2.symm⟩
theorem KS {as:Array Operand} {a:SV} (h:[a]=as.toList.map (sv s.env)):∃ x,as=#[x]∧sv s.env x=a:=by
 obtain⟨l⟩:=as
 match l,h with
 | [x],h=>simp at h;exact⟨x,rfl,h.symm⟩
theorem iE(b:FR y s fr){x:Operand}{a:SV}(h:sv s.env x=a):SR y a ((⟨fr.tmps,fr.defers⟩:Act).eval x):=by subst h;rw[Dc];exact b.sv x
theorem gT {k:IntKind} {ad:Addr} {a b:SV} {v n:Int} (c:FR y s fr) (h:bb s=some (f,[.lit (.pointer (some ad)),a,b])) (e:s.kind ≠ .early) (g:Ext P f (Extern.Atomic.casT (.int k)))
 (j:∀ x,SR y a x->x = .int k v) (hb:∀ x,SR y b x->x = .int k n) (l:w.cell? ad=some (.int k v)) (m:w.frozen? ad=false) :
 stepG P main (G fr cs) w = .go (G (fr.finish (.bool true)) cs) (w.setCell ad (.int k n)) #[⟨.cell ad,false,true⟩,⟨.cell ad,true,true⟩]:=by
 obtain⟨ops,i,rest,kk,o,as,p,q,r,t,A,B,C⟩:=dq c h;obtain⟨fn,D,E,F,H,I⟩:=g.ex;obtain⟨x,z,u,rfl,J,d,K⟩:=Dd A;have:=stepG_cas_hit (P:=P) (main:=main) (b:=fr) (a:=⟨fr.tmps,fr.defers⟩) (kk:=kk) (cs:=cs) (w:=w) (rest:=rest) q r (by rw[c.kind];exact e) t D E F H k I (iE c J) (j _ (iE c d)) (hb _ (iE c K)) l m
 rw[C,← B] at this;exact this
theorem iv {k:IntKind} {ad:Addr} {a b:SV} {v old n:Int} (c:FR y s fr) (h:bb s=some (f,[.lit (.pointer (some ad)),a,b])) (g:s.kind ≠ .early) (j:Ext P f (Extern.Atomic.casT (.int k)))
 (l:∀ x,SR y a x->x = .int k old) (hb:∀ x,SR y b x->x = .int k n) (m:w.cell? ad=some (.int k v)) (p:w.frozen? ad=false) (d : ¬ v=old) :
 stepG P main (G fr cs) w = .go (G (fr.finish (.bool false)) cs) w #[⟨.cell ad,false,true⟩]:=by
 obtain⟨ops,i,rest,kk,o,as,q,r,t,A,B,C,D⟩:=dq c h;obtain⟨fn,E,F,H,I,J⟩:=j.ex;obtain⟨x,z,u,rfl,K,e,L⟩:=Dd B;have:=stepG_cas_miss (P:=P) (main:=main) (b:=fr) (a:=⟨fr.tmps,fr.defers⟩) (kk:=kk) (cs:=cs) (w:=w) (rest:=rest) r t (by rw[c.kind];exact g) A E F H I k J (iE c K) (l _ (iE c e)) (hb _ (iE c L)) m p d
 rw[D,← C] at this;exact this
theorem pS {k:IntKind} {ad:Addr} {a:SV} {v d:Int} (c:FR y s fr) (h:bb s=some (f,[.lit (.pointer (some ad)),a])) (g:s.kind ≠ .early) (j:Ext P f (Extern.Atomic.update (Op.intArith .add) k true))
 (l:∀ x,SR y a x->x = .int k d) (m:w.cell? ad=some (.int k v)) (n:w.frozen? ad=false) :
 stepG P main (G fr cs) w = .go (G (fr.finish (.int k (k.wrap (v+d)))) cs) (w.setCell ad (.int k (k.wrap (v+d)))) #[⟨.cell ad,false,true⟩,⟨.cell ad,true,true⟩]:=by
 obtain⟨ops,i,rest,kk,o,as,p,q,r,t,u,A,B⟩:=dq c h;obtain⟨fn,C,D,E,F,H⟩:=j.ex;obtain⟨x,z,rfl,I,e⟩:=KR u;have:=stepG_add_atomic (P:=P) (main:=main) (b:=fr) (a:=⟨fr.tmps,fr.defers⟩) (kk:=kk) (cs:=cs) (w:=w) (rest:=rest) q r (by rw[c.kind];exact g) t C D E F k H (iE c I) (l _ (iE c e)) m n
 rw[B,← A] at this;exact this
theorem sR {ad:Addr} {l:List SV} {n:Int} (d:FR y s fr) (h:bb s=some (f,.lit (.pointer (some ad)) :: l)) (g:s.kind ≠ .early) (j:Ext P f Extern.Sync.semacquire) (k:w.cell? ad=some (.int .u32 n)) (m:n≠0) (p:w.frozen? ad=false) :
 stepG P main (G fr cs) w = .go (G (fr.finish (.tuple #[])) cs) (w.setCell ad (.int .u32 (n-1))) (semEvents ad):=by
 obtain⟨ops,i,rest,kk,o,as,q,r,t,u,v,z,A⟩:=dq d h;obtain⟨fn,B,C,D,E,F⟩:=j.ex;obtain⟨x,e,c⟩:=Bx d v 0 _ rfl;have c:x = .pointer (some ad):=c;rw[c] at e;have:=stepG_semacquire (P:=P) (main:=main) (b:=fr) (a:=⟨fr.tmps,fr.defers⟩) (kk:=kk) (cs:=cs) (w:=w) (rest:=rest) r t (by rw[d.kind];exact g) u B C D E F e k m p
 rw[A,← z] at this;exact this
theorem Ac {ad:Addr} {l:List SV} (d:FR y s fr) (h:bb s=some (f,.lit (.pointer (some ad)) :: l)) (g:Ext P f Extern.Sync.semacquire) (j:w.cell? ad=some (.int .u32 0)) :
 stepG P main (G fr cs) w = .go { G fr cs with status:=.blocked } w #[]:=by
 obtain⟨ops,i,rest,kk,o,as,k,m,n,p,q,r,B⟩:=dq d h;obtain⟨fn,t,u,v,z,A⟩:=g.ex;obtain⟨x,e,c⟩:=Bx d q 0 _ rfl;have c:x = .pointer (some ad):=c;rw[c] at e;have:=stepG_semacquire_wait (P:=P) (main:=main) (b:=fr) (a:=⟨fr.tmps,fr.defers⟩) (kk:=kk) (cs:=cs) (w:=w) (rest:=rest) m n p t u v z A e j;rw[← r] at this;exact this
theorem oE {ad:Addr} {l:List SV} {n:Int} (d:FR y s fr) (h:bb s=some (f,.lit (.pointer (some ad)) :: l)) (g:s.kind ≠ .early) (j:Ext P f Extern.Sync.semrelease) (k:w.cell? ad=some (.int .u32 n)) (m:w.frozen? ad=false) :
 stepG P main (G fr cs) w = .go (G (fr.finish (.tuple #[])) cs) (w.setCell ad (.int .u32 (IntKind.u32.wrap (n+1)))) (semEvents ad):=by
 obtain⟨ops,i,rest,kk,o,as,p,q,r,t,u,v,z⟩:=dq d h;obtain⟨fn,A,B,C,D,E⟩:=j.ex;obtain⟨x,e,c⟩:=Bx d u 0 _ rfl;have c:x = .pointer (some ad):=c;rw[c] at e;have:=stepG_semrelease (P:=P) (main:=main) (b:=fr) (a:=⟨fr.tmps,fr.defers⟩) (kk:=kk) (cs:=cs) (w:=w) (rest:=rest) q r (by rw[d.kind];exact g) t A B C D E e k m
 rw[z,← v] at this;exact this
theorem Ad (e:FR y s fr) (h:bb s=some (f,svs)) (g:s.kind ≠ .early) (j:Ext P f Extern.OsHooks.nano) (k:∃ fn,P.funcs[f]? = some fn∧fn.norace=true) :
 stepG P main (G fr cs) w = .go (G (fr.finish (.int .i64 ((w.os.mono+w.tick:Nat):Int))) cs) w.later #[]:=by
 obtain⟨ops,i,rest,kk,o,as,l,m,n,p,B,q,r⟩:=dq e h;obtain⟨fn,c,t,u,v,x⟩:=j.ex;obtain⟨d,z,A⟩:=k;obtain rfl:d=fn:=by rw[z] at c;exact Option.some.inj c
 have:=stepG_nanotime (P:=P) (main:=main) (b:=fr) (a:=⟨fr.tmps,fr.defers⟩) (kk:=kk) (cs:=cs) (w:=w) (rest:=rest) m n (by rw[e.kind];exact g) p c t u v x A
 rw[r,← q] at this;exact this
theorem H5 {n:Int} (d:FR y s fr) (h:bb s=some (f,[.lit (.int .i64 n)])) (j:s.kind ≠ .early) (B:Ext P f Extern.Sync.canSpin) :
 ∃ b w',stepG P main (G fr cs) w = .go (G (fr.finish (.bool b)) cs) w' #[]∧(b=true->n<4)∧(w'=w∨w'=w.asked):=by
 obtain⟨ops,i,rest,kk,o,as,C,l,m,p,g,q,r⟩:=dq d h;obtain⟨fn,t,u,v,z,A⟩:=B.ex;obtain⟨x,rfl,D⟩:=KS g;have c:(⟨fr.tmps,fr.defers⟩:Act).eval x = .int .i64 n:=iE d D
 by_cases g:n<4
 . have:=stepG_canSpin_ask (P:=P) (main:=main) (b:=fr) (a:=⟨fr.tmps,fr.defers⟩) (kk:=kk) (cs:=cs) (w:=w) (rest:=rest) l m (by rw[d.kind];exact j) p t u v z A (n:=n) (k:=.i64) (by simp[c]) g
   rw[r,← q] at this;exact⟨_,_,this,fun _=>g,.inr rfl⟩
 . have:=stepG_canSpin_no (P:=P) (main:=main) (b:=fr) (a:=⟨fr.tmps,fr.defers⟩) (kk:=kk) (cs:=cs) (w:=w) (rest:=rest) l m (by rw[d.kind];exact j) p t u v z A (n:=n) (k:=.i64) (by simp[c]) (by omega)
   rw[r,← q] at this;exact⟨_,_,this,(fun e=>by cases e),.inl rfl⟩
theorem uf {v:Value} (c:FR y s fr) (h:bb s=some (f,svs)) (d:s.kind ≠ .early) (e:Ext P f (fun _=>pure v)):stepG P main (G fr cs) w = .go (G (fr.finish v) cs) w #[]:=by
 obtain⟨ops,i,rest,kk,o,as,g,j,k,l,x,m,n⟩:=dq c h;obtain⟨fn,p,q,r,t,u⟩:=e.ex;have:=stepG_entry (P:=P) (main:=main) (b:=fr) (a:=⟨fr.tmps,fr.defers⟩) (kk:=kk) (cs:=cs) (w:=w) (rest:=rest) (v:=v) (w':=w) (evs:=#[]) j k (by rw[c.kind];exact d) l p q r t u (by simp) (by simp) (by simp)
 rw[n,← m] at this;exact this
theorem KT{α β:Type}{P:Program}{f:α->Sem β}(s:Sem α):∀{a:α},nc P s=some a->∀w es,(s.bind f).runT P w es=(f a).runT P w es:=by
 induction s with
 |pure b=>intro a h w es;simp only[nc,Option.some.injEq]at h;subst h;rfl
 |program g c=>intro a h w es;simp only[nc]at h;exact c P h w es
 |_=>intro a h;simp[nc]at h
theorem qy{t:Nat}{ad:Addr}{v:Value}(q:FR y s fr)(h:qG s=some (t,.lit (.pointer (some ad))))(C:nc P (isAgg t)=some false)(D:∃fn,P.funcs[s.fn]?=some fn/\fn.norace=true)(E:w.cell? ad=some v):
 stepG P main (G fr cs) w=.go (G (fr.finish v) cs) w #[]:=by
 have f:=q;obtain⟨fn,tmps,todo,defs,mode,kind,ro⟩:=fr;obtain⟨r,i,F,g,H,u,I,J⟩:=q;simp only at r i F g H u I J;subst u;unfold qG at h;split at h
 . rename_i ops z rest A K j
   rw[K]at g;rw[j]at i;have g:mode=.run:=g;subst g;subst i;split at h
   . rename_i o L
     split at h
     . rename_i M
       split at h
       . rename_i a x k
         simp only[Option.some.injEq,Prod.mk.injEq]at h;obtain⟨rfl,N⟩:=h;have d:=f.sv x;rw[N]at d;have d:Frame.eval ⟨fn,tmps,.inRegion ops (z::rest)::A,defs,.run,kind,none⟩ x=.pointer (some ad):=d;obtain⟨O,l,p⟩:=D;subst r;rw[nP L (pR f M)];have hex:execOp (Frame.eval ⟨s.fn,tmps,.inRegion ops (z::rest)::A,defs,.run,kind,none⟩) o=Sem.bind (Instr.loadAt a (.pointer (some ad))) (λv=>pure (Next.value v)):=by simp only[execOp,k,d];rfl
         have e:(Sem.bind (Instr.loadAt a (.pointer (some ad))) (λv=>(pure (Next.value v):Sem Next))).runT P w #[]=(.ok (.value v) w,#[⟨.cell ad,false,false⟩]):=by
          have Q:Instr.loadAt a (.pointer (some ad))=Sem.bind (isAgg a) (λb=>if b=true then Sem.bind (sizeOf a) (λn=>Sem.bind (loadCells ad n) (λc=>pure (.agg c)))else load ad):=rfl
          rw[Q]
          have R:Sem.bind (Sem.bind (isAgg a) (λb=>if b=true then Sem.bind (sizeOf a) (λn=>Sem.bind (loadCells ad n) (λc=>pure (.agg c)))else load ad)) (λv=>(pure (Next.value v):Sem Next))=
           Sem.bind (isAgg a) (λb=>Sem.bind (if b=true then Sem.bind (sizeOf a) (λn=>Sem.bind (loadCells ad n) (λc=>pure (.agg c)))else load ad) (λv=>(pure (Next.value v):Sem Next))):=bind_assoc (m:=Sem) _ _ _
          rw[R,KT _ C];show(Sem.bind (load ad) (λv=>(pure (Next.value v):Sem Next))).runT P w #[]=_
          unfold load;show Sem.runT P (Sem.load .plain ad λv=>pure (Next.value v)) w #[]=_
          simp only[Sem.runT,E];rfl
         rw[hex]
         have S:seen P s.fn #[⟨.cell ad,false,false⟩]=#[]:=by rw[seen_def];simp[l,p,seenStep]
         simp only[stepG.apply,if_true,e,GStep.after]
         by_cases B:(kind==CallKind.early)=true
         . simp[B,gK,G]
         . simp[B,S,G]
       . cases h
     . cases h
   . cases h
 . cases h
def kU(s:jG):Option (TypeId × TypeId × SV):=
 match s.mode,s.todo with
 | .run,.inRegion ops (i::_)::_=>match ops[i]? with
   | some o=>match zY ops s.env o with
     | some true=>match o.op with
       |.convert a b x=>some (a,b,sv s.env x)
       |_=>none
     |_=>none
   |none=>none
 |_,_=>none
theorem ug{a b t:TypeId}{ad:Addr}(l:FR y s fr)(h:kU s=some (a,b,.lit (.pointer (some ad))))(m:P.underlying a=some (.pointer t))(n:P.underlying b=some .unsafePointer)(p:(P.info? t).map (λi=>decide (i.size=0))=some false)(f:∃v,w.cell? ad=some v):
 stepG P main (G fr cs) w=.go (G (fr.finish (.pointer (some ad))) cs) w #[]:=by
 obtain⟨v,f⟩:=f;have d:=l;obtain⟨fn,tmps,todo,defs,mode,kind,ro⟩:=fr;obtain⟨z,g,A,e,B,q,C,D⟩:=l;simp only at z g A e B q C D;subst q;unfold kU at h;split at h
 . rename_i ops r rest u E j
   rw[E]at e;rw[j]at g;have e:mode=.run:=e;subst e;subst g;split at h
   . rename_i o F
     split at h
     . rename_i H
       split at h
       . rename_i I J x k
         simp only[Option.some.injEq,Prod.mk.injEq]at h;obtain⟨rfl,rfl,K⟩:=h;have c:=d.sv x;rw[K]at c;have c:Frame.eval ⟨fn,tmps,.inRegion ops (r::rest)::u,defs,.run,kind,none⟩ x=.pointer (some ad):=c;rw[nP F (pR d H)];have hex:execOp (Frame.eval ⟨fn,tmps,.inRegion ops (r::rest)::u,defs,.run,kind,none⟩) o=(do pure (.value (<-convert I J (.pointer (some ad)))):Sem Next):=by simp only[execOp,k,c]
         have L:=run_convert_to_unsafe m n p f;have M:=events_convert_to_unsafe m n p f #[];rw[hex];simp[stepG.apply,L,M,GStep.after,gK,G,Result.andThen]
       . cases h
     . cases h
   . cases h
 . cases h
end
def dN(P:Program)(f:FuncId)(args:List SV)(kind:CallKind):jG:=
 match P.funcs[f]? with
 |some fn=>⟨f,[.code (fn.body.getD .skip)],args++List.replicate (fn.ntmps-args.length) .bC,[],.run,kind⟩
 |none=>⟨f,[],args,[],.run,kind⟩
abbrev cR:=jG × List jG
def next(P:Program)(a:Fl)(c:cR)(v:SV):cR:=match xy c.1 v with|some s=>sgo P a 400 s c.2|none=>c
def pt(b o:Nat):SV:=.lit (.pointer (some ⟨b,o,none⟩))
def un:SV:=.lit (.tuple #[])
def tt:SV:=.lit (.bool true)
def ff:SV:=.lit (.bool false)
def GH(live:List Nat)(env:List SV):List SV:=(List.range env.length).zipWith (λi v=>if live.contains i then v else .bC) env
def keep(live:List Nat)(s:jG):jG:={s with env:=GH live s.env}
def KU(env:List SV):List (Nat × SV)->List SV
 |[]=>env
 |(i,v)::l=>KU (env.set i v) l
theorem FR.keep{y:Sy}{s:jG}{fr:Frame}(h:FR y s fr)(live:List Nat):FR y (keep live s) fr:=by
 refine⟨h.fn,h.todo,h.defers,h.mode,h.kind,h.ro,?_,λt=>?_⟩
 . rw[h.size]
   show s.env.length=(GH live s.env).length;rw[GH,List.length_zipWith,List.length_range,Nat.min_self]
 . have:=h.env t
   simp only[Go.bd.keep,GH];rw[List.getD_eq_getElem?_getD,List.getElem?_zipWith];by_cases a:t<s.env.length
   . rw[List.getElem?_range a,List.getElem?_eq_getElem a]
     simp only[Option.getD_some];split
     . rw[List.getD_eq_getElem?_getD,List.getElem?_eq_getElem a]at this
       exact this
     . trivial
   . rw[List.getElem?_eq_none (by rw[List.length_range];exact Nat.le_of_not_lt a)]
     trivial
def plain:SV->Bool
 |.bC=>true
 |.lit _=>true
 |_=>false
theorem FR.gL{y y':Sy}{s:jG}{fr:Frame}(h:FR y s fr)(a:s.env.all plain=true):FR y' s fr:=by
 refine⟨h.fn,h.todo,h.defers,h.mode,h.kind,h.ro,h.size,λt=>?_⟩;have b:=h.env t
 have c:plain (s.env.getD t .bC)=true:=by
  rw[List.getD_eq_getElem?_getD];cases q:s.env[t]? with
  |none=>rfl
  |some v=>exact List.all_eq_true.1 a v (List.mem_of_getElem? q)
 generalize s.env.getD t .bC=v at *;cases v<;>simp_all [plain,SR]
structure Ae where
 lock:Nat
 unlock:Nat
 SY:Nat
 vK:Nat
 Qs:Nat
 Pt:Nat
 ju:Nat
 en:Nat
 acq:Nat
 rel:Nat
 kQ:Nat
 add:Nat
 H6:Nat
 uh:Nat
 nano:Nat
 Fo:Nat
 oH:Nat
 tM:Nat
 tU:Nat
 tI:Nat
def U4(c:cR):List Nat:=[c.1.fn,c.1.todo.length,(match c.1.todo with|.inRegion ops (i::_)::_=>i|_=>999),(match bb c.1 with|some (f,_)=>f|none=>match qG c.1 with|some (t,_)=>1000+t|none=>999)]++c.2.map (·.fn)
def lL:Fl:=⟨false,false,false,false,false,false⟩
def KV(P:Program)(f:Fl):Nat->jG->List jG->cR
 |0,fr,st=>(fr,st)
 | n + 1,fr,st=>match ss P f fr st with
   | some (a,b)=>match a.todo with
     |.code _::.inLoop _::_=>(a,b)
     |_=>KV P f n a b
   |none=>(fr,st)
def De(live:List Nat)(c:cR):cR:=(keep live c.1,c.2.map (keep []))
def aR(P:Program)(a:Fl)(live:List Nat)(c:cR)(v:SV):Option cR:=(xy c.1 v).map λs=>De live (sgo P a 400 s c.2)
def pT(P:Program)(a:Fl)(live:List Nat)(c:cR)(v:SV):Option cR:=(xy c.1 v).map λs=>De live (KV P a 400 s c.2)
def SZ(P:Program)(a:Fl)(live:List Nat)(c:cR):cR:=De live (sgo P a 400 c.1 c.2)
def bl(x:Bool):SV:=.lit (.bool x)
def i64(n:Int):SV:=.lit (.int .i64 n)
def i32(n:Int):SV:=.lit (.int .i32 n)
def jk(n:Nat):List SV:=List.replicate n .bC
section
variable(P:Program)(n:Ae)(b o:Nat)(kind:CallKind)
def wf:SV:=.word false false false 0
def wl:SV:=.word true false false 0
def U5:cR:=De [0] (sgo P lL 400 (dN P n.lock [pt b o] kind) [])
def KW:cR:=next P lL (U5 P n b o kind) un
def S3:cR:=next P lL (KW P n b o kind) tt
def S4:cR:=next P lL (S3 P n b o kind) un
def U6:cR:=next P lL (S4 P n b o kind) (pt b o)
def Fp:cR:=next P lL (KW P n b o kind) ff
def XT:cR:=(pT P lL [] (Fp P n b o kind) wf).getD (Fp P n b o kind)
def U7:cR:=next P lL (Fp P n b o kind) wl
def VT:cR:=next P lL (U7 P n b o kind) tt
def VU:cR:=next P lL (VT P n b o kind) tt
def U8:cR:=next P lL (VU P n b o kind) un
def Qt:cR:=next P lL (U7 P n b o kind) ff
def U9:cR:=next P lL (Qt P n b o kind) ff
def S5:cR:=next P lL (next P lL (Fp P n b o kind) wf) tt
def S6:cR:=next P lL (S5 P n b o kind) un
def Va:cR:=next P lL (S6 P n b o kind) (pt b o)
def VV:cR:=next P lL (Qt P n b o kind) tt
def VW:cR:=next P lL (VV P n b o kind) .H4
def VX:cR:=next P lL (VW P n b o kind) un
def VY:cR:=next P lL (VX P n b o kind) .now
def XU:cR:=next P lL (VY P n b o kind) (.word false false true 0)
def S7:List jG:=(U5 P n b o kind).2
def Ur:List jG:=(Fp P n b o kind).2.map (keep [])
def mP(a:List Item)(l:List (Nat × SV)):cR:=(⟨n.SY,a,KU (jk 13) l,[],.run,.normal⟩,S7 P n b o kind)
def cM(a:List Item)(l:List (Nat × SV)):cR:=(⟨n.Qs,a,KU (jk 139) l,[],.run,.normal⟩,Ur P n b o kind)
def LD:cR:=U5 P n b o kind
def ui:cR:=mP P n b o kind (KW P n b o kind).1.todo [(0,pt b o),(5,pt b o)]
def Pu:cR:=mP P n b o kind (S3 P n b o kind).1.todo [(0,pt b o)]
def RA:cR:=mP P n b o kind (S4 P n b o kind).1.todo [(8,pt b o)]
def Pv:cR:=mP P n b o kind (U6 P n b o kind).1.todo [(9,pt b o)]
def BK:cR:=(⟨n.lock,[],jk 6,[],.ret,kind⟩,[])
def Pw(aw sv:Bool)(it:Int):List (Nat × SV):=[(0,pt b o),(2,.H4),(3,bl sv),(4,bl aw),(5,i64 it)]
def Us:cR:=cM P n b o kind (Fp P n b o kind).1.todo [(0,pt b o),(2,i64 0),(3,ff),(4,ff),(5,i64 0),(12,pt b o)]
def Qu(aw sv:Bool)(it:Int):cR:=cM P n b o kind (Fp P n b o kind).1.todo (Pw b o aw sv it++[(12,pt b o)])
def GJ(aw sv:Bool)(it:Int):cR:=cM P n b o kind (U8 P n b o kind).1.todo (Pw b o aw sv it++[(47,pt b o)])
def Qv(aw sv:Bool)(it:Int):cR:=cM P n b o kind (U9 P n b o kind).1.todo (Pw b o aw sv it++[(133,pt b o)])
def HD(L K S aw sv:Bool)(it:Int):cR:=cM P n b o kind (XT P n b o kind).1.todo (Pw b o aw sv it++[(6,.word L K S 0)])
def SQ(K aw sv:Bool)(it:Int):cR:=cM P n b o kind (U7 P n b o kind).1.todo (Pw b o aw sv it++[(6,.word true K false 0),(17,tt),(18,i64 it)])
def SW(it:Int):cR:=cM P n b o kind (VT P n b o kind).1.todo (Pw b o false false it++[(33,tt),(36,pt b o),(37,.word true false false 0),(39,.word true true false 0)])
def DS(aw sv:Bool)(it:Int):cR:=cM P n b o kind (VU P n b o kind).1.todo (Pw b o aw sv it)
def Ol(L K S aw sv:Bool):SV:=.word (L||!S) (if aw then false else K) (S||(sv && L)) (if L||S then 1 else 0)
def Df(L K S aw sv:Bool)(it:Int):cR:=cM P n b o kind (Qt P n b o kind).1.todo (Pw b o aw sv it++[(6,.word L K S 0),(77,pt b o),(78,.word L K S 0),(79,Ol L K S aw sv)])
def T1(sv:Bool):cR:=cM P n b o kind (VV P n b o kind).1.todo [(0,pt b o),(3,bl sv)]
def PK(sv:Bool):cR:=cM P n b o kind (VW P n b o kind).1.todo [(0,pt b o),(2,.H4),(3,bl sv),(91,pt b (o+1))]
def TQ:cR:=cM P n b o kind (VX P n b o kind).1.todo [(0,pt b o),(2,.H4),(95,ff)]
def UP(sv:Bool):cR:=cM P n b o kind (VY P n b o kind).1.todo [(0,pt b o),(2,.H4),(3,bl sv),(103,pt b o)]
def AD(d:Int):cR:=cM P n b o kind (XU P n b o kind).1.todo [(0,pt b o),(128,pt b o),(129,i32 d)]
def Np:cR:=cM P n b o kind (S5 P n b o kind).1.todo [(0,pt b o)]
def RB:cR:=cM P n b o kind (S6 P n b o kind).1.todo [(136,pt b o)]
def Px:cR:=cM P n b o kind (Va P n b o kind).1.todo [(137,pt b o)]
def Vb:cR:=De [0,5] (sgo P lL 400 (dN P n.unlock [pt b o] kind) [])
def S8:cR:=next P lL (Vb P n b o kind) .bC
def VZ:cR:=next P lL (S8 P n b o kind) (pt b o)
def V0:cR:=next P lL (VZ P n b o kind) un
def GK:cR:=next P lL (V0 P n b o kind) un
def XV:cR:=next P {lL with n0:=true} (GK P n b o kind) wf
def Ut:cR:=next P lL (GK P n b o kind) wf
def XW:cR:=next P lL (GK P n b o kind) (.word false false true 0)
def XX:cR:=next P lL (Ut P n b o kind) tt
def Vd:cR:=next P lL (Ut P n b o kind) ff
def S9:List jG:=(Vb P n b o kind).2
def Ve:List jG:=(Ut P n b o kind).2.map (keep [])
def o6(a:List Item)(l:List (Nat × SV)):cR:=(⟨n.vK,a,KU (jk 21) l,[],.run,.normal⟩,S9 P n b o kind)
def ve(a:List Item)(l:List (Nat × SV)):cR:=(⟨n.Pt,a,KU (jk 43) l,[],.run,.normal⟩,Ve P n b o kind)
def U0:cR:=Vb P n b o kind
def RD:cR:=o6 P n b o kind (S8 P n b o kind).1.todo [(0,pt b o),(7,pt b o)]
def UR:cR:=o6 P n b o kind (VZ P n b o kind).1.todo [(0,pt b o),(8,pt b o)]
def UD:cR:=o6 P n b o kind (V0 P n b o kind).1.todo [(0,pt b o)]
def rI:cR:=o6 P n b o kind (GK P n b o kind).1.todo [(0,pt b o),(13,pt b o),(14,.bC)]
def UE:cR:=o6 P n b o kind (XV P n b o kind).1.todo []
def UC:cR:=ve P n b o kind (Ut P n b o kind).1.todo [(0,pt b o),(27,pt b o),(28,wf),(29,.word false true false (-1))]
def G7:cR:=ve P n b o kind (XX P n b o kind).1.todo [(33,pt b (o+1))]
def G9:cR:=ve P n b o kind (XW P n b o kind).1.todo [(41,pt b (o+1))]
def Nq:cR:=ve P n b o kind (Vd P n b o kind).1.todo [(0,pt b o),(37,pt b o)]
def Ta:cR:=(⟨n.unlock,[],jk 6,[],.ret,kind⟩,[])
end
structure iT(P:Program)(n:Ae):Prop where
 e1:∀(fl:Fl) b o kind,aR P fl [0,5] (LD P n b o kind) un=some (ui P n b o kind)
 e2:∀(fl:Fl) b o kind,aR P fl [0] (ui P n b o kind) tt=some (Pu P n b o kind)
 e3:∀(fl:Fl) b o kind,aR P fl [0,2,3,4,5,12] (ui P n b o kind) ff=some (Us P n b o kind)
 e4:∀(fl:Fl) b o kind,aR P fl [8] (Pu P n b o kind) un=some (RA P n b o kind)
 e5:∀(fl:Fl) b o kind,aR P fl [9] (RA P n b o kind) (pt b o)=some (Pv P n b o kind)
 e6:∀(fl:Fl) b o kind,aR P fl [] (Pv P n b o kind) un=some (BK n kind)
 V1:∀(fl:Fl) b o kind L K S aw sv it,pT P fl [0,2,3,4,5,6] (Qu P n b o kind aw sv it) (.word L K S 0)=some (HD P n b o kind L K S aw sv it)
 V2:∀(fl:Fl) b o kind L K S aw sv it,pT P fl [0,2,3,4,5,6] (GJ P n b o kind aw sv it) (.word L K S 0)=some (HD P n b o kind L K S aw sv it)
 V3:∀(fl:Fl) b o kind L K S aw sv it,pT P fl [0,2,3,4,5,6] (Qv P n b o kind aw sv it) (.word L K S 0)=some (HD P n b o kind L K S aw sv it)
 e8:∀(fl:Fl) b o kind K aw sv it,SZ P fl [0,2,3,4,5,6,17,18] (HD P n b o kind true K false aw sv it)=SQ P n b o kind K aw sv it
 e9:∀(fl:Fl) b o kind L K S aw sv it,(L && !S)=false->(aw && !K)=false->SZ P fl [0,2,3,4,5,6,77,78,79] (HD P n b o kind L K S aw sv it)=Df P n b o kind L K S aw sv it
 bg:∀(fl:Fl) b o kind it,aR P {fl with n0:=false} [0,2,3,4,5,33,36,37,39] (SQ P n b o kind false false false it) tt=some (SW P n b o kind it)
 Tb:∀(fl:Fl) b o kind n0 K aw sv it,(!aw && !K && !n0)=false->aR P {fl with n0:=n0} [0,2,3,4,5] (SQ P n b o kind K aw sv it) tt=some (DS P n b o kind aw sv it)
 bV:∀(fl:Fl) b o kind K aw sv it,(aw && !K)=false->aR P fl [0,2,3,4,5,6,77,78,79] (SQ P n b o kind K aw sv it) ff=some (Df P n b o kind true K false aw sv it)
 jA:∀(fl:Fl) b o kind r it,aR P fl [0,2,3,4,5] (SW P n b o kind it) (bl r)=some (DS P n b o kind r false it)
 EE:∀(fl:Fl) b o kind aw sv,aR P fl [0,2,3,4,5,47] (DS P n b o kind aw sv 0) un=some (GJ P n b o kind aw sv 1)
 EF:∀(fl:Fl) b o kind aw sv,aR P fl [0,2,3,4,5,47] (DS P n b o kind aw sv 1) un=some (GJ P n b o kind aw sv 2)
 Tc:∀(fl:Fl) b o kind aw sv,aR P fl [0,2,3,4,5,47] (DS P n b o kind aw sv 2) un=some (GJ P n b o kind aw sv 3)
 Td:∀(fl:Fl) b o kind aw sv,aR P fl [0,2,3,4,5,47] (DS P n b o kind aw sv 3) un=some (GJ P n b o kind aw sv 4)
 cT:∀(fl:Fl) b o kind K aw sv it,aR P fl [0] (Df P n b o kind false K false aw sv it) tt=some (Np P n b o kind)
 Te:∀(fl:Fl) b o kind L K S aw sv it,(L||S)=true->aR P {fl with wz:=true} [0,3] (Df P n b o kind L K S aw sv it) tt=some (T1 P n b o kind sv)
 Tf:∀(fl:Fl) b o kind L K S aw sv it,(L||S)=true->aR P {fl with wz:=false} [0,2,3,91] (Df P n b o kind L K S aw sv it) tt=some (PK P n b o kind sv)
 cd:∀(fl:Fl) b o kind L K S aw sv it,aR P fl [0,2,3,4,5,133] (Df P n b o kind L K S aw sv it) ff=some (Qv P n b o kind aw sv it)
 cH:∀(fl:Fl) b o kind sv,aR P fl [0,2,3,91] (T1 P n b o kind sv) .H4=some (PK P n b o kind sv)
 Tg:∀(fl:Fl) b o kind,aR P fl [0,2,3,103] (PK P n b o kind true) un=some (UP P n b o kind true)
 Ti:∀(fl:Fl) b o kind,aR P fl [0,2,95] (PK P n b o kind false) un=some (TQ P n b o kind)
 oZ:∀(fl:Fl) b o kind x,aR P {fl with tb:=x} [0,2,3,103] (TQ P n b o kind) .now=some (UP P n b o kind x)
 nG:∀(fl:Fl) b o kind sv n1,aR P {fl with n0:=false,n1:=n1} [0,128,129] (UP P n b o kind sv) (.word false false true 0)=some (AD P n b o kind (if !sv||n1 then -11 else -7))
 vJ:∀(fl:Fl) b o kind L K sv,pT P fl [0,2,3,4,5,6] (UP P n b o kind sv) (.word L K false 0)=some (HD P n b o kind L K false true sv 0)
 yB:∀(fl:Fl) b o kind d,aR P fl [0] (AD P n b o kind d) .bC=some (Np P n b o kind)
 yC:∀(fl:Fl) b o kind,aR P fl [136] (Np P n b o kind) un=some (RB P n b o kind)
 yD:∀(fl:Fl) b o kind,aR P fl [137] (RB P n b o kind) (pt b o)=some (Px P n b o kind)
 pj:∀(fl:Fl) b o kind,aR P fl [] (Px P n b o kind) un=some (BK n kind)
 u1:∀(fl:Fl) b o kind,aR P fl [0,7] (U0 P n b o kind) .bC=some (RD P n b o kind)
 u2:∀(fl:Fl) b o kind,aR P fl [0,8] (RD P n b o kind) (pt b o)=some (UR P n b o kind)
 u3:∀(fl:Fl) b o kind,aR P fl [0] (UR P n b o kind) un=some (UD P n b o kind)
 u4:∀(fl:Fl) b o kind,aR P fl [0,13] (UD P n b o kind) un=some (rI P n b o kind)
 u5:∀(fl:Fl) b o kind n0 K,(n0||K)=true->aR P {fl with n0:=n0} [] (rI P n b o kind) (.word false K false 0)=some (UE P n b o kind)
 V4:∀(fl:Fl) b o kind n0 K,aR P {fl with n0:=n0} [41] (rI P n b o kind) (.word false K true 0)=some (G9 P n b o kind)
 V5:∀(fl:Fl) b o kind,aR P {fl with n0:=false} [0,27,28,29] (rI P n b o kind) (.word false false false 0)=some (UC P n b o kind)
 V6:∀(fl:Fl) b o kind,aR P fl [33] (UC P n b o kind) tt=some (G7 P n b o kind)
 V7:∀(fl:Fl) b o kind,aR P fl [0,37] (UC P n b o kind) ff=some (Nq P n b o kind)
 u7:∀(fl:Fl) b o kind n0 L K S,(n0||L||K||S)=true->aR P {fl with n0:=n0} [] (Nq P n b o kind) (.word L K S 0)=some (UE P n b o kind)
 V8:∀(fl:Fl) b o kind,aR P {fl with n0:=false} [0,27,28,29] (Nq P n b o kind) (.word false false false 0)=some (UC P n b o kind)
 u8:∀(fl:Fl) b o kind,aR P fl [] (G7 P n b o kind) un=some (UE P n b o kind)
 u9:∀(fl:Fl) b o kind,aR P fl [] (G9 P n b o kind) un=some (UE P n b o kind)
 V9:∀(fl:Fl) b o kind,aR P fl [] (UE P n b o kind) un=some (Ta n kind)
 o1:∀b o kind,bb (LD P n b o kind).1=some (n.ju,[])/\(LD P n b o kind).1.kind=.normal
 o2:∀b o kind,bb (ui P n b o kind).1=some (n.kQ,[pt b o,i32 0,i32 1])
 o3:∀b o kind,bb (Pu P n b o kind).1=some (n.en,[])
 o4:∀b o kind,kU (RA P n b o kind).1=some (n.tM,n.tU,pt b o)
 o5:∀b o kind,bb (Pv P n b o kind).1=some (n.acq,[pt b o])
 V':∀b o kind aw sv it,qG (Qu P n b o kind aw sv it).1=some (n.tI,pt b o)
 Wa:∀b o kind aw sv it,qG (GJ P n b o kind aw sv it).1=some (n.tI,pt b o)
 Wb:∀b o kind aw sv it,qG (Qv P n b o kind aw sv it).1=some (n.tI,pt b o)
 o7:∀b o kind K aw sv it,bb (SQ P n b o kind K aw sv it).1=some (n.H6,[i64 it])
 o8:∀b o kind it,bb (SW P n b o kind it).1=some (n.kQ,[pt b o,.word true false false 0,.word true true false 0])
 o9:∀b o kind aw sv it,bb (DS P n b o kind aw sv it).1=some (n.uh,[])
 Vf:∀b o kind L K S aw sv it,bb (Df P n b o kind L K S aw sv it).1=some (n.kQ,[pt b o,.word L K S 0,Ol L K S aw sv])
 Wc:∀b o kind sv,bb (T1 P n b o kind sv).1=some (n.nano,[])
 Vg:∀b o kind sv,bb (PK P n b o kind sv).1=some (n.Fo,[pt b (o+1),.bC,i64 2])
 We:∀b o kind,bb (TQ P n b o kind).1=some (n.nano,[])
 Wf:∀b o kind sv,qG (UP P n b o kind sv).1=some (n.tI,pt b o)
 Wg:∀b o kind d,bb (AD P n b o kind d).1=some (n.add,[pt b o,i32 d])
 Wh:∀b o kind,bb (Np P n b o kind).1=some (n.en,[])
 Wi:∀b o kind,kU (RB P n b o kind).1=some (n.tM,n.tU,pt b o)
 Wj:∀b o kind,bb (Px P n b o kind).1=some (n.acq,[pt b o])
 Vh:∀b o kind,qG (U0 P n b o kind).1=some (n.tI,pt b o)/\(U0 P n b o kind).1.kind=.normal/\(U0 P n b o kind).1.fn=n.vK
 Wk:∀b o kind,kU (RD P n b o kind).1=some (n.tM,n.tU,pt b o)
 Wm:∀b o kind,bb (UR P n b o kind).1=some (n.rel,[pt b o])
 Wn:∀b o kind,bb (UD P n b o kind).1=some (n.ju,[])
 Vi:∀b o kind,bb (rI P n b o kind).1=some (n.add,[pt b o,i32 (-1)])
 Vj:∀b o kind,bb (UC P n b o kind).1=some (n.kQ,[pt b o,wf,.word false true false (-1)])
 Vk:∀b o kind,bb (G7 P n b o kind).1=some (n.oH,[pt b (o+1),ff,i64 2])
 Vl:∀b o kind,bb (G9 P n b o kind).1=some (n.oH,[pt b (o+1),tt,i64 2])
 Wo:∀b o kind,qG (Nq P n b o kind).1=some (n.tI,pt b o)
 Wp:∀b o kind,bb (UE P n b o kind).1=some (n.en,[])
 p1:∀b o kind,(S7 P n b o kind).all (·.env.all plain)=true/\(LD P n b o kind).1.env.all plain=true/\(LD P n b o kind).2=S7 P n b o kind
 p2:∀b o kind,(Ur P n b o kind).all (·.env.all plain)=true
 p3:∀b o kind,(S9 P n b o kind).all (·.env.all plain)=true/\(U0 P n b o kind).1.env.all plain=true/\(U0 P n b o kind).2=S9 P n b o kind
 p4:∀b o kind,(Ve P n b o kind).all (·.env.all plain)=true
structure iU(P:Program)(n:Ae):Prop where
 ju:Ext P n.ju (λ_=>do mark .disable;pure Extern.Race.none_)
 en:Ext P n.en (λ_=>do mark .enable;pure Extern.Race.none_)
 acq:Ext P n.acq (Extern.Race.marked .acquire)
 rel:Ext P n.rel (Extern.Race.marked .releaseMerge)
 kQ:Ext P n.kQ (Extern.Atomic.casT (.int .i32))
 add:Ext P n.add (Extern.Atomic.update (Op.intArith .add) .i32 true)
 H6:Ext P n.H6 Extern.Sync.canSpin
 uh:Ext P n.uh (λ_=>pure (.tuple #[]))
 nano:Ext P n.nano Extern.OsHooks.nano
 KX:∃fn,P.funcs[n.nano]?=some fn/\fn.norace=true
 Fo:Ext P n.Fo Extern.Sync.semacquire
 oH:Ext P n.oH Extern.Sync.semrelease
 Tj:nc P (isAgg n.tI)=some false
 Wq:∃t,P.underlying n.tM=some (.pointer t)/\P.underlying n.tU=some .unsafePointer/\(P.info? t).map (λi=>decide (i.size=0))=some false
 nS:∃fn,P.funcs[n.Qs]?=some fn/\fn.norace=true
 nU:∃fn,P.funcs[n.vK]?=some fn/\fn.norace=true
 nV:∃fn,P.funcs[n.Pt]?=some fn/\fn.norace=true
def Sy.ok(y:Sy):Prop:=(0<=y.N/\y.N<=1000)/\(0<=y.c/\y.c<=1000)
def Fl.of(y:Sy):Fl:=⟨decide (y.N=0),decide (y.N=1),decide (y.c=0),decide (y.c=1),decide (y.ws=0),decide (IntKind.i64.wrap (y.tn-y.ws)>1000000)⟩
theorem Fl.Dg{y:Sy}(h:y.ok):(Fl.of y).At y:=⟨h.1,h.2,rfl,rfl,rfl,rfl,rfl,rfl⟩
def GL:SV->Bool|.word ..=>true|.cnt=>true|_=>false
def KY:SV->Bool|.eC _=>true|.GG=>true|.H3=>true|_=>false
def KZ:SV->Bool|.H4=>true|.SS=>true|_=>false
def K0:SV->Bool|.now=>true|.SS=>true|_=>false
theorem SR.re{y y':Sy}{v:SV}{x:Value}(h:SR y v x)(a:y.N=y'.N\/GL v=false)(b:y.c=y'.c\/KY v=false)(d:y.ws=y'.ws\/KZ v=false)(e:y.tn=y'.tn\/K0 v=false):SR y' v x:=by cases v<;>simp_all [SR,GL,KY,KZ,K0]
theorem FR.re{y y':Sy}{s:jG}{fr:Frame}(h:FR y s fr)(a:y.N=y'.N\/s.env.all (λv=>!GL v)=true)(b:y.c=y'.c\/s.env.all (λv=>!KY v)=true)
 (d:y.ws=y'.ws\/s.env.all (λv=>!KZ v)=true) (e:y.tn=y'.tn\/s.env.all (λv=>!K0 v)=true):FR y' s fr:=by
 have key:∀(u:SV->Bool) (t:Nat),u .bC=false->s.env.all (λv=>!u v)=true->u (s.env.getD t .bC)=false:=λu t f g=>by
  rw[List.getD_eq_getElem?_getD];cases q:s.env[t]? with
  |none=>exact f
  |some v=>have:=List.all_eq_true.1 g v (List.mem_of_getElem? q);simpa using this
 exact⟨h.fn,h.todo,h.defers,h.mode,h.kind,h.ro,h.size,λt=>(h.env t).re (a.imp id (key _ t rfl)) (b.imp id (key _ t rfl)) (d.imp id (key _ t rfl)) (e.imp id (key _ t rfl))⟩
theorem my.gL{y y':Sy}:∀{l:List jG}{fs:List Frame},my y l fs->l.all (·.env.all plain)=true->my y' l fs
 |[],fs,h,_=>by rw[h.lz];trivial
 |s::l,fs,h,a=>by obtain⟨f,b,rfl,c,d⟩:=h.cons_inv;simp only[List.all_cons,Bool.and_eq_true]at a;exact⟨c.gL a.1,d.gL a.2⟩
theorem my.keep{y:Sy}(live:List Nat):∀{l:List jG}{fs:List Frame},my y l fs->my y (l.map (Go.bd.keep live)) fs
 |[],fs,h=>by rw[h.lz];trivial
 |s::l,fs,h=>by obtain⟨f,a,rfl,b,c⟩:=h.cons_inv;exact⟨b.keep live,c.keep live⟩
theorem GM{P:Program}{Wd:World->Prop}{f:Fl}{y:Sy}(i:f.At y):∀(n:Nat){s:jG}{st:List jG}{fr:Frame}{frs:List Frame},FR y s fr->my y st frs ->
 ∃m b a,FR y (KV P f n s st).1 b/\my y (KV P f n s st).2 a/\∀cs,kD P Wd m (G fr (frs++cs)) (G b (a++cs))
 |0,s,st,fr,frs,g,c=>⟨0,fr,frs,g,c,λ_=>rfl⟩
 | n + 1,s,st,fr,frs,g,c=>by
   unfold KV;cases e:ss P f s st with
   |none=>exact⟨0,fr,frs,g,c,λ_=>rfl⟩
   | some p=>
     obtain⟨u,o⟩:=p;obtain⟨b,a,j,k,l⟩:=Ps i e g c;simp only;split
     . exact⟨1,b,a,j,k,λcs=>⟨_,l cs,rfl⟩⟩
     . obtain⟨m,h,d,q,r,t⟩:=GM i n j k
       exact⟨m+1,h,d,q,r,λcs=>⟨_,l cs,t cs⟩⟩
section
variable{P:Program}{Wd:World->Prop}{y:Sy}{c c':cR}{live:List Nat}{v:SV}{x:Value}{fr:Frame}{frs:List Frame}
theorem Py(e:aR P (Fl.of y) live c v=some c')(f:y.ok)(g:FR y c.1 fr)(d:my y c.2 frs)(h:SR y v x):
 ∃b a,FR y c'.1 b/\my y c'.2 a/\∀cs,sQ P Wd (G (fr.finish x) (frs++cs)) (G b (a++cs)):=by
 obtain⟨s,i,rfl⟩:=Option.map_eq_some_iff.1 e;obtain⟨m,b,a,j,k,l⟩:=mc (Wd:=Wd) (Fl.Dg f) 400 (P:=P) (g.fin i h) d;exact⟨b,a,j.keep live,k.keep [],λcs=>⟨m,l cs⟩⟩
theorem Tk(e:pT P (Fl.of y) live c v=some c')(f:y.ok)(g:FR y c.1 fr)(d:my y c.2 frs)(h:SR y v x):
 ∃b a,FR y c'.1 b/\my y c'.2 a/\∀cs,sQ P Wd (G (fr.finish x) (frs++cs)) (G b (a++cs)):=by
 obtain⟨s,i,rfl⟩:=Option.map_eq_some_iff.1 e;obtain⟨m,b,a,j,k,l⟩:=GM (Wd:=Wd) (Fl.Dg f) 400 (P:=P) (g.fin i h) d;exact⟨b,a,j.keep live,k.keep [],λcs=>⟨m,l cs⟩⟩
theorem Tl(e:SZ P (Fl.of y) live c=c')(f:y.ok)(g:FR y c.1 fr)(d:my y c.2 frs):
 ∃b a,FR y c'.1 b/\my y c'.2 a/\∀cs,sQ P Wd (G fr (frs++cs)) (G b (a++cs)):=by
 subst e;obtain⟨m,b,a,h,i,j⟩:=mc (Wd:=Wd) (Fl.Dg f) 400 (P:=P) g d;exact⟨b,a,h.keep live,i.keep [],λcs=>⟨m,j cs⟩⟩
end
open Mu in
inductive sS where
 |ld|ig|rd (l:Lo)|sq (old:Wd) (l:Lo)|sw (old:Wd) (l:Lo)|kQ (old:Wd) (l:Lo)|t1 (sv:Bool)|gx (sv:Bool)|tq|up (sv:Bool)|add (old:Wd) (sv:Bool)|le|la|back
 |GN|ur|ud|held|iY (old:Wd)|vz|give|ue|Dh
section
variable(P:Program)(n:Ae)(b o:Nat)(kind:CallKind)
def Fi(p:sS)(c:cR)(y:Sy):Prop:=
 match p with
 |.ld=>c=LD P n b o kind
 |.ig=>c=ui P n b o kind
 |.rd l=>c=Qu P n b o kind l.aw l.sv l.it\/c=GJ P n b o kind l.aw l.sv l.it\/c=Qv P n b o kind l.aw l.sv l.it
 |.sq old l=>c=SQ P n b o kind old.K l.aw l.sv l.it/\y.N=old.N/\old.L=true/\old.S=false
 |.sw old l=>c=SW P n b o kind l.it/\y.N=old.N/\l.aw=false/\l.sv=false/\old.L=true/\old.K=false/\old.S=false
 |.kQ old l=>c=Df P n b o kind old.L old.K old.S l.aw l.sv l.it/\y.N=old.N
 |.t1 sv=>c=T1 P n b o kind sv
 |.gx sv=>c=PK P n b o kind sv
 |.tq=>c=TQ P n b o kind
 |.up sv=>c=UP P n b o kind sv
 |.add old sv=>c=AD P n b o kind (if !sv||decide (old.N=1)then -11 else -7)
 |.le=>c=Pu P n b o kind\/c=Np P n b o kind
 |.la=>c=Pv P n b o kind\/c=Px P n b o kind
 |.back=>c=BK n kind
 |.GN=>c=U0 P n b o kind
 |.ur=>c=UR P n b o kind
 |.ud=>c=UD P n b o kind
 |.held=>c=rI P n b o kind
 |.iY old=>c=UC P n b o kind/\y.N=old.N/\old.L=false/\old.K=false/\old.S=false/\old.N≠0
 |.vz=>c=Nq P n b o kind
 |.give=>c=G7 P n b o kind\/c=G9 P n b o kind
 |.ue=>c=UE P n b o kind
 |.Dh=>c=Ta n kind
def nY(p:sS)(cs:List Frame)(g:Goroutine):Prop:=∃c y fr frs,Fi P n b o kind p c y/\y.ok/\FR y c.1 fr/\my y c.2 frs/\g=G fr (frs++cs)
end
theorem nY.running{P:Program}{n:Ae}{b o:Nat}{kind:CallKind}{p:sS}{cs:List Frame}{g:Goroutine}(h:nY P n b o kind p cs g):g.status=.running/\g.offers=none:=by obtain⟨c,y,fr,frs,_,_,_,_,rfl⟩:=h;exact⟨rfl,rfl⟩
structure ShM(b o:Nat)(w:World)(s:Mu.Sh):Prop where
 cw:w.cell? ⟨b,o,none⟩=some (.int .i32 (enc s.w.L s.w.K s.w.S s.w.N))
 cs:w.cell? ⟨b,o+1,none⟩=some (.int .u32 s.ms)
 fz:∀i,w.frozen? ⟨b,i,none⟩=false
def MW(b o:Nat)(w w':World):Prop:=(mD w.os w'.os/\w'.output=w.output)/\(w'.heap=w.heap\/∃i v,(i=o\/i=o+1)/\flat v=true/\w'.heap=(w.setCell ⟨b,i,none⟩ v).heap)
def EvM(b o:Nat)(es:Array Event):Prop:=∀e∈es,(e.loc=.mark .disable\/e.loc=.mark .enable)\/(∃i,(i=o\/i=o+1)/\e.loc=.cell ⟨b,i,none⟩/\e.sync=true)
theorem qz{w w':World}(h:w'.heap=w.heap)(a:Addr):w'.cell? a=w.cell? a/\w'.frozen? a=w.frozen? a:=by simp[World.cell?,World.frozen?,h]
theorem ShM.heap{b o:Nat}{w w':World}{s:Mu.Sh}(h:ShM b o w s)(e:w'.heap=w.heap):ShM b o w' s:=⟨by rw[(qz e _).1];exact h.cw,by rw[(qz e _).1];exact h.cs,λi=>by rw[(qz e _).2];exact h.fz i⟩
theorem j9{w:World}{b i:Nat}{u v:Value}(h:w.cell? ⟨b,i,none⟩=some u):(w.setCell ⟨b,i,none⟩ v).cell? ⟨b,i,none⟩=some v:=by
 unfold World.cell? at h ⊢;unfold World.setCell;simp only[Array.getElem?_modify,if_true];cases e:w.heap[b]? with
 |none=>simp[e]at h
 | some d=>
   rw[e]at h;cases d<;>simp at h ⊢;rename_i c _ _;by_cases a:i<c.size
   . simp[a]
   . simp[a]at h
theorem oI{w:World}{a:Addr}{v:Value}{b i:Nat}:(w.setCell a v).frozen? ⟨b,i,none⟩=w.frozen? ⟨b,i,none⟩:=by
 unfold World.frozen? World.setCell;simp only[Array.getElem?_modify];by_cases h:a.block=b
 . simp only[h,if_true]
   cases e:w.heap[b]? with
   |none=>rfl
   |some c=>cases c<;>simp
 . simp only[h,if_false]
theorem ShM.aO{b o:Nat}{w:World}{s:Mu.Sh}(h:ShM b o w s)(w':Mu.Wd):ShM b o (w.setCell ⟨b,o,none⟩ (.int .i32 (enc w'.L w'.K w'.S w'.N))) {s with w:=w'}:=⟨j9 h.cw,by rw[eE (by simp)];exact h.cs,λi=>by rw[oI];exact h.fz i⟩
theorem ShM.Fq{b o:Nat}{w:World}{s:Mu.Sh}(h:ShM b o w s)(m:Nat):ShM b o (w.setCell ⟨b,o+1,none⟩ (.int .u32 m)) {s with ms:=m}:=⟨by rw[eE (by simp)];exact h.cw,j9 h.cs,λi=>by rw[oI];exact h.fz i⟩
theorem fL{b o:Nat}:EvM b o #[]:=λe h=>by simp at h
theorem GO{b o i:Nat}(a:i=o\/i=o+1):EvM b o #[⟨.cell ⟨b,i,none⟩,false,true⟩]:=λe h=>by simp at h;subst h;exact .inr ⟨i,a,rfl,rfl⟩
theorem kV{b o i:Nat}(a:i=o\/i=o+1):EvM b o #[⟨.cell ⟨b,i,none⟩,false,true⟩,⟨.cell ⟨b,i,none⟩,true,true⟩]:=λe h=>by simp at h;rcases h with rfl|rfl<;>exact .inr ⟨i,a,rfl,rfl⟩
theorem vL{b o:Nat}:EvM b o (semEvents ⟨b,o+1,none⟩):=λe h=>by
 simp[semEvents]at h;rcases h with rfl|rfl|rfl|rfl
 . exact .inl (.inl rfl)
 . exact .inr ⟨o+1,.inr rfl,rfl,rfl⟩
 . exact .inr ⟨o+1,.inr rfl,rfl,rfl⟩
 . exact .inl (.inr rfl)
section
variable{P:Program}{n:Ae}(C:iT P n)(X:iU P n){b o:Nat}{kind:CallKind}{Wd:World->Prop}{cs:List Frame}{g:Goroutine}{w:World}{main:Bool}
variable(hWd:∀w,Wd w->∃v,w.cell? ⟨b,o,none⟩=some v)
def Next(P:Program)(n:Ae)(b o:Nat)(kind:CallKind)(Wd:World->Prop)(cs:List Frame)(p:sS)(a:Goroutine):Prop:=a.status=.running/\∃c,sQ P Wd a c/\nY P n b o kind p cs c
theorem nxt{y:Sy}{c c':cR}{live:List Nat}{v:SV}{x:Value}{fr:Frame}{frs:List Frame}{p:sS}(g:aR P (Fl.of y) live c v=some c')(f:y.ok)(h:FR y c.1 fr)(d:my y c.2 frs)(i:SR y v x)(j:Fi P n b o kind p c' y):
 Next P n b o kind Wd cs p (G (fr.finish x) (frs++cs)):=by
 obtain⟨e,a,k,l,m⟩:=Py (Wd:=Wd) g f h d i;exact⟨rfl,_,m cs,c',y,e,a,j,f,k,l,rfl⟩
def y0:Sy:=⟨2,2,1,0⟩
theorem sT:y0.ok:=by unfold Sy.ok y0;decide
theorem Fs(h:∃fn body,P.funcs[n.lock]?=some fn/\fn.body=some body/\fn.ntmps=6):∃e,sQ P Wd (G (Frame.enter P n.lock #[.pointer (some ⟨b,o,none⟩)] kind) cs) e/\nY P n b o kind .ld cs e:=by
 obtain⟨fn,body,a,i,g⟩:=h
 have j:FR y0 (dN P n.lock [pt b o] kind) (Frame.enter P n.lock #[.pointer (some ⟨b,o,none⟩)] kind):=by
  refine⟨by simp[dN,a,Frame.enter],by simp[dN,a,i,Frame.enter],by simp[dN,a,Frame.enter],by simp[dN,a,Frame.enter,C'.of],by simp[dN,a,Frame.enter],rfl,by simp[dN,a,g,Frame.enter],λt=>?_⟩
  simp only[dN,a,Frame.enter,g,Option.map_some,Option.getD_some]
  match t with
  |0=>rfl
  |1|2|3|4|5=>trivial
  | t+6=>
    have:([pt b o]++List.replicate (6 - [pt b o].length) SV.bC).getD (t+6) .bC=.bC:=by rw[List.getD_eq_getElem?_getD,List.getElem?_eq_none (by simp[pt])];rfl
    rw[this];trivial
 obtain⟨m,d,c,k,l,p⟩:=mc (Wd:=Wd) (P:=P) (f:=lL) (y:=y0) ⟨by decide,by decide,rfl,rfl,rfl,rfl,rfl,by decide⟩ 400 j (st:=[]) (frs:=[]) trivial
 have q:=p cs;exact⟨_,⟨m,q⟩,_,y0,d,c,rfl,sT,k.keep [0],l.keep [],rfl⟩
theorem K1:∀g:FuncId,Mark.disable≠.extern g:=λg h=>by cases h
theorem K2:∀g:FuncId,Mark.enable≠.extern g:=λg h=>by cases h
include C X in
theorem By(h:nY P n b o kind .ld cs g):∃d,stepG P main g w=.go d w #[⟨.mark .disable,false,true⟩]/\Next P n b o kind Wd cs .ig d:=by obtain⟨c,y,fr,frs,rfl,f,e,a,rfl⟩:=h;exact⟨_,eT K1 e (C.o1 b o kind).1 (by rw[show(LD P n b o kind).1.kind=_ from(C.o1 b o kind).2];decide) X.ju,nxt (C.e1 _ b o kind) f e a rfl rfl⟩
include C X in
theorem GP(h:nY P n b o kind .ud cs g):∃d,stepG P main g w=.go d w #[⟨.mark .disable,false,true⟩]/\Next P n b o kind Wd cs .held d:=by obtain⟨c,y,fr,frs,rfl,f,e,a,rfl⟩:=h;exact⟨_,eT K1 e (C.Wn b o kind) (by simp[UD,o6]) X.ju,nxt (C.u4 _ b o kind) f e a rfl rfl⟩
include C X in
theorem GQ(h:nY P n b o kind .ue cs g):∃d,stepG P main g w=.go d w #[⟨.mark .enable,false,true⟩]/\Next P n b o kind Wd cs .Dh d:=by obtain⟨c,y,fr,frs,rfl,f,e,a,rfl⟩:=h;exact⟨_,eT K2 e (C.Wp b o kind) (by simp[UE,o6]) X.en,nxt (C.V9 _ b o kind) f e a rfl rfl⟩
include C X in
theorem GR(h:nY P n b o kind .ur cs g):∃d,stepG P main g w=.go d w #[⟨.mark (.releaseMerge ⟨b,o,none⟩),false,true⟩]/\Next P n b o kind Wd cs .ud d:=by obtain⟨c,y,fr,frs,rfl,f,e,a,rfl⟩:=h;exact⟨_,fD (λi g h=>by cases h) e (C.Wm b o kind) (by simp[UR,o6]) X.rel,nxt (C.u3 _ b o kind) f e a rfl rfl⟩
include C X in
theorem GU(h:nY P n b o kind .la cs g):∃e,stepG P main g w=.go e w #[⟨.mark (.acquire ⟨b,o,none⟩),false,true⟩]/\Next P n b o kind Wd cs .back e:=by
 obtain⟨c,y,fr,frs,i,f,d,a,rfl⟩:=h;rcases i with rfl|rfl
 . exact⟨_,fD (λj g h=>by cases h) d (C.o5 b o kind) (by simp[Pv,mP]) X.acq,nxt (C.e6 _ b o kind) f d a rfl rfl⟩
 . exact⟨_,fD (λj g h=>by cases h) d (C.Wj b o kind) (by simp[Px,cM]) X.acq,nxt (C.pj _ b o kind) f d a rfl rfl⟩
include X hWd in
theorem through{y:Sy}{c c':cR}{live:List Nat}{fr:Frame}{frs:List Frame}{p:sS}(f:kU c.1=some (n.tM,n.tU,pt b o))(g:aR P (Fl.of y) live c (pt b o)=some c')(h:y.ok)(e:FR y c.1 fr)(d:my y c.2 frs)(i:Fi P n b o kind p c' y):
 ∃a,sQ P Wd (G fr (frs++cs)) a/\nY P n b o kind p cs a:=by
 obtain⟨t,j,k,l⟩:=X.Wq;obtain⟨_,a,m,q⟩:=nxt (P:=P) (n:=n) (b:=b) (o:=o) (kind:=kind) (Wd:=Wd) (cs:=cs) (x:=.pointer (some ⟨b,o,none⟩)) g h e d rfl i;refine⟨a,sQ.trans (rH.zZ ⟨rfl,λmain w r=>?_⟩) m,q⟩;exact ug e f j k l (hWd w r)
include C X hWd in
theorem GV(h:nY P n b o kind .le cs g):∃s,stepG P main g w=.go s w #[⟨.mark .enable,false,true⟩]/\Next P n b o kind Wd cs .la s:=by
 obtain⟨c,y,fr,frs,t,e,f,a,rfl⟩:=h;rcases t with rfl|rfl
 . refine⟨_,eT K2 f (C.o3 b o kind) (by simp[Pu,mP]) X.en,rfl,?_⟩
   obtain⟨i,d,j,k,l⟩:=Py (Wd:=Wd) (x:=.tuple #[]) (C.e4 _ b o kind) e f a rfl;obtain⟨m,q,r⟩:=through X hWd (cs:=cs) (p:=.la) (C.o4 b o kind) (C.e5 _ b o kind) e j k (.inl rfl);exact⟨m,(l cs).trans q,r⟩
 . refine⟨_,eT K2 f (C.Wh b o kind) (by simp[Np,cM]) X.en,rfl,?_⟩
   obtain⟨i,d,j,k,l⟩:=Py (Wd:=Wd) (x:=.tuple #[]) (C.yC _ b o kind) e f a rfl;obtain⟨m,q,r⟩:=through X hWd (cs:=cs) (p:=.la) (C.Wi b o kind) (C.yD _ b o kind) e j k (.inr rfl);exact⟨m,(l cs).trans q,r⟩
include C X hWd in
theorem xA{v:Value}(j:w.cell? ⟨b,o,none⟩=some v)(h:nY P n b o kind .GN cs g):∃d,stepG P main g w=.go d w #[]/\Next P n b o kind Wd cs .ur d:=by
 obtain⟨c,y,fr,frs,rfl,e,f,a,rfl⟩:=h;refine⟨_,qy f (C.Vh b o kind).1 X.Tj (by rw[show(U0 P n b o kind).1.fn=_ from(C.Vh b o kind).2.2];exact X.nU) j,rfl,?_⟩;obtain⟨k,i,l,m,q⟩:=Py (Wd:=Wd) (x:=v) (C.u1 _ b o kind) e f a trivial;obtain⟨r,s,t⟩:=through X hWd (cs:=cs) (p:=.ur) (C.Wk b o kind) (C.u2 _ b o kind) e l m rfl;exact⟨r,(q cs).trans s,t⟩
include C X in
theorem Om{sv:Bool}(h:nY P n b o kind (.t1 sv) cs g):∃f,stepG P main g w=.go f w.later #[]/\Next P n b o kind Wd cs (.gx sv) f:=by
 obtain⟨c,y,fr,frs,rfl,j,i,d,rfl⟩:=h;refine⟨_,Ad i (C.Wc b o kind sv) (by simp[T1,cM]) X.nano X.KX,?_⟩;have e:=i.re (y':={y with ws:=((w.os.mono+w.tick:Nat):Int)}) (.inl rfl) (.inl rfl) (.inr (by cases sv<;>rfl)) (.inl rfl);have a:=d.gL (y':={y with ws:=((w.os.mono+w.tick:Nat):Int)}) (by simpa[T1,cM]using C.p2 b o kind);exact nxt (y:={y with ws:=((w.os.mono+w.tick:Nat):Int)}) (x:=.int .i64 ((w.os.mono+w.tick:Nat):Int)) (C.cH _ b o kind sv) j e a rfl rfl
end
end Go.bd

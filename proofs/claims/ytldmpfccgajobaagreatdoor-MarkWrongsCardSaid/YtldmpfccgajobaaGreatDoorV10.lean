import Derived.Conc.ClockLaws
import Derived.Conc.MarkLaws
import Derived.Conc.AtomicLaws2
import Derived.Conc.SmallLaws
import Derived.Laws.LoneSync
import Derived.Test.YtldmpfccgajobaaGreatDoorV9
set_option linter.all false
namespace Go.bG
open Go.Conc
def aM(s:iq):Option (FuncId × List SV):=
 match s.mode,s.todo with
 | .run, .inRegion ops (i::_)::_=>match ops[i]? with
   | some o=>match v9 ops s.env o with
     | some true=>match o.op with
       | .call c=>match c.callee with
         |.value (.func f)=>some (f,c.args.toList.map (sv s.env))
         |_=>none
       |_=>none
     |_=>none
   |none=>none
 |_,_=>none
def oa(s:iq):Option (TypeId × SV):=
 match s.mode,s.todo with
 | .run,.inRegion ops (i::_)::_=>match ops[i]? with
   | some o=>match v9 ops s.env o with
     | some true=>match o.op with
       |.load t x=>some (t,sv s.env x)
       |_=>none
     |_=>none
   |none=>none
 |_,_=>none
structure Ext(P:Program)(f:FuncId)(e:Array Value->Sem Value):Prop where
 ex:∃fn,P.funcs[f]?=some fn/\(fn.name==  "runtime.NumGoroutine")=false/\fn.body.isNone=true/\Extern.findNext fn=none/\Extern.find fn=some e
theorem cx {y:Sy} {s:iq} {fr:Frame} {f:FuncId} {svs:List SV} (j:FR y s fr) (h:aM s=some (f,svs)) :
 ∃ ops i rest kk o as a,ops[i]? = some o∧Region.wanted o (yielded ops fr.tmps)=true∧o.op = .call { callee:=.value (.func f),args:=as,argTypes:=a }∧svs=as.toList.map (sv s.env) ∧
   fr=(fr.at ⟨fr.tmps,fr.defers⟩ (.inRegion ops (i :: rest) :: kk))∧∀ v,fr.at ((⟨fr.tmps,fr.defers⟩:Act).put o.dst v) (.inRegion ops rest :: kk)=fr.finish v:=by
 have d:=j;obtain⟨fn,tmps,todo,defs,mode,kind,ro⟩:=fr;obtain⟨n,e,p,b,q,k,r,t⟩:=j;simp only at n e p b q k r t;subst k;unfold aM at h;split at h
 . rename_i ops i rest kk u w
   rw[u] at b;rw[w] at e;have b:mode = .run:=b;subst b;subst e;split at h
   . rename_i o l
     split at h
     . rename_i x
       split at h
       . rename_i c z
         split at h
         . rename_i g m
           simp only[Option.some.injEq,Prod.mk.injEq] at h;obtain⟨rfl,rfl⟩:=h;obtain⟨callee,args,a⟩:=c;simp only at m;subst m;refine⟨ops,i,rest,kk,o,args,a,l,m8 d x,z,rfl,rfl,fun v=>?_⟩
           simp only[Frame.finish,l,Option.bind_some,Act.put,Frame.at];cases o.dst <;> rfl
         . cases h
       . cases h
     . cases h
   . cases h
 . cases h
section
variable{P:Program}{main:Bool}{y:Sy}{s:iq}{fr:Frame}{f:FuncId}{svs:List SV}{cs:List Frame}{w:World}
theorem zh{fr:Frame}(x:Operand):(⟨fr.tmps,fr.defers⟩:Act).eval x=fr.eval x:=by cases x<;>rfl
theorem xV {as:Array Operand} (b:FR y s fr) {svs:List SV} (h:svs=as.toList.map (sv s.env)):∀ (j:Nat) (v:SV),svs[j]? = some v->∃ x,(as.map (⟨fr.tmps,fr.defers⟩:Act).eval)[j]? = some x∧SR y v x:=fun j v a=>by
 subst h;rw[List.getElem?_map,Array.getElem?_toList] at a;obtain⟨x,c,rfl⟩:=Option.map_eq_some_iff.1 a;exact⟨fr.eval x,by simp[c,zh],b.sv x⟩
theorem dG {m:Mark} (d:∀ g,m ≠ .extern g) (c:FR y s fr) (h:aM s=some (f,svs)) (e:s.kind ≠ .early) (j:Ext P f (fun _=>do mark m;pure Extern.Race.none_)):stepG P main (G fr cs) w = .go (G (fr.finish (.tuple #[])) cs) w #[⟨.mark m,false,true⟩]:=by
 obtain⟨ops,i,rest,kk,o,as,k,l,n,p,A,q,r⟩:=cx c h;obtain⟨fn,t,u,v,x,z⟩:=j.ex;have:=stepG_mark0 (P:=P) (main:=main) (b:=fr) (a:=⟨fr.tmps,fr.defers⟩) (kk:=kk) (cs:=cs) (w:=w) (rest:=rest) m d l n (by rw[c.kind];exact e) p t u v x z
 rw[r,← q] at this;exact this
theorem dU {mk:Addr->Mark} (j:∀ ad g,mk ad ≠ .extern g) {ad:Addr} (d:FR y s fr) (h:aM s=some (f,[.lit (.pointer (some ad))])) (k:s.kind ≠ .early) (l:Ext P f (Extern.Race.marked mk)):stepG P main (G fr cs) w = .go (G (fr.finish (.tuple #[])) cs) w #[⟨.mark (mk ad),false,true⟩]:=by
 obtain⟨ops,i,rest,kk,o,as,m,n,p,q,r,t,u⟩:=cx d h;obtain⟨fn,v,z,A,B,C⟩:=l.ex;obtain⟨x,e,c⟩:=xV d r 0 _ rfl;have c:x = .pointer (some ad):=c;rw[c] at e;have:=stepG_markAt (P:=P) (main:=main) (b:=fr) (a:=⟨fr.tmps,fr.defers⟩) (kk:=kk) (cs:=cs) (w:=w) (rest:=rest) mk j n p (by rw[d.kind];exact k) q v z A B C e
 rw[u,← t] at this;exact this
theorem zi {as:Array Operand} {a b c:SV} (h:[a,b,c]=as.toList.map (sv s.env)):∃ x z u,as=#[x,z,u]∧sv s.env x=a∧sv s.env z=b∧sv s.env u=c:=by
 obtain⟨l⟩:=as
 match l,h with
 | [x,z,u],h=>simp at h;exact⟨x,z,u,rfl,h.1.symm,h.2.1.symm,h.2.2.symm⟩
theorem Gq {as:Array Operand} {a b:SV} (h:[a,b]=as.toList.map (sv s.env)):∃ x z,as=#[x,z]∧sv s.env x=a∧sv s.env z=b:=by
 obtain⟨l⟩:=as
 match l,h with
 | [x,z],h=>simp at h;exact⟨x,z,rfl,h.1.symm,h.2.symm⟩
theorem Gr {as:Array Operand} {a:SV} (h:[a]=as.toList.map (sv s.env)):∃ x,as=#[x]∧sv s.env x=a:=by
 obtain⟨l⟩:=as
 match l,h with
 | [x],h=>simp at h;exact⟨x,rfl,h.symm⟩
theorem fV(b:FR y s fr){x:Operand}{a:SV}(h:sv s.env x=a):SR y a ((⟨fr.tmps,fr.defers⟩:Act).eval x):=by subst h;rw[zh];exact b.sv x
theorem fu {k:IntKind} {ad:Addr} {a b:SV} {v n:Int} (c:FR y s fr) (h:aM s=some (f,[.lit (.pointer (some ad)),a,b])) (e:s.kind ≠ .early) (g:Ext P f (Extern.Atomic.casT (.int k)))
 (j:∀ x,SR y a x->x = .int k v) (hb:∀ x,SR y b x->x = .int k n) (l:w.cell? ad=some (.int k v)) (m:w.frozen? ad=false) :
 stepG P main (G fr cs) w = .go (G (fr.finish (.bool true)) cs) (w.setCell ad (.int k n)) #[⟨.cell ad,false,true⟩,⟨.cell ad,true,true⟩]:=by
 obtain⟨ops,i,rest,kk,o,as,p,q,r,t,A,B,C⟩:=cx c h;obtain⟨fn,D,E,F,H,I⟩:=g.ex;obtain⟨x,z,u,rfl,J,d,K⟩:=zi A;have:=stepG_cas_hit (P:=P) (main:=main) (b:=fr) (a:=⟨fr.tmps,fr.defers⟩) (kk:=kk) (cs:=cs) (w:=w) (rest:=rest) q r (by rw[c.kind];exact e) t D E F H k I (fV c J) (j _ (fV c d)) (hb _ (fV c K)) l m
 rw[C,← B] at this;exact this
theorem fN {k:IntKind} {ad:Addr} {a b:SV} {v old n:Int} (c:FR y s fr) (h:aM s=some (f,[.lit (.pointer (some ad)),a,b])) (g:s.kind ≠ .early) (j:Ext P f (Extern.Atomic.casT (.int k)))
 (l:∀ x,SR y a x->x = .int k old) (hb:∀ x,SR y b x->x = .int k n) (m:w.cell? ad=some (.int k v)) (p:w.frozen? ad=false) (d : ¬ v=old) :
 stepG P main (G fr cs) w = .go (G (fr.finish (.bool false)) cs) w #[⟨.cell ad,false,true⟩]:=by
 obtain⟨ops,i,rest,kk,o,as,q,r,t,A,B,C,D⟩:=cx c h;obtain⟨fn,E,F,H,I,J⟩:=j.ex;obtain⟨x,z,u,rfl,K,e,L⟩:=zi B;have:=stepG_cas_miss (P:=P) (main:=main) (b:=fr) (a:=⟨fr.tmps,fr.defers⟩) (kk:=kk) (cs:=cs) (w:=w) (rest:=rest) r t (by rw[c.kind];exact g) A E F H I k J (fV c K) (l _ (fV c e)) (hb _ (fV c L)) m p d
 rw[D,← C] at this;exact this
theorem m9 {k:IntKind} {ad:Addr} {a:SV} {v d:Int} (c:FR y s fr) (h:aM s=some (f,[.lit (.pointer (some ad)),a])) (g:s.kind ≠ .early) (j:Ext P f (Extern.Atomic.update (Op.intArith .add) k true))
 (l:∀ x,SR y a x->x = .int k d) (m:w.cell? ad=some (.int k v)) (n:w.frozen? ad=false) :
 stepG P main (G fr cs) w = .go (G (fr.finish (.int k (k.wrap (v+d)))) cs) (w.setCell ad (.int k (k.wrap (v+d)))) #[⟨.cell ad,false,true⟩,⟨.cell ad,true,true⟩]:=by
 obtain⟨ops,i,rest,kk,o,as,p,q,r,t,u,A,B⟩:=cx c h;obtain⟨fn,C,D,E,F,H⟩:=j.ex;obtain⟨x,z,rfl,I,e⟩:=Gq u;have:=stepG_add_atomic (P:=P) (main:=main) (b:=fr) (a:=⟨fr.tmps,fr.defers⟩) (kk:=kk) (cs:=cs) (w:=w) (rest:=rest) q r (by rw[c.kind];exact g) t C D E F k H (fV c I) (l _ (fV c e)) m n
 rw[B,← A] at this;exact this
theorem pH {ad:Addr} {l:List SV} {n:Int} (d:FR y s fr) (h:aM s=some (f,.lit (.pointer (some ad)) :: l)) (g:s.kind ≠ .early) (j:Ext P f Extern.Sync.semacquire) (k:w.cell? ad=some (.int .u32 n)) (m:n≠0) (p:w.frozen? ad=false) :
 stepG P main (G fr cs) w = .go (G (fr.finish (.tuple #[])) cs) (w.setCell ad (.int .u32 (n-1))) (semEvents ad):=by
 obtain⟨ops,i,rest,kk,o,as,q,r,t,u,v,z,A⟩:=cx d h;obtain⟨fn,B,C,D,E,F⟩:=j.ex;obtain⟨x,e,c⟩:=xV d v 0 _ rfl;have c:x = .pointer (some ad):=c;rw[c] at e;have:=stepG_semacquire (P:=P) (main:=main) (b:=fr) (a:=⟨fr.tmps,fr.defers⟩) (kk:=kk) (cs:=cs) (w:=w) (rest:=rest) r t (by rw[d.kind];exact g) u B C D E F e k m p
 rw[A,← z] at this;exact this
theorem wn {ad:Addr} {l:List SV} (d:FR y s fr) (h:aM s=some (f,.lit (.pointer (some ad)) :: l)) (g:Ext P f Extern.Sync.semacquire) (j:w.cell? ad=some (.int .u32 0)) :
 stepG P main (G fr cs) w = .go { G fr cs with status:=.blocked } w #[]:=by
 obtain⟨ops,i,rest,kk,o,as,k,m,n,p,q,r,B⟩:=cx d h;obtain⟨fn,t,u,v,z,A⟩:=g.ex;obtain⟨x,e,c⟩:=xV d q 0 _ rfl;have c:x = .pointer (some ad):=c;rw[c] at e;have:=stepG_semacquire_wait (P:=P) (main:=main) (b:=fr) (a:=⟨fr.tmps,fr.defers⟩) (kk:=kk) (cs:=cs) (w:=w) (rest:=rest) m n p t u v z A e j;rw[← r] at this;exact this
theorem me {ad:Addr} {l:List SV} {n:Int} (d:FR y s fr) (h:aM s=some (f,.lit (.pointer (some ad)) :: l)) (g:s.kind ≠ .early) (j:Ext P f Extern.Sync.semrelease) (k:w.cell? ad=some (.int .u32 n)) (m:w.frozen? ad=false) :
 stepG P main (G fr cs) w = .go (G (fr.finish (.tuple #[])) cs) (w.setCell ad (.int .u32 (IntKind.u32.wrap (n+1)))) (semEvents ad):=by
 obtain⟨ops,i,rest,kk,o,as,p,q,r,t,u,v,z⟩:=cx d h;obtain⟨fn,A,B,C,D,E⟩:=j.ex;obtain⟨x,e,c⟩:=xV d u 0 _ rfl;have c:x = .pointer (some ad):=c;rw[c] at e;have:=stepG_semrelease (P:=P) (main:=main) (b:=fr) (a:=⟨fr.tmps,fr.defers⟩) (kk:=kk) (cs:=cs) (w:=w) (rest:=rest) q r (by rw[d.kind];exact g) t A B C D E e k m
 rw[z,← v] at this;exact this
theorem wo (e:FR y s fr) (h:aM s=some (f,svs)) (g:s.kind ≠ .early) (j:Ext P f Extern.OsHooks.nano) (k:∃ fn,P.funcs[f]? = some fn∧fn.norace=true) :
 stepG P main (G fr cs) w = .go (G (fr.finish (.int .i64 ((w.os.mono+w.tick:Nat):Int))) cs) w.later #[]:=by
 obtain⟨ops,i,rest,kk,o,as,l,m,n,p,B,q,r⟩:=cx e h;obtain⟨fn,c,t,u,v,x⟩:=j.ex;obtain⟨d,z,A⟩:=k;obtain rfl:d=fn:=by rw[z] at c;exact Option.some.inj c
 have:=stepG_nanotime (P:=P) (main:=main) (b:=fr) (a:=⟨fr.tmps,fr.defers⟩) (kk:=kk) (cs:=cs) (w:=w) (rest:=rest) m n (by rw[e.kind];exact g) p c t u v x A
 rw[r,← q] at this;exact this
theorem DJ {n:Int} (d:FR y s fr) (h:aM s=some (f,[.lit (.int .i64 n)])) (j:s.kind ≠ .early) (B:Ext P f Extern.Sync.canSpin) :
 ∃ b w',stepG P main (G fr cs) w = .go (G (fr.finish (.bool b)) cs) w' #[]∧(b=true->n<4)∧(w'=w∨w'=w.asked):=by
 obtain⟨ops,i,rest,kk,o,as,C,l,m,p,g,q,r⟩:=cx d h;obtain⟨fn,t,u,v,z,A⟩:=B.ex;obtain⟨x,rfl,D⟩:=Gr g;have c:(⟨fr.tmps,fr.defers⟩:Act).eval x = .int .i64 n:=fV d D
 by_cases g:n<4
 . have:=stepG_canSpin_ask (P:=P) (main:=main) (b:=fr) (a:=⟨fr.tmps,fr.defers⟩) (kk:=kk) (cs:=cs) (w:=w) (rest:=rest) l m (by rw[d.kind];exact j) p t u v z A (n:=n) (k:=.i64) (by simp[c]) g
   rw[r,← q] at this;exact⟨_,_,this,fun _=>g,.inr rfl⟩
 . have:=stepG_canSpin_no (P:=P) (main:=main) (b:=fr) (a:=⟨fr.tmps,fr.defers⟩) (kk:=kk) (cs:=cs) (w:=w) (rest:=rest) l m (by rw[d.kind];exact j) p t u v z A (n:=n) (k:=.i64) (by simp[c]) (by omega)
   rw[r,← q] at this;exact⟨_,_,this,(fun e=>by cases e),.inl rfl⟩
theorem qK {v:Value} (c:FR y s fr) (h:aM s=some (f,svs)) (d:s.kind ≠ .early) (e:Ext P f (fun _=>pure v)):stepG P main (G fr cs) w = .go (G (fr.finish v) cs) w #[]:=by
 obtain⟨ops,i,rest,kk,o,as,g,j,k,l,x,m,n⟩:=cx c h;obtain⟨fn,p,q,r,t,u⟩:=e.ex;have:=stepG_entry (P:=P) (main:=main) (b:=fr) (a:=⟨fr.tmps,fr.defers⟩) (kk:=kk) (cs:=cs) (w:=w) (rest:=rest) (v:=v) (w':=w) (evs:=#[]) j k (by rw[c.kind];exact d) l p q r t u (by simp) (by simp) (by simp)
 rw[n,← m] at this;exact this
theorem Gs{α β:Type}{P:Program}{f:α->Sem β}(s:Sem α):∀{a:α},kQ P s=some a->∀w es,(s.bind f).runT P w es=(f a).runT P w es:=by
 induction s with
 |pure b=>intro a h w es;simp only[kQ,Option.some.injEq]at h;subst h;rfl
 |program g c=>intro a h w es;simp only[kQ]at h;exact c P h w es
 |_=>intro a h;simp[kQ]at h
theorem nM{t:Nat}{ad:Addr}{v:Value}(q:FR y s fr)(h:oa s=some (t,.lit (.pointer (some ad))))(C:kQ P (isAgg t)=some false)(D:∃fn,P.funcs[s.fn]?=some fn/\fn.norace=true)(E:w.cell? ad=some v):
 stepG P main (G fr cs) w=.go (G (fr.finish v) cs) w #[]:=by
 have f:=q;obtain⟨fn,tmps,todo,defs,mode,kind,ro⟩:=fr;obtain⟨r,i,F,g,H,u,I,J⟩:=q;simp only at r i F g H u I J;subst u;unfold oa at h;split at h
 . rename_i ops z rest A K j
   rw[K]at g;rw[j]at i;have g:mode=.run:=g;subst g;subst i;split at h
   . rename_i o L
     split at h
     . rename_i M
       split at h
       . rename_i a x k
         simp only[Option.some.injEq,Prod.mk.injEq]at h;obtain⟨rfl,N⟩:=h;have d:=f.sv x;rw[N]at d;have d:Frame.eval ⟨fn,tmps,.inRegion ops (z::rest)::A,defs,.run,kind,none⟩ x=.pointer (some ad):=d;obtain⟨O,l,p⟩:=D;subst r;rw[lC L (m8 f M)];have hex:execOp (Frame.eval ⟨s.fn,tmps,.inRegion ops (z::rest)::A,defs,.run,kind,none⟩) o=Sem.bind (Instr.loadAt a (.pointer (some ad))) (λv=>pure (Next.value v)):=by simp only[execOp,k,d];rfl
         have e:(Sem.bind (Instr.loadAt a (.pointer (some ad))) (λv=>(pure (Next.value v):Sem Next))).runT P w #[]=(.ok (.value v) w,#[⟨.cell ad,false,false⟩]):=by
          have Q:Instr.loadAt a (.pointer (some ad))=Sem.bind (isAgg a) (λb=>if b=true then Sem.bind (sizeOf a) (λn=>Sem.bind (loadCells ad n) (λc=>pure (.agg c)))else load ad):=rfl
          rw[Q]
          have R:Sem.bind (Sem.bind (isAgg a) (λb=>if b=true then Sem.bind (sizeOf a) (λn=>Sem.bind (loadCells ad n) (λc=>pure (.agg c)))else load ad)) (λv=>(pure (Next.value v):Sem Next))=
           Sem.bind (isAgg a) (λb=>Sem.bind (if b=true then Sem.bind (sizeOf a) (λn=>Sem.bind (loadCells ad n) (λc=>pure (.agg c)))else load ad) (λv=>(pure (Next.value v):Sem Next))):=bind_assoc (m:=Sem) _ _ _
          rw[R,Gs _ C];show(Sem.bind (load ad) (λv=>(pure (Next.value v):Sem Next))).runT P w #[]=_
          unfold load;show Sem.runT P (Sem.load .plain ad λv=>pure (Next.value v)) w #[]=_
          simp only[Sem.runT,E];rfl
         rw[hex]
         have S:seen P s.fn #[⟨.cell ad,false,false⟩]=#[]:=by rw[seen_def];simp[l,p,seenStep]
         simp only[stepG.apply,if_true,e,GStep.after]
         by_cases B:(kind==CallKind.early)=true
         . simp[B,fe,G]
         . simp[B,S,G]
       . cases h
     . cases h
   . cases h
 . cases h
def jn(s:iq):Option (TypeId × TypeId × SV):=
 match s.mode,s.todo with
 | .run,.inRegion ops (i::_)::_=>match ops[i]? with
   | some o=>match v9 ops s.env o with
     | some true=>match o.op with
       |.convert a b x=>some (a,b,sv s.env x)
       |_=>none
     |_=>none
   |none=>none
 |_,_=>none
theorem qL{a b t:TypeId}{ad:Addr}(l:FR y s fr)(h:jn s=some (a,b,.lit (.pointer (some ad))))(m:P.underlying a=some (.pointer t))(n:P.underlying b=some .unsafePointer)(p:(P.info? t).map (λi=>decide (i.size=0))=some false)(f:∃v,w.cell? ad=some v):
 stepG P main (G fr cs) w=.go (G (fr.finish (.pointer (some ad))) cs) w #[]:=by
 obtain⟨v,f⟩:=f;have d:=l;obtain⟨fn,tmps,todo,defs,mode,kind,ro⟩:=fr;obtain⟨z,g,A,e,B,q,C,D⟩:=l;simp only at z g A e B q C D;subst q;unfold jn at h;split at h
 . rename_i ops r rest u E j
   rw[E]at e;rw[j]at g;have e:mode=.run:=e;subst e;subst g;split at h
   . rename_i o F
     split at h
     . rename_i H
       split at h
       . rename_i I J x k
         simp only[Option.some.injEq,Prod.mk.injEq]at h;obtain⟨rfl,rfl,K⟩:=h;have c:=d.sv x;rw[K]at c;have c:Frame.eval ⟨fn,tmps,.inRegion ops (r::rest)::u,defs,.run,kind,none⟩ x=.pointer (some ad):=c;rw[lC F (m8 d H)];have hex:execOp (Frame.eval ⟨fn,tmps,.inRegion ops (r::rest)::u,defs,.run,kind,none⟩) o=(do pure (.value (<-convert I J (.pointer (some ad)))):Sem Next):=by simp only[execOp,k,c]
         have L:=run_convert_to_unsafe m n p f;have M:=events_convert_to_unsafe m n p f #[];rw[hex];simp[stepG.apply,L,M,GStep.after,fe,G,Result.andThen]
       . cases h
     . cases h
   . cases h
 . cases h
end
def cQ(P:Program)(f:FuncId)(args:List SV)(kind:CallKind):iq:=
 match P.funcs[f]? with
 |some fn=>⟨f,[.code (fn.body.getD .skip)],args++List.replicate (fn.ntmps-args.length) .bz,[],.run,kind⟩
 |none=>⟨f,[],args,[],.run,kind⟩
abbrev bT:=iq × List iq
def next(P:Program)(a:Fl)(c:bT)(v:SV):bT:=match tV c.1 v with|some s=>sgo P a 400 s c.2|none=>c
def pt(b o:Nat):SV:=.lit (.pointer (some ⟨b,o,none⟩))
def un:SV:=.lit (.tuple #[])
def tt:SV:=.lit (.bool true)
def ff:SV:=.lit (.bool false)
def CF(live:List Nat)(env:List SV):List SV:=(List.range env.length).zipWith (λi v=>if live.contains i then v else .bz) env
def keep(live:List Nat)(s:iq):iq:={s with env:=CF live s.env}
def Gt(env:List SV):List (Nat × SV)->List SV
 |[]=>env
 |(i,v)::l=>Gt (env.set i v) l
theorem FR.keep{y:Sy}{s:iq}{fr:Frame}(h:FR y s fr)(live:List Nat):FR y (keep live s) fr:=by
 refine⟨h.fn,h.todo,h.defers,h.mode,h.kind,h.ro,?_,λt=>?_⟩
 . rw[h.size]
   show s.env.length=(CF live s.env).length;rw[CF,List.length_zipWith,List.length_range,Nat.min_self]
 . have:=h.env t
   simp only[Go.bG.keep,CF];rw[List.getD_eq_getElem?_getD,List.getElem?_zipWith];by_cases a:t<s.env.length
   . rw[List.getElem?_range a,List.getElem?_eq_getElem a]
     simp only[Option.getD_some];split
     . rw[List.getD_eq_getElem?_getD,List.getElem?_eq_getElem a]at this
       exact this
     . trivial
   . rw[List.getElem?_eq_none (by rw[List.length_range];exact Nat.le_of_not_lt a)]
     trivial
def plain:SV->Bool
 |.bz=>true
 |.lit _=>true
 |_=>false
theorem FR.fg{y y':Sy}{s:iq}{fr:Frame}(h:FR y s fr)(a:s.env.all plain=true):FR y' s fr:=by
 refine⟨h.fn,h.todo,h.defers,h.mode,h.kind,h.ro,h.size,λt=>?_⟩;have b:=h.env t
 have c:plain (s.env.getD t .bz)=true:=by
  rw[List.getD_eq_getElem?_getD];cases q:s.env[t]? with
  |none=>rfl
  |some v=>exact List.all_eq_true.1 a v (List.mem_of_getElem? q)
 generalize s.env.getD t .bz=v at *;cases v<;>simp_all [plain,SR]
structure wp where
 lock:Nat
 unlock:Nat
 NM:Nat
 sM:Nat
 LH:Nat
 K0:Nat
 gY:Nat
 en:Nat
 acq:Nat
 rel:Nat
 jh:Nat
 add:Nat
 DK:Nat
 qM:Nat
 nano:Nat
 Bo:Nat
 mf:Nat
 tM:Nat
 tU:Nat
 tI:Nat
def Pv(c:bT):List Nat:=[c.1.fn,c.1.todo.length,(match c.1.todo with|.inRegion ops (i::_)::_=>i|_=>999),(match aM c.1 with|some (f,_)=>f|none=>match oa c.1 with|some (t,_)=>1000+t|none=>999)]++c.2.map (·.fn)
def jH:Fl:=⟨false,false,false,false,false,false⟩
def Gu(P:Program)(f:Fl):Nat->iq->List iq->bT
 |0,fr,st=>(fr,st)
 | n + 1,fr,st=>match ss P f fr st with
   | some (a,b)=>match a.todo with
     |.code _::.inLoop _::_=>(a,b)
     |_=>Gu P f n a b
   |none=>(fr,st)
def zk(live:List Nat)(c:bT):bT:=(keep live c.1,c.2.map (keep []))
def aF(P:Program)(a:Fl)(live:List Nat)(c:bT)(v:SV):Option bT:=(tV c.1 v).map λs=>zk live (sgo P a 400 s c.2)
def na(P:Program)(a:Fl)(live:List Nat)(c:bT)(v:SV):Option bT:=(tV c.1 v).map λs=>zk live (Gu P a 400 s c.2)
def NN(P:Program)(a:Fl)(live:List Nat)(c:bT):bT:=zk live (sgo P a 400 c.1 c.2)
def bl(x:Bool):SV:=.lit (.bool x)
def i64(n:Int):SV:=.lit (.int .i64 n)
def i32(n:Int):SV:=.lit (.int .i32 n)
def jk(n:Nat):List SV:=List.replicate n .bz
section
variable(P:Program)(n:wp)(b o:Nat)(kind:CallKind)
def wf:SV:=.word false false false 0
def wl:SV:=.word true false false 0
def Pw:bT:=zk [0] (sgo P jH 400 (cQ P n.lock [pt b o] kind) [])
def Gv:bT:=next P jH (Pw P n b o kind) un
def NO:bT:=next P jH (Gv P n b o kind) tt
def NP:bT:=next P jH (NO P n b o kind) un
def Px:bT:=next P jH (NP P n b o kind) (pt b o)
def Bp:bT:=next P jH (Gv P n b o kind) ff
def Ss:bT:=(na P jH [] (Bp P n b o kind) wf).getD (Bp P n b o kind)
def Py:bT:=next P jH (Bp P n b o kind) wl
def QC:bT:=next P jH (Py P n b o kind) tt
def QD:bT:=next P jH (QC P n b o kind) tt
def Pz:bT:=next P jH (QD P n b o kind) un
def LI:bT:=next P jH (Py P n b o kind) ff
def PA:bT:=next P jH (LI P n b o kind) ff
def NQ:bT:=next P jH (next P jH (Bp P n b o kind) wf) tt
def NR:bT:=next P jH (NQ P n b o kind) un
def PB:bT:=next P jH (NR P n b o kind) (pt b o)
def QE:bT:=next P jH (LI P n b o kind) tt
def QF:bT:=next P jH (QE P n b o kind) .DH
def QG:bT:=next P jH (QF P n b o kind) un
def QH:bT:=next P jH (QG P n b o kind) .now
def Su:bT:=next P jH (QH P n b o kind) (.word false false true 0)
def NS:List iq:=(Pw P n b o kind).2
def Ph:List iq:=(Bp P n b o kind).2.map (keep [])
def kw(a:List Item)(l:List (Nat × SV)):bT:=(⟨n.NM,a,Gt (jk 13) l,[],.run,.normal⟩,NS P n b o kind)
def bR(a:List Item)(l:List (Nat × SV)):bT:=(⟨n.LH,a,Gt (jk 139) l,[],.run,.normal⟩,Ph P n b o kind)
def LD:bT:=Pw P n b o kind
def qN:bT:=kw P n b o kind (Gv P n b o kind).1.todo [(0,pt b o),(5,pt b o)]
def K1:bT:=kw P n b o kind (NO P n b o kind).1.todo [(0,pt b o)]
def M4:bT:=kw P n b o kind (NP P n b o kind).1.todo [(8,pt b o)]
def K2:bT:=kw P n b o kind (Px P n b o kind).1.todo [(9,pt b o)]
def BK:bT:=(⟨n.lock,[],jk 6,[],.ret,kind⟩,[])
def K3(aw sv:Bool)(it:Int):List (Nat × SV):=[(0,pt b o),(2,.DH),(3,bl sv),(4,bl aw),(5,i64 it)]
def Pi:bT:=bR P n b o kind (Bp P n b o kind).1.todo [(0,pt b o),(2,i64 0),(3,ff),(4,ff),(5,i64 0),(12,pt b o)]
def LJ(aw sv:Bool)(it:Int):bT:=bR P n b o kind (Bp P n b o kind).1.todo (K3 b o aw sv it++[(12,pt b o)])
def CG(aw sv:Bool)(it:Int):bT:=bR P n b o kind (Pz P n b o kind).1.todo (K3 b o aw sv it++[(47,pt b o)])
def LL(aw sv:Bool)(it:Int):bT:=bR P n b o kind (PA P n b o kind).1.todo (K3 b o aw sv it++[(133,pt b o)])
def HD(L K S aw sv:Bool)(it:Int):bT:=bR P n b o kind (Ss P n b o kind).1.todo (K3 b o aw sv it++[(6,.word L K S 0)])
def SQ(K aw sv:Bool)(it:Int):bT:=bR P n b o kind (Py P n b o kind).1.todo (K3 b o aw sv it++[(6,.word true K false 0),(17,tt),(18,i64 it)])
def SW(it:Int):bT:=bR P n b o kind (QC P n b o kind).1.todo (K3 b o false false it++[(33,tt),(36,pt b o),(37,.word true false false 0),(39,.word true true false 0)])
def DS(aw sv:Bool)(it:Int):bT:=bR P n b o kind (QD P n b o kind).1.todo (K3 b o aw sv it)
def JA(L K S aw sv:Bool):SV:=.word (L||!S) (if aw then false else K) (S||(sv && L)) (if L||S then 1 else 0)
def zn(L K S aw sv:Bool)(it:Int):bT:=bR P n b o kind (LI P n b o kind).1.todo (K3 b o aw sv it++[(6,.word L K S 0),(77,pt b o),(78,.word L K S 0),(79,JA L K S aw sv)])
def T1(sv:Bool):bT:=bR P n b o kind (QE P n b o kind).1.todo [(0,pt b o),(3,bl sv)]
def PK(sv:Bool):bT:=bR P n b o kind (QF P n b o kind).1.todo [(0,pt b o),(2,.DH),(3,bl sv),(91,pt b (o+1))]
def TQ:bT:=bR P n b o kind (QG P n b o kind).1.todo [(0,pt b o),(2,.DH),(95,ff)]
def UP(sv:Bool):bT:=bR P n b o kind (QH P n b o kind).1.todo [(0,pt b o),(2,.DH),(3,bl sv),(103,pt b o)]
def AD(d:Int):bT:=bR P n b o kind (Su P n b o kind).1.todo [(0,pt b o),(128,pt b o),(129,i32 d)]
def Jb:bT:=bR P n b o kind (NQ P n b o kind).1.todo [(0,pt b o)]
def M5:bT:=bR P n b o kind (NR P n b o kind).1.todo [(136,pt b o)]
def K4:bT:=bR P n b o kind (PB P n b o kind).1.todo [(137,pt b o)]
def PC:bT:=zk [0,5] (sgo P jH 400 (cQ P n.unlock [pt b o] kind) [])
def NT:bT:=next P jH (PC P n b o kind) .bz
def QI:bT:=next P jH (NT P n b o kind) (pt b o)
def QJ:bT:=next P jH (QI P n b o kind) un
def CH:bT:=next P jH (QJ P n b o kind) un
def Sv:bT:=next P {jH with n0:=true} (CH P n b o kind) wf
def Pj:bT:=next P jH (CH P n b o kind) wf
def Sw:bT:=next P jH (CH P n b o kind) (.word false false true 0)
def Sx:bT:=next P jH (Pj P n b o kind) tt
def PD:bT:=next P jH (Pj P n b o kind) ff
def NU:List iq:=(PC P n b o kind).2
def PE:List iq:=(Pj P n b o kind).2.map (keep [])
def mJ(a:List Item)(l:List (Nat × SV)):bT:=(⟨n.sM,a,Gt (jk 21) l,[],.run,.normal⟩,NU P n b o kind)
def rO(a:List Item)(l:List (Nat × SV)):bT:=(⟨n.K0,a,Gt (jk 43) l,[],.run,.normal⟩,PE P n b o kind)
def U0:bT:=PC P n b o kind
def M6:bT:=mJ P n b o kind (NT P n b o kind).1.todo [(0,pt b o),(7,pt b o)]
def UR:bT:=mJ P n b o kind (QI P n b o kind).1.todo [(0,pt b o),(8,pt b o)]
def UD:bT:=mJ P n b o kind (QJ P n b o kind).1.todo [(0,pt b o)]
def oQ:bT:=mJ P n b o kind (CH P n b o kind).1.todo [(0,pt b o),(13,pt b o),(14,.bz)]
def UE:bT:=mJ P n b o kind (Sv P n b o kind).1.todo []
def UC:bT:=rO P n b o kind (Pj P n b o kind).1.todo [(0,pt b o),(27,pt b o),(28,wf),(29,.word false true false (-1))]
def G7:bT:=rO P n b o kind (Sx P n b o kind).1.todo [(33,pt b (o+1))]
def G9:bT:=rO P n b o kind (Sw P n b o kind).1.todo [(41,pt b (o+1))]
def Jc:bT:=rO P n b o kind (PD P n b o kind).1.todo [(0,pt b o),(37,pt b o)]
def NV:bT:=(⟨n.unlock,[],jk 6,[],.ret,kind⟩,[])
end
structure gu(P:Program)(n:wp):Prop where
 e1:∀(fl:Fl) b o kind,aF P fl [0,5] (LD P n b o kind) un=some (qN P n b o kind)
 e2:∀(fl:Fl) b o kind,aF P fl [0] (qN P n b o kind) tt=some (K1 P n b o kind)
 e3:∀(fl:Fl) b o kind,aF P fl [0,2,3,4,5,12] (qN P n b o kind) ff=some (Pi P n b o kind)
 e4:∀(fl:Fl) b o kind,aF P fl [8] (K1 P n b o kind) un=some (M4 P n b o kind)
 e5:∀(fl:Fl) b o kind,aF P fl [9] (M4 P n b o kind) (pt b o)=some (K2 P n b o kind)
 e6:∀(fl:Fl) b o kind,aF P fl [] (K2 P n b o kind) un=some (BK n kind)
 QK:∀(fl:Fl) b o kind L K S aw sv it,na P fl [0,2,3,4,5,6] (LJ P n b o kind aw sv it) (.word L K S 0)=some (HD P n b o kind L K S aw sv it)
 QL:∀(fl:Fl) b o kind L K S aw sv it,na P fl [0,2,3,4,5,6] (CG P n b o kind aw sv it) (.word L K S 0)=some (HD P n b o kind L K S aw sv it)
 QM:∀(fl:Fl) b o kind L K S aw sv it,na P fl [0,2,3,4,5,6] (LL P n b o kind aw sv it) (.word L K S 0)=some (HD P n b o kind L K S aw sv it)
 e8:∀(fl:Fl) b o kind K aw sv it,NN P fl [0,2,3,4,5,6,17,18] (HD P n b o kind true K false aw sv it)=SQ P n b o kind K aw sv it
 e9:∀(fl:Fl) b o kind L K S aw sv it,(L && !S)=false->(aw && !K)=false->NN P fl [0,2,3,4,5,6,77,78,79] (HD P n b o kind L K S aw sv it)=zn P n b o kind L K S aw sv it
 ir:∀(fl:Fl) b o kind it,aF P {fl with n0:=false} [0,2,3,4,5,33,36,37,39] (SQ P n b o kind false false false it) tt=some (SW P n b o kind it)
 NW:∀(fl:Fl) b o kind n0 K aw sv it,(!aw && !K && !n0)=false->aF P {fl with n0:=n0} [0,2,3,4,5] (SQ P n b o kind K aw sv it) tt=some (DS P n b o kind aw sv it)
 lU:∀(fl:Fl) b o kind K aw sv it,(aw && !K)=false->aF P fl [0,2,3,4,5,6,77,78,79] (SQ P n b o kind K aw sv it) ff=some (zn P n b o kind true K false aw sv it)
 rP:∀(fl:Fl) b o kind r it,aF P fl [0,2,3,4,5] (SW P n b o kind it) (bl r)=some (DS P n b o kind r false it)
 Bq:∀(fl:Fl) b o kind aw sv,aF P fl [0,2,3,4,5,47] (DS P n b o kind aw sv 0) un=some (CG P n b o kind aw sv 1)
 Br:∀(fl:Fl) b o kind aw sv,aF P fl [0,2,3,4,5,47] (DS P n b o kind aw sv 1) un=some (CG P n b o kind aw sv 2)
 NX:∀(fl:Fl) b o kind aw sv,aF P fl [0,2,3,4,5,47] (DS P n b o kind aw sv 2) un=some (CG P n b o kind aw sv 3)
 NY:∀(fl:Fl) b o kind aw sv,aF P fl [0,2,3,4,5,47] (DS P n b o kind aw sv 3) un=some (CG P n b o kind aw sv 4)
 QN:∀(fl:Fl) b o kind K aw sv it,aF P fl [0] (zn P n b o kind false K false aw sv it) tt=some (Jb P n b o kind)
 NZ:∀(fl:Fl) b o kind L K S aw sv it,(L||S)=true->aF P {fl with wz:=true} [0,3] (zn P n b o kind L K S aw sv it) tt=some (T1 P n b o kind sv)
 N1:∀(fl:Fl) b o kind L K S aw sv it,(L||S)=true->aF P {fl with wz:=false} [0,2,3,91] (zn P n b o kind L K S aw sv it) tt=some (PK P n b o kind sv)
 QO:∀(fl:Fl) b o kind L K S aw sv it,aF P fl [0,2,3,4,5,133] (zn P n b o kind L K S aw sv it) ff=some (LL P n b o kind aw sv it)
 QP:∀(fl:Fl) b o kind sv,aF P fl [0,2,3,91] (T1 P n b o kind sv) .DH=some (PK P n b o kind sv)
 N2:∀(fl:Fl) b o kind,aF P fl [0,2,3,103] (PK P n b o kind true) un=some (UP P n b o kind true)
 N3:∀(fl:Fl) b o kind,aF P fl [0,2,95] (PK P n b o kind false) un=some (TQ P n b o kind)
 M7:∀(fl:Fl) b o kind x,aF P {fl with tb:=x} [0,2,3,103] (TQ P n b o kind) .now=some (UP P n b o kind x)
 QQ:∀(fl:Fl) b o kind sv n1,aF P {fl with n0:=false,n1:=n1} [0,128,129] (UP P n b o kind sv) (.word false false true 0)=some (AD P n b o kind (if !sv||n1 then -11 else -7))
 QR:∀(fl:Fl) b o kind L K sv,na P fl [0,2,3,4,5,6] (UP P n b o kind sv) (.word L K false 0)=some (HD P n b o kind L K false true sv 0)
 QS:∀(fl:Fl) b o kind d,aF P fl [0] (AD P n b o kind d) .bz=some (Jb P n b o kind)
 QT:∀(fl:Fl) b o kind,aF P fl [136] (Jb P n b o kind) un=some (M5 P n b o kind)
 QU:∀(fl:Fl) b o kind,aF P fl [137] (M5 P n b o kind) (pt b o)=some (K4 P n b o kind)
 QV:∀(fl:Fl) b o kind,aF P fl [] (K4 P n b o kind) un=some (BK n kind)
 u1:∀(fl:Fl) b o kind,aF P fl [0,7] (U0 P n b o kind) .bz=some (M6 P n b o kind)
 u2:∀(fl:Fl) b o kind,aF P fl [0,8] (M6 P n b o kind) (pt b o)=some (UR P n b o kind)
 u3:∀(fl:Fl) b o kind,aF P fl [0] (UR P n b o kind) un=some (UD P n b o kind)
 u4:∀(fl:Fl) b o kind,aF P fl [0,13] (UD P n b o kind) un=some (oQ P n b o kind)
 u5:∀(fl:Fl) b o kind n0 K,(n0||K)=true->aF P {fl with n0:=n0} [] (oQ P n b o kind) (.word false K false 0)=some (UE P n b o kind)
 QW:∀(fl:Fl) b o kind n0 K,aF P {fl with n0:=n0} [41] (oQ P n b o kind) (.word false K true 0)=some (G9 P n b o kind)
 QX:∀(fl:Fl) b o kind,aF P {fl with n0:=false} [0,27,28,29] (oQ P n b o kind) (.word false false false 0)=some (UC P n b o kind)
 QY:∀(fl:Fl) b o kind,aF P fl [33] (UC P n b o kind) tt=some (G7 P n b o kind)
 QZ:∀(fl:Fl) b o kind,aF P fl [0,37] (UC P n b o kind) ff=some (Jc P n b o kind)
 u7:∀(fl:Fl) b o kind n0 L K S,(n0||L||K||S)=true->aF P {fl with n0:=n0} [] (Jc P n b o kind) (.word L K S 0)=some (UE P n b o kind)
 Q0:∀(fl:Fl) b o kind,aF P {fl with n0:=false} [0,27,28,29] (Jc P n b o kind) (.word false false false 0)=some (UC P n b o kind)
 u8:∀(fl:Fl) b o kind,aF P fl [] (G7 P n b o kind) un=some (UE P n b o kind)
 u9:∀(fl:Fl) b o kind,aF P fl [] (G9 P n b o kind) un=some (UE P n b o kind)
 Q1:∀(fl:Fl) b o kind,aF P fl [] (UE P n b o kind) un=some (NV n kind)
 o1:∀b o kind,aM (LD P n b o kind).1=some (n.gY,[])/\(LD P n b o kind).1.kind=.normal
 o2:∀b o kind,aM (qN P n b o kind).1=some (n.jh,[pt b o,i32 0,i32 1])
 o3:∀b o kind,aM (K1 P n b o kind).1=some (n.en,[])
 o4:∀b o kind,jn (M4 P n b o kind).1=some (n.tM,n.tU,pt b o)
 o5:∀b o kind,aM (K2 P n b o kind).1=some (n.acq,[pt b o])
 Q2:∀b o kind aw sv it,oa (LJ P n b o kind aw sv it).1=some (n.tI,pt b o)
 Q3:∀b o kind aw sv it,oa (CG P n b o kind aw sv it).1=some (n.tI,pt b o)
 Q4:∀b o kind aw sv it,oa (LL P n b o kind aw sv it).1=some (n.tI,pt b o)
 o7:∀b o kind K aw sv it,aM (SQ P n b o kind K aw sv it).1=some (n.DK,[i64 it])
 o8:∀b o kind it,aM (SW P n b o kind it).1=some (n.jh,[pt b o,.word true false false 0,.word true true false 0])
 o9:∀b o kind aw sv it,aM (DS P n b o kind aw sv it).1=some (n.qM,[])
 PF:∀b o kind L K S aw sv it,aM (zn P n b o kind L K S aw sv it).1=some (n.jh,[pt b o,.word L K S 0,JA L K S aw sv])
 Q5:∀b o kind sv,aM (T1 P n b o kind sv).1=some (n.nano,[])
 PG:∀b o kind sv,aM (PK P n b o kind sv).1=some (n.Bo,[pt b (o+1),.bz,i64 2])
 Q6:∀b o kind,aM (TQ P n b o kind).1=some (n.nano,[])
 Q7:∀b o kind sv,oa (UP P n b o kind sv).1=some (n.tI,pt b o)
 Q8:∀b o kind d,aM (AD P n b o kind d).1=some (n.add,[pt b o,i32 d])
 Q9:∀b o kind,aM (Jb P n b o kind).1=some (n.en,[])
 Q':∀b o kind,jn (M5 P n b o kind).1=some (n.tM,n.tU,pt b o)
 Ra:∀b o kind,aM (K4 P n b o kind).1=some (n.acq,[pt b o])
 PH:∀b o kind,oa (U0 P n b o kind).1=some (n.tI,pt b o)/\(U0 P n b o kind).1.kind=.normal/\(U0 P n b o kind).1.fn=n.sM
 Rb:∀b o kind,jn (M6 P n b o kind).1=some (n.tM,n.tU,pt b o)
 Rc:∀b o kind,aM (UR P n b o kind).1=some (n.rel,[pt b o])
 Rd:∀b o kind,aM (UD P n b o kind).1=some (n.gY,[])
 PI:∀b o kind,aM (oQ P n b o kind).1=some (n.add,[pt b o,i32 (-1)])
 PJ:∀b o kind,aM (UC P n b o kind).1=some (n.jh,[pt b o,wf,.word false true false (-1)])
 PL:∀b o kind,aM (G7 P n b o kind).1=some (n.mf,[pt b (o+1),ff,i64 2])
 PM:∀b o kind,aM (G9 P n b o kind).1=some (n.mf,[pt b (o+1),tt,i64 2])
 Re:∀b o kind,oa (Jc P n b o kind).1=some (n.tI,pt b o)
 Rf:∀b o kind,aM (UE P n b o kind).1=some (n.en,[])
 p1:∀b o kind,(NS P n b o kind).all (·.env.all plain)=true/\(LD P n b o kind).1.env.all plain=true/\(LD P n b o kind).2=NS P n b o kind
 p2:∀b o kind,(Ph P n b o kind).all (·.env.all plain)=true
 p3:∀b o kind,(NU P n b o kind).all (·.env.all plain)=true/\(U0 P n b o kind).1.env.all plain=true/\(U0 P n b o kind).2=NU P n b o kind
 p4:∀b o kind,(PE P n b o kind).all (·.env.all plain)=true
structure gx(P:Program)(n:wp):Prop where
 gY:Ext P n.gY (λ_=>do mark .disable;pure Extern.Race.none_)
 en:Ext P n.en (λ_=>do mark .enable;pure Extern.Race.none_)
 acq:Ext P n.acq (Extern.Race.marked .acquire)
 rel:Ext P n.rel (Extern.Race.marked .releaseMerge)
 jh:Ext P n.jh (Extern.Atomic.casT (.int .i32))
 add:Ext P n.add (Extern.Atomic.update (Op.intArith .add) .i32 true)
 DK:Ext P n.DK Extern.Sync.canSpin
 qM:Ext P n.qM (λ_=>pure (.tuple #[]))
 nano:Ext P n.nano Extern.OsHooks.nano
 Gw:∃fn,P.funcs[n.nano]?=some fn/\fn.norace=true
 Bo:Ext P n.Bo Extern.Sync.semacquire
 mf:Ext P n.mf Extern.Sync.semrelease
 N4:kQ P (isAgg n.tI)=some false
 Rg:∃t,P.underlying n.tM=some (.pointer t)/\P.underlying n.tU=some .unsafePointer/\(P.info? t).map (λi=>decide (i.size=0))=some false
 nS:∃fn,P.funcs[n.LH]?=some fn/\fn.norace=true
 nU:∃fn,P.funcs[n.sM]?=some fn/\fn.norace=true
 nV:∃fn,P.funcs[n.K0]?=some fn/\fn.norace=true
def Sy.ok(y:Sy):Prop:=(0<=y.N/\y.N<=1000)/\(0<=y.c/\y.c<=1000)
def Fl.of(y:Sy):Fl:=⟨decide (y.N=0),decide (y.N=1),decide (y.c=0),decide (y.c=1),decide (y.ws=0),decide (IntKind.i64.wrap (y.tn-y.ws)>1000000)⟩
theorem Fl.zo{y:Sy}(h:y.ok):(Fl.of y).At y:=⟨h.1,h.2,rfl,rfl,rfl,rfl,rfl,rfl⟩
def CI:SV->Bool|.word ..=>true|.cnt=>true|_=>false
def Gx:SV->Bool|.dm _=>true|.CE=>true|.DG=>true|_=>false
def Gy:SV->Bool|.DH=>true|.NI=>true|_=>false
def Gz:SV->Bool|.now=>true|.NI=>true|_=>false
theorem SR.re{y y':Sy}{v:SV}{x:Value}(h:SR y v x)(a:y.N=y'.N\/CI v=false)(b:y.c=y'.c\/Gx v=false)(d:y.ws=y'.ws\/Gy v=false)(e:y.tn=y'.tn\/Gz v=false):SR y' v x:=by cases v<;>simp_all [SR,CI,Gx,Gy,Gz]
theorem FR.re{y y':Sy}{s:iq}{fr:Frame}(h:FR y s fr)(a:y.N=y'.N\/s.env.all (λv=>!CI v)=true)(b:y.c=y'.c\/s.env.all (λv=>!Gx v)=true)
 (d:y.ws=y'.ws\/s.env.all (λv=>!Gy v)=true) (e:y.tn=y'.tn\/s.env.all (λv=>!Gz v)=true):FR y' s fr:=by
 have key:∀(u:SV->Bool) (t:Nat),u .bz=false->s.env.all (λv=>!u v)=true->u (s.env.getD t .bz)=false:=λu t f g=>by
  rw[List.getD_eq_getElem?_getD];cases q:s.env[t]? with
  |none=>exact f
  |some v=>have:=List.all_eq_true.1 g v (List.mem_of_getElem? q);simpa using this
 exact⟨h.fn,h.todo,h.defers,h.mode,h.kind,h.ro,h.size,λt=>(h.env t).re (a.imp id (key _ t rfl)) (b.imp id (key _ t rfl)) (d.imp id (key _ t rfl)) (e.imp id (key _ t rfl))⟩
theorem kg.fg{y y':Sy}:∀{l:List iq}{fs:List Frame},kg y l fs->l.all (·.env.all plain)=true->kg y' l fs
 |[],fs,h,_=>by rw[h.jw];trivial
 |s::l,fs,h,a=>by obtain⟨f,b,rfl,c,d⟩:=h.cons_inv;simp only[List.all_cons,Bool.and_eq_true]at a;exact⟨c.fg a.1,d.fg a.2⟩
theorem kg.keep{y:Sy}(live:List Nat):∀{l:List iq}{fs:List Frame},kg y l fs->kg y (l.map (Go.bG.keep live)) fs
 |[],fs,h=>by rw[h.jw];trivial
 |s::l,fs,h=>by obtain⟨f,a,rfl,b,c⟩:=h.cons_inv;exact⟨b.keep live,c.keep live⟩
theorem CJ{P:Program}{Wd:World->Prop}{f:Fl}{y:Sy}(i:f.At y):∀(n:Nat){s:iq}{st:List iq}{fr:Frame}{frs:List Frame},FR y s fr->kg y st frs ->
 ∃m b a,FR y (Gu P f n s st).1 b/\kg y (Gu P f n s st).2 a/\∀cs,iV P Wd m (G fr (frs++cs)) (G b (a++cs))
 |0,s,st,fr,frs,g,c=>⟨0,fr,frs,g,c,λ_=>rfl⟩
 | n + 1,s,st,fr,frs,g,c=>by
   unfold Gu;cases e:ss P f s st with
   |none=>exact⟨0,fr,frs,g,c,λ_=>rfl⟩
   | some p=>
     obtain⟨u,o⟩:=p;obtain⟨b,a,j,k,l⟩:=KZ i e g c;simp only;split
     . exact⟨1,b,a,j,k,λcs=>⟨_,l cs,rfl⟩⟩
     . obtain⟨m,h,d,q,r,t⟩:=CJ i n j k
       exact⟨m+1,h,d,q,r,λcs=>⟨_,l cs,t cs⟩⟩
section
variable{P:Program}{Wd:World->Prop}{y:Sy}{c c':bT}{live:List Nat}{v:SV}{x:Value}{fr:Frame}{frs:List Frame}
theorem K5(e:aF P (Fl.of y) live c v=some c')(f:y.ok)(g:FR y c.1 fr)(d:kg y c.2 frs)(h:SR y v x):
 ∃b a,FR y c'.1 b/\kg y c'.2 a/\∀cs,pG P Wd (G (fr.finish x) (frs++cs)) (G b (a++cs)):=by
 obtain⟨s,i,rfl⟩:=Option.map_eq_some_iff.1 e;obtain⟨m,b,a,j,k,l⟩:=jW (Wd:=Wd) (Fl.zo f) 400 (P:=P) (g.fin i h) d;exact⟨b,a,j.keep live,k.keep [],λcs=>⟨m,l cs⟩⟩
theorem N5(e:na P (Fl.of y) live c v=some c')(f:y.ok)(g:FR y c.1 fr)(d:kg y c.2 frs)(h:SR y v x):
 ∃b a,FR y c'.1 b/\kg y c'.2 a/\∀cs,pG P Wd (G (fr.finish x) (frs++cs)) (G b (a++cs)):=by
 obtain⟨s,i,rfl⟩:=Option.map_eq_some_iff.1 e;obtain⟨m,b,a,j,k,l⟩:=CJ (Wd:=Wd) (Fl.zo f) 400 (P:=P) (g.fin i h) d;exact⟨b,a,j.keep live,k.keep [],λcs=>⟨m,l cs⟩⟩
theorem N6(e:NN P (Fl.of y) live c=c')(f:y.ok)(g:FR y c.1 fr)(d:kg y c.2 frs):
 ∃b a,FR y c'.1 b/\kg y c'.2 a/\∀cs,pG P Wd (G fr (frs++cs)) (G b (a++cs)):=by
 subst e;obtain⟨m,b,a,h,i,j⟩:=jW (Wd:=Wd) (Fl.zo f) 400 (P:=P) g d;exact⟨b,a,h.keep live,i.keep [],λcs=>⟨m,j cs⟩⟩
end
open Mu in
inductive pI where
 |ld|fF|rd (l:Lo)|sq (old:Wd) (l:Lo)|sw (old:Wd) (l:Lo)|jh (old:Wd) (l:Lo)|t1 (sv:Bool)|eY (sv:Bool)|tq|up (sv:Bool)|add (old:Wd) (sv:Bool)|le|la|back
 |CK|ur|ud|held|gJ (old:Wd)|sB|give|ue|zp
section
variable(P:Program)(n:wp)(b o:Nat)(kind:CallKind)
def Bk(p:pI)(c:bT)(y:Sy):Prop:=
 match p with
 |.ld=>c=LD P n b o kind
 |.fF=>c=qN P n b o kind
 |.rd l=>c=LJ P n b o kind l.aw l.sv l.it\/c=CG P n b o kind l.aw l.sv l.it\/c=LL P n b o kind l.aw l.sv l.it
 |.sq old l=>c=SQ P n b o kind old.K l.aw l.sv l.it/\y.N=old.N/\old.L=true/\old.S=false
 |.sw old l=>c=SW P n b o kind l.it/\y.N=old.N/\l.aw=false/\l.sv=false/\old.L=true/\old.K=false/\old.S=false
 |.jh old l=>c=zn P n b o kind old.L old.K old.S l.aw l.sv l.it/\y.N=old.N
 |.t1 sv=>c=T1 P n b o kind sv
 |.eY sv=>c=PK P n b o kind sv
 |.tq=>c=TQ P n b o kind
 |.up sv=>c=UP P n b o kind sv
 |.add old sv=>c=AD P n b o kind (if !sv||decide (old.N=1)then -11 else -7)
 |.le=>c=K1 P n b o kind\/c=Jb P n b o kind
 |.la=>c=K2 P n b o kind\/c=K4 P n b o kind
 |.back=>c=BK n kind
 |.CK=>c=U0 P n b o kind
 |.ur=>c=UR P n b o kind
 |.ud=>c=UD P n b o kind
 |.held=>c=oQ P n b o kind
 |.gJ old=>c=UC P n b o kind/\y.N=old.N/\old.L=false/\old.K=false/\old.S=false/\old.N≠0
 |.sB=>c=Jc P n b o kind
 |.give=>c=G7 P n b o kind\/c=G9 P n b o kind
 |.ue=>c=UE P n b o kind
 |.zp=>c=NV n kind
def lV(p:pI)(cs:List Frame)(g:Goroutine):Prop:=∃c y fr frs,Bk P n b o kind p c y/\y.ok/\FR y c.1 fr/\kg y c.2 frs/\g=G fr (frs++cs)
end
theorem lV.running{P:Program}{n:wp}{b o:Nat}{kind:CallKind}{p:pI}{cs:List Frame}{g:Goroutine}(h:lV P n b o kind p cs g):g.status=.running/\g.offers=none:=by obtain⟨c,y,fr,frs,_,_,_,_,rfl⟩:=h;exact⟨rfl,rfl⟩
structure ShM(b o:Nat)(w:World)(s:Mu.Sh):Prop where
 cw:w.cell? ⟨b,o,none⟩=some (.int .i32 (enc s.w.L s.w.K s.w.S s.w.N))
 cs:w.cell? ⟨b,o+1,none⟩=some (.int .u32 s.ms)
 fz:∀i,w.frozen? ⟨b,i,none⟩=false
def MW(b o:Nat)(w w':World):Prop:=(ko w.os w'.os/\w'.output=w.output)/\(w'.heap=w.heap\/∃i v,(i=o\/i=o+1)/\flat v=true/\w'.heap=(w.setCell ⟨b,i,none⟩ v).heap)
def EvM(b o:Nat)(es:Array Event):Prop:=∀e∈es,(e.loc=.mark .disable\/e.loc=.mark .enable)\/(∃i,(i=o\/i=o+1)/\e.loc=.cell ⟨b,i,none⟩/\e.sync=true)
theorem nN{w w':World}(h:w'.heap=w.heap)(a:Addr):w'.cell? a=w.cell? a/\w'.frozen? a=w.frozen? a:=by simp[World.cell?,World.frozen?,h]
theorem ShM.heap{b o:Nat}{w w':World}{s:Mu.Sh}(h:ShM b o w s)(e:w'.heap=w.heap):ShM b o w' s:=⟨by rw[(nN e _).1];exact h.cw,by rw[(nN e _).1];exact h.cs,λi=>by rw[(nN e _).2];exact h.fz i⟩
theorem iK{w:World}{b i:Nat}{u v:Value}(h:w.cell? ⟨b,i,none⟩=some u):(w.setCell ⟨b,i,none⟩ v).cell? ⟨b,i,none⟩=some v:=by
 unfold World.cell? at h ⊢;unfold World.setCell;simp only[Array.getElem?_modify,if_true];cases e:w.heap[b]? with
 |none=>simp[e]at h
 | some d=>
   rw[e]at h;cases d<;>simp at h ⊢;rename_i c _ _;by_cases a:i<c.size
   . simp[a]
   . simp[a]at h
theorem mg{w:World}{a:Addr}{v:Value}{b i:Nat}:(w.setCell a v).frozen? ⟨b,i,none⟩=w.frozen? ⟨b,i,none⟩:=by
 unfold World.frozen? World.setCell;simp only[Array.getElem?_modify];by_cases h:a.block=b
 . simp only[h,if_true]
   cases e:w.heap[b]? with
   |none=>rfl
   |some c=>cases c<;>simp
 . simp only[h,if_false]
theorem ShM.aD{b o:Nat}{w:World}{s:Mu.Sh}(h:ShM b o w s)(w':Mu.Wd):ShM b o (w.setCell ⟨b,o,none⟩ (.int .i32 (enc w'.L w'.K w'.S w'.N))) {s with w:=w'}:=⟨iK h.cw,by rw[dt (by simp)];exact h.cs,λi=>by rw[mg];exact h.fz i⟩
theorem ShM.Bs{b o:Nat}{w:World}{s:Mu.Sh}(h:ShM b o w s)(m:Nat):ShM b o (w.setCell ⟨b,o+1,none⟩ (.int .u32 m)) {s with ms:=m}:=⟨by rw[dt (by simp)];exact h.cw,iK h.cs,λi=>by rw[mg];exact h.fz i⟩
theorem eh{b o:Nat}:EvM b o #[]:=λe h=>by simp at h
theorem CN{b o i:Nat}(a:i=o\/i=o+1):EvM b o #[⟨.cell ⟨b,i,none⟩,false,true⟩]:=λe h=>by simp at h;subst h;exact .inr ⟨i,a,rfl,rfl⟩
theorem jo{b o i:Nat}(a:i=o\/i=o+1):EvM b o #[⟨.cell ⟨b,i,none⟩,false,true⟩,⟨.cell ⟨b,i,none⟩,true,true⟩]:=λe h=>by simp at h;rcases h with rfl|rfl<;>exact .inr ⟨i,a,rfl,rfl⟩
theorem sN{b o:Nat}:EvM b o (semEvents ⟨b,o+1,none⟩):=λe h=>by
 simp[semEvents]at h;rcases h with rfl|rfl|rfl|rfl
 . exact .inl (.inl rfl)
 . exact .inr ⟨o+1,.inr rfl,rfl,rfl⟩
 . exact .inr ⟨o+1,.inr rfl,rfl,rfl⟩
 . exact .inl (.inr rfl)
section
variable{P:Program}{n:wp}(C:gu P n)(X:gx P n){b o:Nat}{kind:CallKind}{Wd:World->Prop}{cs:List Frame}{g:Goroutine}{w:World}{main:Bool}
variable(hWd:∀w,Wd w->∃v,w.cell? ⟨b,o,none⟩=some v)
def Next(P:Program)(n:wp)(b o:Nat)(kind:CallKind)(Wd:World->Prop)(cs:List Frame)(p:pI)(a:Goroutine):Prop:=a.status=.running/\∃c,pG P Wd a c/\lV P n b o kind p cs c
theorem nxt{y:Sy}{c c':bT}{live:List Nat}{v:SV}{x:Value}{fr:Frame}{frs:List Frame}{p:pI}(g:aF P (Fl.of y) live c v=some c')(f:y.ok)(h:FR y c.1 fr)(d:kg y c.2 frs)(i:SR y v x)(j:Bk P n b o kind p c' y):
 Next P n b o kind Wd cs p (G (fr.finish x) (frs++cs)):=by
 obtain⟨e,a,k,l,m⟩:=K5 (Wd:=Wd) g f h d i;exact⟨rfl,_,m cs,c',y,e,a,j,f,k,l,rfl⟩
def y0:Sy:=⟨2,2,1,0⟩
theorem pJ:y0.ok:=by unfold Sy.ok y0;decide
theorem Bt(h:∃fn body,P.funcs[n.lock]?=some fn/\fn.body=some body/\fn.ntmps=6):∃e,pG P Wd (G (Frame.enter P n.lock #[.pointer (some ⟨b,o,none⟩)] kind) cs) e/\lV P n b o kind .ld cs e:=by
 obtain⟨fn,body,a,i,g⟩:=h
 have j:FR y0 (cQ P n.lock [pt b o] kind) (Frame.enter P n.lock #[.pointer (some ⟨b,o,none⟩)] kind):=by
  refine⟨by simp[cQ,a,Frame.enter],by simp[cQ,a,i,Frame.enter],by simp[cQ,a,Frame.enter],by simp[cQ,a,Frame.enter,y7.of],by simp[cQ,a,Frame.enter],rfl,by simp[cQ,a,g,Frame.enter],λt=>?_⟩
  simp only[cQ,a,Frame.enter,g,Option.map_some,Option.getD_some]
  match t with
  |0=>rfl
  |1|2|3|4|5=>trivial
  | t+6=>
    have:([pt b o]++List.replicate (6 - [pt b o].length) SV.bz).getD (t+6) .bz=.bz:=by rw[List.getD_eq_getElem?_getD,List.getElem?_eq_none (by simp[pt])];rfl
    rw[this];trivial
 obtain⟨m,d,c,k,l,p⟩:=jW (Wd:=Wd) (P:=P) (f:=jH) (y:=y0) ⟨by decide,by decide,rfl,rfl,rfl,rfl,rfl,by decide⟩ 400 j (st:=[]) (frs:=[]) trivial
 have q:=p cs;exact⟨_,⟨m,q⟩,_,y0,d,c,rfl,pJ,k.keep [0],l.keep [],rfl⟩
theorem GA:∀g:FuncId,Mark.disable≠.extern g:=λg h=>by cases h
theorem GB:∀g:FuncId,Mark.enable≠.extern g:=λg h=>by cases h
include C X in
theorem xW(h:lV P n b o kind .ld cs g):∃d,stepG P main g w=.go d w #[⟨.mark .disable,false,true⟩]/\Next P n b o kind Wd cs .fF d:=by obtain⟨c,y,fr,frs,rfl,f,e,a,rfl⟩:=h;exact⟨_,dG GA e (C.o1 b o kind).1 (by rw[show(LD P n b o kind).1.kind=_ from(C.o1 b o kind).2];decide) X.gY,nxt (C.e1 _ b o kind) f e a rfl rfl⟩
include C X in
theorem CO(h:lV P n b o kind .ud cs g):∃d,stepG P main g w=.go d w #[⟨.mark .disable,false,true⟩]/\Next P n b o kind Wd cs .held d:=by obtain⟨c,y,fr,frs,rfl,f,e,a,rfl⟩:=h;exact⟨_,dG GA e (C.Rd b o kind) (by simp[UD,mJ]) X.gY,nxt (C.u4 _ b o kind) f e a rfl rfl⟩
include C X in
theorem CP(h:lV P n b o kind .ue cs g):∃d,stepG P main g w=.go d w #[⟨.mark .enable,false,true⟩]/\Next P n b o kind Wd cs .zp d:=by obtain⟨c,y,fr,frs,rfl,f,e,a,rfl⟩:=h;exact⟨_,dG GB e (C.Rf b o kind) (by simp[UE,mJ]) X.en,nxt (C.Q1 _ b o kind) f e a rfl rfl⟩
include C X in
theorem CQ(h:lV P n b o kind .ur cs g):∃d,stepG P main g w=.go d w #[⟨.mark (.releaseMerge ⟨b,o,none⟩),false,true⟩]/\Next P n b o kind Wd cs .ud d:=by obtain⟨c,y,fr,frs,rfl,f,e,a,rfl⟩:=h;exact⟨_,dU (λi g h=>by cases h) e (C.Rc b o kind) (by simp[UR,mJ]) X.rel,nxt (C.u3 _ b o kind) f e a rfl rfl⟩
include C X in
theorem CR(h:lV P n b o kind .la cs g):∃e,stepG P main g w=.go e w #[⟨.mark (.acquire ⟨b,o,none⟩),false,true⟩]/\Next P n b o kind Wd cs .back e:=by
 obtain⟨c,y,fr,frs,i,f,d,a,rfl⟩:=h;rcases i with rfl|rfl
 . exact⟨_,dU (λj g h=>by cases h) d (C.o5 b o kind) (by simp[K2,kw]) X.acq,nxt (C.e6 _ b o kind) f d a rfl rfl⟩
 . exact⟨_,dU (λj g h=>by cases h) d (C.Ra b o kind) (by simp[K4,bR]) X.acq,nxt (C.QV _ b o kind) f d a rfl rfl⟩
include X hWd in
theorem through{y:Sy}{c c':bT}{live:List Nat}{fr:Frame}{frs:List Frame}{p:pI}(f:jn c.1=some (n.tM,n.tU,pt b o))(g:aF P (Fl.of y) live c (pt b o)=some c')(h:y.ok)(e:FR y c.1 fr)(d:kg y c.2 frs)(i:Bk P n b o kind p c' y):
 ∃a,pG P Wd (G fr (frs++cs)) a/\lV P n b o kind p cs a:=by
 obtain⟨t,j,k,l⟩:=X.Rg;obtain⟨_,a,m,q⟩:=nxt (P:=P) (n:=n) (b:=b) (o:=o) (kind:=kind) (Wd:=Wd) (cs:=cs) (x:=.pointer (some ⟨b,o,none⟩)) g h e d rfl i;refine⟨a,pG.trans (oP.wg ⟨rfl,λmain w r=>?_⟩) m,q⟩;exact qL e f j k l (hWd w r)
include C X hWd in
theorem CS(h:lV P n b o kind .le cs g):∃s,stepG P main g w=.go s w #[⟨.mark .enable,false,true⟩]/\Next P n b o kind Wd cs .la s:=by
 obtain⟨c,y,fr,frs,t,e,f,a,rfl⟩:=h;rcases t with rfl|rfl
 . refine⟨_,dG GB f (C.o3 b o kind) (by simp[K1,kw]) X.en,rfl,?_⟩
   obtain⟨i,d,j,k,l⟩:=K5 (Wd:=Wd) (x:=.tuple #[]) (C.e4 _ b o kind) e f a rfl;obtain⟨m,q,r⟩:=through X hWd (cs:=cs) (p:=.la) (C.o4 b o kind) (C.e5 _ b o kind) e j k (.inl rfl);exact⟨m,(l cs).trans q,r⟩
 . refine⟨_,dG GB f (C.Q9 b o kind) (by simp[Jb,bR]) X.en,rfl,?_⟩
   obtain⟨i,d,j,k,l⟩:=K5 (Wd:=Wd) (x:=.tuple #[]) (C.QT _ b o kind) e f a rfl;obtain⟨m,q,r⟩:=through X hWd (cs:=cs) (p:=.la) (C.Q' b o kind) (C.QU _ b o kind) e j k (.inr rfl);exact⟨m,(l cs).trans q,r⟩
include C X hWd in
theorem tZ{v:Value}(j:w.cell? ⟨b,o,none⟩=some v)(h:lV P n b o kind .CK cs g):∃d,stepG P main g w=.go d w #[]/\Next P n b o kind Wd cs .ur d:=by
 obtain⟨c,y,fr,frs,rfl,e,f,a,rfl⟩:=h;refine⟨_,nM f (C.PH b o kind).1 X.N4 (by rw[show(U0 P n b o kind).1.fn=_ from(C.PH b o kind).2.2];exact X.nU) j,rfl,?_⟩;obtain⟨k,i,l,m,q⟩:=K5 (Wd:=Wd) (x:=v) (C.u1 _ b o kind) e f a trivial;obtain⟨r,s,t⟩:=through X hWd (cs:=cs) (p:=.ur) (C.Rb b o kind) (C.u2 _ b o kind) e l m rfl;exact⟨r,(q cs).trans s,t⟩
include C X in
theorem JB{sv:Bool}(h:lV P n b o kind (.t1 sv) cs g):∃f,stepG P main g w=.go f w.later #[]/\Next P n b o kind Wd cs (.eY sv) f:=by
 obtain⟨c,y,fr,frs,rfl,j,i,d,rfl⟩:=h;refine⟨_,wo i (C.Q5 b o kind sv) (by simp[T1,bR]) X.nano X.Gw,?_⟩;have e:=i.re (y':={y with ws:=((w.os.mono+w.tick:Nat):Int)}) (.inl rfl) (.inl rfl) (.inr (by cases sv<;>rfl)) (.inl rfl);have a:=d.fg (y':={y with ws:=((w.os.mono+w.tick:Nat):Int)}) (by simpa[T1,bR]using C.p2 b o kind);exact nxt (y:={y with ws:=((w.os.mono+w.tick:Nat):Int)}) (x:=.int .i64 ((w.os.mono+w.tick:Nat):Int)) (C.QP _ b o kind sv) j e a rfl rfl
end
inductive To:Mu.Pc->pI->Prop
 |out:To .out .ue
 |rd (l:Mu.Lo):To (.rd l) (.rd l)
 |sq (old:Mu.Wd) (l:Mu.Lo):To (.sq old l) (.sq old l)
 |sw (old:Mu.Wd) (l:Mu.Lo):To (.sw old l) (.sw old l)
 |jh (old:Mu.Wd) (l:Mu.Lo):To (.jh old l) (.jh old l)
 |t1 (sv:Bool):To (.eY sv) (.t1 sv)
 |eY (sv:Bool):To (.eY sv) (.eY sv)
 |tq:To .tq .tq
 |up (sv:Bool):To (.up sv) (.up sv)
 |add (old:Mu.Wd) (sv:Bool):To (.add old sv) (.add old sv)
 |held:To .held .le
 |gJ (old:Mu.Wd):To (.gJ old) (.gJ old)
 |sB:To .sB .sB
 |give:To .give .give
def jY(P:Program)(n:wp)(b o:Nat)(kind:CallKind)(Wd:World->Prop)(cs:List Frame)(g:Goroutine)(w:World)(main:Bool)(pc:Mu.Pc)(s:Mu.Sh):Prop:=∃c a es q e f,stepG P main g w=.go c a es/\(q,e)∈Mu.mv pc s/\To q f/\Next P n b o kind Wd cs f c/\MW b o w a/\ShM b o a e/\EvM b o es/\∀d,deafBehind d es=d
theorem aP{b o:Nat}{w w':World}(h:w'.heap=w.heap)(a:ko w.os w'.os/\w'.output=w.output:=by exact⟨ko.refl _,rfl⟩):MW b o w w':=⟨a,.inl h⟩
theorem sE{b o:Nat}{w:World}{v:Value}(h:flat v=true):MW b o w (w.setCell ⟨b,o,none⟩ v):=⟨⟨.refl _,rfl⟩,.inr ⟨o,v,.inl rfl,h,rfl⟩⟩
theorem JC{b o:Nat}{w:World}{v:Value}(h:flat v=true):MW b o w (w.setCell ⟨b,o+1,none⟩ v):=⟨⟨.refl _,rfl⟩,.inr ⟨o+1,v,.inr rfl,h,rfl⟩⟩
theorem CT{L K S a b c:Bool}{N d:Nat}:enc L K S N=enc a b c d↔(L=a/\K=b/\S=c/\N=d):=by
 unfold enc;constructor
 . intro h
   cases L<;>cases K<;>cases S<;>cases a<;>cases b<;>cases c<;>simp[Bool.toNat]at h ⊢<;>omega
 . rintro⟨rfl,rfl,rfl,rfl⟩;rfl
section
variable{P:Program}{n:wp}(C:gu P n)(X:gx P n){b o:Nat}{kind:CallKind}{Wd:World->Prop}{cs:List Frame}{g:Goroutine}{w:World}{main:Bool}{s:Mu.Sh}
theorem CU{w:Mu.Wd}:w=Mu.Wd.zero↔(enc w.L w.K w.S w.N=0):=by
 obtain⟨L,K,S,N⟩:=w;rw[tT (by simp)];simp[Mu.Wd.zero]
include C X in
theorem DL(d:ShM b o w s)(h:lV P n b o kind .fF cs g):jY P n b o kind Wd cs g w main .fF s:=by
 obtain⟨c,y,fr,frs,rfl,l,j,f,rfl⟩:=h;have q:(qN P n b o kind).1.kind≠.early:=by simp[qN,kw]
 by_cases k:s.w=Mu.Wd.zero
 . have m:enc s.w.L s.w.K s.w.S s.w.N=0:=CU.1 k
   have r:=d.cw;rw[m]at r;refine⟨_,_,_,.held,{s with w:={Mu.Wd.zero with L:=true}},.le,fu j (C.o2 b o kind) q X.jh (v:=0) (n:=1) (λx h=>h) (λx h=>h) r (d.fz o),by simp[Mu.mv,k],.held,nxt (C.e2 _ b o kind) l j f rfl (.inl rfl),sE rfl,?_,jo (.inl rfl),λ_=>rfl⟩;have:=d.aD {Mu.Wd.zero with L:=true};exact this
 . have m:¬enc s.w.L s.w.K s.w.S s.w.N=0:=λe=>k (CU.2 e)
   refine⟨_,_,_,.rd ⟨false,false,0⟩,s,.rd ⟨false,false,0⟩,fN j (C.o2 b o kind) q X.jh (old:=0) (n:=1) (λx h=>h) (λx h=>h) d.cw (d.fz o) m,by simp[Mu.mv,k],.rd _,⟨rfl,?_⟩,aP rfl,d,CN (.inl rfl),λ_=>rfl⟩;obtain⟨p,i,A,B,D⟩:=K5 (Wd:=Wd) (x:=.bool false) (C.e3 _ b o kind) l j f rfl;refine⟨_,D cs,LJ P n b o kind false false 0,{y with ws:=0},p,i,.inl rfl,l,?_,?_,rfl⟩
   . have a:=A.re (y':={y with ws:=0}) (.inl rfl) (.inl rfl) (.inr rfl) (.inl rfl)
     refine⟨a.fn,a.todo,a.defers,a.mode,a.kind,a.ro,a.size.trans rfl,λt=>?_⟩;have u:=a.env t;by_cases z:t=2
     . subst z;exact u
     . have e:(LJ P n b o kind false false 0).1.env=(Pi P n b o kind).1.env.set 2 .DH:=rfl
       rw[e,List.getD_eq_getElem?_getD,List.getElem?_set_ne (Ne.symm z),<-List.getD_eq_getElem?_getD];exact u
   . exact B.fg (by simpa[Pi,bR]using C.p2 b o kind)
theorem nO{y:Sy}{L K S:Bool}{N:Nat}(h:y.N=N):SR y (.word L K S 0) (.int .i32 (enc L K S N)):=by
 refine⟨?_,?_,by decide⟩
 . rw[h,Int.add_zero]
 . rw[h];simp
theorem CV{y:Sy}{x:Bool}(h:decide (y.N=0)=x):{Fl.of y with n0:=x}=Fl.of y:=by subst h;rfl
theorem LM{y:Sy}{x z:Bool}(h:decide (y.N=0)=x)(a:decide (y.N=1)=z):{Fl.of y with n0:=x,n1:=z}=Fl.of y:=by subst h;subst a;rfl
theorem K6{y:Sy}{x:Bool}(h:decide (y.ws=0)=x):{Fl.of y with wz:=x}=Fl.of y:=by subst h;rfl
theorem N7{y:Sy}{x:Bool}(h:decide (IntKind.i64.wrap (y.tn-y.ws)>1000000)=x):{Fl.of y with tb:=x}=Fl.of y:=by subst h;rfl
def M8(old:Mu.Wd)(l:Mu.Lo):pI:=if old.L && !old.S then .sq old l else .jh old l
theorem K7(old:Mu.Wd)(l:Mu.Lo):To (Mu.nx old l) (M8 old l):=by
 unfold Mu.nx M8;split
 . exact .sq _ _
 . exact .jh _ _
include C in
theorem CW{y:Sy}{old:Mu.Wd}{l:Mu.Lo}{fr:Frame}{frs:List Frame}(e:y.ok)(m:y.N=old.N)(p:FR y (HD P n b o kind old.L old.K old.S l.aw l.sv l.it).1 fr)(d:kg y (HD P n b o kind old.L old.K old.S l.aw l.sv l.it).2 frs)(f:Mu.loc (Mu.nx old l)):
 ∃q,pG P Wd (G fr (frs++cs)) q/\lV P n b o kind (M8 old l) cs q:=by
 obtain⟨L,K,S,N⟩:=old;obtain⟨aw,sv,it⟩:=l;unfold M8;unfold Mu.nx at f;by_cases h:(L && !S)=true
 . simp only[h,if_true]at f ⊢
   simp only[Bool.and_eq_true,Bool.not_eq_true']at h;obtain⟨rfl,rfl⟩:=h;obtain⟨c,a,g,i,j⟩:=N6 (Wd:=Wd) (C.e8 (Fl.of y) b o kind K aw sv it) e p d;exact⟨_,j cs,_,y,c,a,⟨rfl,m,rfl,rfl⟩,e,g,i,rfl⟩
 . have r:(L && !S)=false:=by simpa using h
   rw[if_neg h]at f ⊢
   have k:(aw && !K)=false:=by
    cases aw with
    |false=>rfl
    |true=>have:=f.1 rfl;simp at this;simp[this]
   obtain⟨c,a,g,i,j⟩:=N6 (Wd:=Wd) (C.e9 (Fl.of y) b o kind L K S aw sv it r k) e p d;exact⟨_,j cs,_,y,c,a,⟨rfl,m⟩,e,g,i,rfl⟩
include C X in
theorem JD{l:Mu.Lo}(i:ShM b o w s)(hb:s.w.N<=1000)(m:Mu.loc (Mu.nx s.w l))(h:lV P n b o kind (.rd l) cs g):jY P n b o kind Wd cs g w main (.rd l) s:=by
 obtain⟨c,y,fr,frs,p,q,j,e,rfl⟩:=h;have a:({y with N:=(s.w.N:Int)}:Sy).ok:=⟨⟨by simp,by show(s.w.N:Int)<=1000;omega⟩,q.2⟩
 have key:oa c.1=some (n.tI,pt b o)->c.1.fn=n.LH->(c.1.env.all (λv=>!CI v)=true)->c.2=Ph P n b o kind->na P (Fl.of {y with N:=(s.w.N:Int)}) [0,2,3,4,5,6] c (.word s.w.L s.w.K s.w.S 0)=some (HD P n b o kind s.w.L s.w.K s.w.S l.aw l.sv l.it) ->
  jY P n b o kind Wd cs (G fr (frs++cs)) w main (.rd l) s:=λr t u x z=>by
  have f:=j.re (y':={y with N:=(s.w.N:Int)}) (.inr u) (.inl rfl) (.inl rfl) (.inl rfl);have d:=e.fg (y':={y with N:=(s.w.N:Int)}) (by rw[x];exact C.p2 b o kind);obtain⟨A,k,B,D,E⟩:=N5 (Wd:=Wd) z a f d (nO rfl);obtain⟨F,H,I⟩:=CW C (Wd:=Wd) (cs:=cs) (old:=s.w) (l:=l) a rfl B D m;exact⟨_,w,#[],_,s,M8 s.w l,nM j r X.N4 (by rw[t];exact X.nS) i.cw,by simp[Mu.mv],K7 _ _,⟨rfl,F,(E cs).trans H,I⟩,aP rfl,i,eh,λ_=>rfl⟩
 rcases p with rfl|rfl|rfl
 . exact key (C.Q2 ..) rfl rfl rfl (C.QK ..)
 . exact key (C.Q3 ..) rfl rfl rfl (C.QL ..)
 . exact key (C.Q4 ..) rfl rfl rfl (C.QM ..)
include C X in
theorem xX{y:Sy}{aw sv:Bool}{it:Nat}{fr:Frame}{frs:List Frame}(f:it<4)(g:y.ok)(e:FR y (DS P n b o kind aw sv it).1 fr)(d:kg y (DS P n b o kind aw sv it).2 frs):
 ∃c,pG P Wd (G fr (frs++cs)) c/\lV P n b o kind (.rd ⟨aw,sv,it+1⟩) cs c:=by
 have a:oP P Wd (G fr (frs++cs)) (G (fr.finish (.tuple #[])) (frs++cs)):=⟨rfl,λmain w _=>qK e (C.o9 b o kind aw sv it) (by simp[DS,bR]) X.qM⟩
 have key:aF P (Fl.of y) [0,2,3,4,5,47] (DS P n b o kind aw sv it) un=some (CG P n b o kind aw sv (it+1:Nat)):=by
  have:it=0\/it=1\/it=2\/it=3:=by omega
  rcases this with rfl|rfl|rfl|rfl
  . exact C.Bq ..
  . exact C.Br ..
  . exact C.NX ..
  . exact C.NY ..
 obtain⟨_,c,h,i⟩:=nxt (P:=P) (n:=n) (b:=b) (o:=o) (kind:=kind) (Wd:=Wd) (cs:=cs) (x:=.tuple #[]) (p:=.rd ⟨aw,sv,it+1⟩) key g e d rfl (.inr (.inl rfl));exact⟨c,a.wg.trans h,i⟩
include C X in
theorem JE{old:Mu.Wd}{l:Mu.Lo}(t:ShM b o w s)(J:Mu.loc (.sq old l))(h:lV P n b o kind (.sq old l) cs g):jY P n b o kind Wd cs g w main (.sq old l) s:=by
 obtain⟨c,y,fr,frs,⟨rfl,k,B,D⟩,q,m,d,rfl⟩:=h;obtain⟨L,K,S,N⟩:=old;obtain⟨aw,sv,it⟩:=l;simp only at k B D m d;subst B;subst D;obtain⟨E,F,M,_,_⟩:=J;simp only at E F M
 have u:(aw && !K)=false:=by
  cases aw with
  |false=>rfl
  |true=>simp[E rfl]
 obtain⟨r,j,v,O,G⟩:=DJ (P:=P) (main:=main) (cs:=frs++cs) (w:=w) m (C.o7 b o kind K aw sv it) (by simp[SQ,bR]) X.DK
 have a:j.heap=w.heap:=by rcases G with rfl|rfl<;>rfl
 have e:ko w.os j.os/\j.output=w.output:=by rcases G with rfl|rfl<;>exact⟨.refl _,rfl⟩
 cases r with
 |false=>refine⟨_,j,#[],.jh ⟨true,K,false,N⟩ ⟨aw,sv,it⟩,s,.jh _ _,v,by simp[Mu.mv,Mu.hd],.jh _ _,nxt (C.lU (Fl.of y) b o kind K aw sv it u) q m d rfl ⟨rfl,k⟩,aP a e,t.heap a,eh,λ_=>rfl⟩
 | true=>
   have f:it<4:=by have:=O rfl;omega
   by_cases z:(!aw && !K && decide (N≠0))=true
   . simp only[Bool.and_eq_true,Bool.not_eq_true',decide_eq_true_eq]at z
     obtain⟨⟨rfl,rfl⟩,p⟩:=z;have:sv=false:=by cases sv with|false=>rfl|true=>exact absurd (F rfl) (by simp)
     subst this;have key:=C.ir (Fl.of y) b o kind it;rw[CV (by rw[k];simpa using p)]at key
     exact⟨_,j,#[],.sw ⟨true,false,false,N⟩ ⟨false,false,it⟩,s,.sw _ _,v,by simp[Mu.mv,Mu.hd,f,p],.sw _ _,nxt key q m d rfl ⟨rfl,k,rfl,rfl,rfl,rfl,rfl⟩,aP a e,t.heap a,eh,λ_=>rfl⟩
   . have i:(!aw && !K && decide (N≠0))=false:=by simpa using z
     have A:(!aw && !K && !decide (y.N=0))=false:=by
      rw[k]
      by_cases H:N=0
      . simp[H]
      . simp[H]at i ⊢;exact i
     have key:=C.NW (Fl.of y) b o kind (decide (y.N=0)) K aw sv it A;rw[CV rfl]at key;obtain⟨Q,I,R,T,U⟩:=K5 (Wd:=Wd) (x:=.bool true) key q m d rfl;obtain⟨V,W,Y⟩:=xX C X (Wd:=Wd) (cs:=cs) f q R T;refine⟨_,j,#[],.rd ⟨aw,sv,it+1⟩,s,.rd _,v,?_,.rd _,⟨rfl,V,(U cs).trans W,Y⟩,aP a e,t.heap a,eh,λ_=>rfl⟩
     simp only[Mu.mv,Mu.hd,f,i];simp
include C X in
theorem JF{old:Mu.Wd}{l:Mu.Lo}(f:ShM b o w s)(V:Mu.loc (.sw old l))(h:lV P n b o kind (.sw old l) cs g):jY P n b o kind Wd cs g w main (.sw old l) s:=by
 obtain⟨c,y,fr,frs,⟨rfl,E,F,G,H,I,J⟩,m,i,d,rfl⟩:=h;obtain⟨L,K,S,N⟩:=old;obtain⟨aw,sv,it⟩:=l;simp only at E F G H I J i d;subst F;subst G;subst H;subst I;subst J;have j:it<4:=V.2.2.2.2.2;have M:(SW P n b o kind it).1.kind≠.early:=by simp[SW,bR]
 have a:∀q:Bool,∀x,SR y (.word true q false 0) x->x=.int .i32 (enc true q false N):=λq x W=>by have:=W.1;rw[E,Int.add_zero]at this;exact this
 by_cases p:s.w=⟨true,false,false,N⟩
 . have O:=f.cw
   rw[p]at O;obtain⟨r,k,t,u,v⟩:=K5 (Wd:=Wd) (x:=.bool true) (C.rP (Fl.of y) b o kind true it) m i d rfl;obtain⟨z,A,B⟩:=xX C X (Wd:=Wd) (cs:=cs) j m t u;refine⟨_,_,_,.rd ⟨true,false,it+1⟩,{s with w:=⟨true,true,false,N⟩},.rd _,fu i (C.o8 b o kind it) M X.jh (a false) (a true) O (f.fz o),by simp[Mu.mv,p],.rd _,⟨rfl,z,(v cs).trans A,B⟩,sE rfl,f.aD ⟨true,true,false,N⟩,jo (.inl rfl),λ_=>rfl⟩
 . have D:¬enc s.w.L s.w.K s.w.S s.w.N=enc true false false N:=λe=>p (by
    obtain⟨Q,R,T,U⟩:=CT.1 e;obtain⟨⟨L,K,S,Y⟩,ms⟩:=s;simp only at Q R T U;subst Q;subst R;subst T;subst U;rfl)
   obtain⟨r,k,t,u,v⟩:=K5 (Wd:=Wd) (x:=.bool false) (C.rP (Fl.of y) b o kind false it) m i d rfl;obtain⟨z,A,B⟩:=xX C X (Wd:=Wd) (cs:=cs) j m t u;exact⟨_,_,_,.rd ⟨false,false,it+1⟩,s,.rd _,fN i (C.o8 b o kind it) M X.jh (a false) (a true) f.cw (f.fz o) D,by simp[Mu.mv,p],.rd _,⟨rfl,z,(v cs).trans A,B⟩,aP rfl,f,CN (.inl rfl),λ_=>rfl⟩
end
section
variable{P:Program}{n:wp}(C:gu P n)(X:gx P n){b o:Nat}{kind:CallKind}{Wd:World->Prop}{cs:List Frame}{g:Goroutine}{w:World}{main:Bool}{s:Mu.Sh}
theorem K8{a c:Mu.Wd}:a=c↔enc a.L a.K a.S a.N=enc c.L c.K c.S c.N:=by obtain⟨L,K,S,N⟩:=a;obtain⟨b,d,e,f⟩:=c;rw[CT];simp
include C X in
theorem GC{old:Mu.Wd}{l:Mu.Lo}(f:ShM b o w s)(E:Mu.loc (.jh old l))(h:lV P n b o kind (.jh old l) cs g):jY P n b o kind Wd cs g w main (.jh old l) s:=by
 obtain⟨c,y,fr,frs,⟨rfl,u⟩,t,j,a,rfl⟩:=h;obtain⟨L,K,S,N⟩:=old;obtain⟨aw,sv,it⟩:=l;simp only at u j a
 have k:(aw && !K)=false:=by
  cases aw with
  |false=>rfl
  |true=>have:=E.1 rfl;simp at this;simp[this]
 have A:(zn P n b o kind L K S aw sv it).1.kind≠.early:=by simp[zn,bR]
 have hold:∀x,SR y (.word L K S 0) x->x=.int .i32 (enc L K S N):=λx v=>by have:=v.1;rw[u,Int.add_zero]at this;exact this
 have i:∀x,SR y (JA L K S aw sv) x->x=.int .i32 (enc (Mu.m7 ⟨L,K,S,N⟩ ⟨aw,sv,it⟩).L (Mu.m7 ⟨L,K,S,N⟩ ⟨aw,sv,it⟩).K (Mu.m7 ⟨L,K,S,N⟩ ⟨aw,sv,it⟩).S (Mu.m7 ⟨L,K,S,N⟩ ⟨aw,sv,it⟩).N):=λx v=>by have:=v.1;rw[u]at this;rw[this];simp only[Mu.m7];congr 2;split<;>simp
 by_cases p:s.w=⟨L,K,S,N⟩
 . have B:=f.cw
   rw[p]at B;have m:=fu (main:=main) (cs:=frs++cs) j (C.PF b o kind L K S aw sv it) A X.jh hold i B (f.fz o)
   by_cases d:(L||S)=true
   . have q:((.eY sv:Mu.Pc),({s with w:=Mu.m7 ⟨L,K,S,N⟩ ⟨aw,sv,it⟩}:Mu.Sh))∈Mu.mv (.jh ⟨L,K,S,N⟩ ⟨aw,sv,it⟩) s:=by
      simp only[Mu.mv,k,Bool.false_eq_true,if_false,p,if_true,d,List.mem_singleton]
     by_cases r:y.ws=0
     . have key:=C.NZ (Fl.of y) b o kind L K S aw sv it d
       rw[K6 (by simpa using r)]at key
       exact⟨_,_,_,_,_,.t1 sv,m,q,.t1 _,nxt key t j a rfl rfl,sE rfl,f.aD _,jo (.inl rfl),λ_=>rfl⟩
     . have key:=C.N1 (Fl.of y) b o kind L K S aw sv it d
       rw[K6 (by simpa using r)]at key
       exact⟨_,_,_,_,_,.eY sv,m,q,.eY _,nxt key t j a rfl rfl,sE rfl,f.aD _,jo (.inl rfl),λ_=>rfl⟩
   . have D:(L||S)=false:=by simpa using d
     have F:L=false:=by cases L<;>simp_all
     have G:S=false:=by cases S<;>simp_all
     subst F;subst G;refine⟨_,_,_,.held,{s with w:=Mu.m7 ⟨false,K,false,N⟩ ⟨aw,sv,it⟩},.le,m,?_,.held,nxt (C.QN (Fl.of y) b o kind K aw sv it) t j a rfl (.inr rfl),sE rfl,f.aD _,jo (.inl rfl),λ_=>rfl⟩
     simp only[Mu.mv,k,Bool.false_eq_true,if_false,p,if_true,Bool.or_self,List.mem_singleton]
 . have z:¬enc s.w.L s.w.K s.w.S s.w.N=enc L K S N:=λe=>p (K8.2 e)
   refine⟨_,_,_,.rd ⟨aw,sv,it⟩,s,.rd _,fN j (C.PF b o kind L K S aw sv it) A X.jh hold i f.cw (f.fz o) z,?_,.rd _,nxt (C.QO (Fl.of y) b o kind L K S aw sv it) t j a rfl (.inr (.inr rfl)),aP rfl,f,CN (.inl rfl),λ_=>rfl⟩
   simp only[Mu.mv,k,Bool.false_eq_true,if_false,p,List.mem_singleton]
include C X in
theorem DM{sv:Bool}(f:ShM b o w s)(j:s.ms≠0)(h:lV P n b o kind (.eY sv) cs g):jY P n b o kind Wd cs g w main (.eY sv) s:=by
 obtain⟨c,y,fr,frs,rfl,k,i,d,rfl⟩:=h;have a:=pH (main:=main) (cs:=frs++cs) (w:=w) (n:=(s.ms:Int)) i (C.PG b o kind sv) (by simp[PK,bR]) X.Bo f.cs (by omega) (f.fz _);have e:((s.ms:Int)-1)=((s.ms-1:Nat):Int):=by omega
 rw[e]at a;cases sv with
 |true=>exact⟨_,_,_,.up true,{s with ms:=s.ms-1},.up true,a,by simp[Mu.mv,j],.up _,nxt (C.N2 (Fl.of y) b o kind) k i d rfl rfl,JC rfl,f.Bs _,sN,λ_=>rfl⟩
 |false=>exact⟨_,_,_,.tq,{s with ms:=s.ms-1},.tq,a,by simp[Mu.mv,j],.tq,nxt (C.N3 (Fl.of y) b o kind) k i d rfl rfl,JC rfl,f.Bs _,sN,λ_=>rfl⟩
include C X in
theorem zq{sv:Bool}(d:ShM b o w s)(e:s.ms=0)(h:lV P n b o kind (.eY sv) cs g):stepG P main g w=.go {g with status:=.blocked} w #[]:=by obtain⟨c,y,fr,frs,rfl,j,f,i,rfl⟩:=h;have a:=d.cs;rw[e]at a;exact wn f (C.PG b o kind sv) X.Bo a
include C X in
theorem JG(j:ShM b o w s)(h:lV P n b o kind .tq cs g):jY P n b o kind Wd cs g w main .tq s:=by
 obtain⟨c,y,fr,frs,rfl,k,i,d,rfl⟩:=h;have e:=wo (P:=P) (main:=main) (cs:=frs++cs) (w:=w) i (C.Q6 b o kind) (by simp[TQ,bR]) X.nano X.Gw;have f:=i.re (y':={y with tn:=((w.os.mono+w.tick:Nat):Int)}) (.inl rfl) (.inl rfl) (.inl rfl) (.inr rfl);have a:=d.fg (y':={y with tn:=((w.os.mono+w.tick:Nat):Int)}) (by simpa[TQ,bR]using C.p2 b o kind);have key:=C.M7 (Fl.of {y with tn:=((w.os.mono+w.tick:Nat):Int)}) b o kind (decide (IntKind.i64.wrap (((w.os.mono+w.tick:Nat):Int)-y.ws)>1000000));rw[N7 rfl]at key;refine⟨_,_,_,.up (decide (IntKind.i64.wrap (((w.os.mono+w.tick:Nat):Int)-y.ws)>1000000)),s,.up _,e,?_,.up _,nxt (y:={y with tn:=((w.os.mono+w.tick:Nat):Int)}) key k f a rfl rfl,aP rfl ⟨⟨w.tick,rfl⟩,rfl⟩,j.heap rfl,eh,λ_=>rfl⟩;cases decide (IntKind.i64.wrap (((w.os.mono+w.tick:Nat):Int)-y.ws)>1000000)<;>simp[Mu.mv]
include C X in
theorem JH{sv:Bool}(m:ShM b o w s)(hb:s.w.N<=1000)(v:∀q s',(q,s')∈Mu.mv (.up sv) s->Mu.loc q)(h:lV P n b o kind (.up sv) cs g):jY P n b o kind Wd cs g w main (.up sv) s:=by
 obtain⟨c,y,fr,frs,rfl,A,x,p,rfl⟩:=h;have f:({y with N:=(s.w.N:Int)}:Sy).ok:=⟨⟨by simp,by show(s.w.N:Int)<=1000;omega⟩,A.2⟩
 have i:=x.re (y':={y with N:=(s.w.N:Int)}) (.inr rfl) (.inl rfl) (.inl rfl) (.inl rfl)
 have e:=p.fg (y':={y with N:=(s.w.N:Int)}) (by simpa[UP,bR]using C.p2 b o kind)
 have j:=nM (main:=main) (cs:=frs++cs) x (C.Q7 b o kind sv) X.N4 X.nS m.cw
 by_cases k:s.w.S=true
 . have r:(s.w.L||s.w.K||decide (s.w.N=0))=false:=by
    cases B:(s.w.L||s.w.K||decide (s.w.N=0))with
    |false=>rfl
    |true=>exact(v .bad s (by simp[Mu.mv,k,B])).elim
   have a:((.add s.w sv:Mu.Pc),s)∈Mu.mv (.up sv) s:=by simp[Mu.mv,k,r]
   simp only[Bool.or_eq_false_iff,decide_eq_false_iff_not]at r;obtain⟨⟨D,E⟩,t⟩:=r;have key:=C.QQ (Fl.of {y with N:=(s.w.N:Int)}) b o kind sv (decide (s.w.N=1))
   rw[LM (by show decide ((s.w.N:Int)=0)=false;simpa using t) (by show decide ((s.w.N:Int)=1)=decide (s.w.N=1);rw[Bool.eq_iff_iff,decide_eq_true_iff,decide_eq_true_iff];omega)]at key
   have u:SR {y with N:=(s.w.N:Int)} (.word false false true 0) (.int .i32 (enc s.w.L s.w.K s.w.S s.w.N)):=by rw[D,E,k];exact nO rfl
   exact⟨_,w,#[],_,s,.add s.w sv,j,a,.add _ _,nxt (y:={y with N:=(s.w.N:Int)}) key f i e u rfl,aP rfl,m,eh,λ_=>rfl⟩
 . have d:s.w.S=false:=by simpa using k
   have a:(Mu.nx s.w ⟨true,sv,0⟩,s)∈Mu.mv (.up sv) s:=by simp[Mu.mv,d]
   have u:SR {y with N:=(s.w.N:Int)} (.word s.w.L s.w.K false 0) (.int .i32 (enc s.w.L s.w.K s.w.S s.w.N)):=by rw[d];exact nO rfl
   obtain⟨F,z,G,H,I⟩:=N5 (Wd:=Wd) (C.QR (Fl.of {y with N:=(s.w.N:Int)}) b o kind s.w.L s.w.K sv) f i e u
   obtain⟨J,M,O⟩:=CW C (Wd:=Wd) (cs:=cs) (old:=s.w) (l:=⟨true,sv,0⟩) f rfl (by rw[d];exact G) (by rw[d];exact H) (v _ _ a)
   exact⟨_,w,#[],_,s,M8 s.w ⟨true,sv,0⟩,j,a,K7 _ _,⟨rfl,J,(I cs).trans M,O⟩,aP rfl,m,eh,λ_=>rfl⟩
include C X in
theorem GD{old:Mu.Wd}{sv:Bool}(d:ShM b o w s)(hb:s.w.N<=1000)(j:s.w.L=false)(k:s.w.S=true)(q:s.w.N≠0)(h:lV P n b o kind (.add old sv) cs g):jY P n b o kind Wd cs g w main (.add old sv) s:=by
 obtain⟨c,y,fr,frs,rfl,l,i,f,rfl⟩:=h;have a:=m9 (main:=main) (cs:=frs++cs) (w:=w) i (C.Q8 b o kind _) (by simp[AD,bR]) X.add (λx h=>h) d.cw (d.fz _)
 have e:IntKind.i32.wrap (enc s.w.L s.w.K s.w.S s.w.N+(if !sv||decide (old.N=1)then -11 else -7))=enc true s.w.K (s.w.S && !(!sv||decide (old.N=1))) (s.w.N-1:Nat):=by
  rw[j,k];have m:((s.w.N-1:Nat):Int)=(s.w.N:Int)-1:=by omega
  rw[m];generalize (!sv||decide (old.N=1))=x;have p:=jV (L:=false) (K:=s.w.K) (S:=true) (N:=(s.w.N:Int));rw[gq (by split<;>omega) (by split<;>omega)];unfold enc;cases x<;>cases s.w.K<;>simp[Bool.toNat]<;>omega
 rw[e]at a;exact⟨_,_,_,.held,{s with w:={s.w with L:=true,S:=s.w.S && !(!sv||decide (old.N=1)),N:=s.w.N-1}},.le,a,by simp[Mu.mv],.held,nxt (C.QS (Fl.of y) b o kind _) l i f trivial (.inr rfl),sE rfl,d.aD {s.w with L:=true,S:=s.w.S && !(!sv||decide (old.N=1)),N:=s.w.N-1},jo (.inl rfl),λ_=>rfl⟩
include C X in
theorem DN(t:ShM b o w s)(hb:s.w.N<=1000)(q:s.w.L=true)(h:lV P n b o kind .held cs g):jY P n b o kind Wd cs g w main .held s:=by
 obtain⟨c,y,fr,frs,rfl,A,z,u,rfl⟩:=h;have k:({y with N:=(s.w.N:Int)}:Sy).ok:=⟨⟨by simp,by show(s.w.N:Int)<=1000;omega⟩,A.2⟩
 have l:=z.re (y':={y with N:=(s.w.N:Int)}) (.inr rfl) (.inl rfl) (.inl rfl) (.inl rfl)
 have d:=u.fg (y':={y with N:=(s.w.N:Int)}) (by simpa[oQ,mJ]using(C.p3 b o kind).1)
 have i:=m9 (main:=main) (cs:=frs++cs) (w:=w) z (C.PI b o kind) (by simp[oQ,mJ]) X.add (λx h=>h) t.cw (t.fz _)
 have e:IntKind.i32.wrap (enc s.w.L s.w.K s.w.S s.w.N+-1)=enc false s.w.K s.w.S s.w.N:=by
  rw[q];have B:=jV (L:=true) (K:=s.w.K) (S:=s.w.S) (N:=(s.w.N:Int));rw[gq (by omega) (by omega)]
  unfold enc;simp[Bool.toNat];omega
 rw[e]at i;have m:=t.aD {s.w with L:=false}
 have p:SR {y with N:=(s.w.N:Int)} (.word false s.w.K s.w.S 0) (.int .i32 (enc false s.w.K s.w.S s.w.N)):=nO rfl
 by_cases r:s.w.S=true
 . have key:=C.QW (Fl.of {y with N:=(s.w.N:Int)}) b o kind (decide ((s.w.N:Int)=0)) s.w.K
   rw[r]at p;exact⟨_,_,_,.give,{s with w:={s.w with L:=false}},.give,i,by simp[Mu.mv,q,r,Mu.Wd.zero],.give,nxt (y:={y with N:=(s.w.N:Int)}) key k l d (by rw[r];exact p) (.inr rfl),sE rfl,m,jo (.inl rfl),λ_=>rfl⟩
 . have f:s.w.S=false:=by simpa using r
   by_cases v:(decide ((s.w.N:Int)=0)||s.w.K)=true
   . have key:=C.u5 (Fl.of {y with N:=(s.w.N:Int)}) b o kind (decide ((s.w.N:Int)=0)) s.w.K v
     refine⟨_,_,_,.out,{s with w:={s.w with L:=false}},.ue,i,?_,.out,nxt (y:={y with N:=(s.w.N:Int)}) key k l d (by rw[f]at p ⊢;exact p) rfl,sE rfl,m,jo (.inl rfl),λ_=>rfl⟩
     have a:(decide (s.w.N=0)||s.w.K)=true:=by simpa using v
     simp only[Mu.mv,q,Bool.true_eq_false,if_false,List.mem_singleton,Prod.mk.injEq,and_true];split
     . rfl
     . simp only
   . have a:(decide ((s.w.N:Int)=0)||s.w.K)=false:=by simpa using v
     simp only[Bool.or_eq_false_iff,decide_eq_false_iff_not]at a;have j:s.w.N≠0:=by have:=a.1;omega
     have key:=C.QX (Fl.of {y with N:=(s.w.N:Int)}) b o kind
     rw[CV (by show decide ((s.w.N:Int)=0)=false;simpa using j)]at key
     rw[a.2,f]at p;refine⟨_,_,_,.gJ {s.w with L:=false},{s with w:={s.w with L:=false}},.gJ _,i,?_,.gJ _,nxt (y:={y with N:=(s.w.N:Int)}) key k l d (by rw[a.2,f];exact p) ⟨rfl,rfl,rfl,a.2,f,j⟩,sE rfl,m,jo (.inl rfl),λ_=>rfl⟩
     have D:({s.w with L:=false}:Mu.Wd)≠Mu.Wd.zero:=λe=>j (by have:=congrArg Mu.Wd.N e;exact this)
     simp[Mu.mv,q,f,j,a.2,Mu.Wd.zero]
include C X in
theorem DO{old:Mu.Wd}(d:ShM b o w s)(h:lV P n b o kind (.gJ old) cs g):jY P n b o kind Wd cs g w main (.gJ old) s:=by
 obtain⟨c,y,fr,frs,⟨rfl,k,q,r,t,l⟩,u,i,f,rfl⟩:=h;obtain⟨L,K,S,N⟩:=old;simp only at k q r t l;subst q;subst r;subst t;have v:(UC P n b o kind).1.kind≠.early:=by simp[UC,rO]
 have hold:∀x,SR y wf x->x=.int .i32 (enc false false false N):=λx m=>by have:=m.1;rw[k,Int.add_zero]at this;exact this
 have a:∀x,SR y (.word false true false (-1)) x->x=.int .i32 (enc false true false (N-1:Nat)):=λx m=>by have:=m.1;rw[k]at this;rw[this];congr 2;omega
 by_cases j:s.w=⟨false,false,false,N⟩
 . have z:=d.cw
   rw[j]at z;exact⟨_,_,_,.give,{s with w:=⟨false,true,false,N-1⟩},.give,fu i (C.PJ b o kind) v X.jh hold a z (d.fz o),by simp[Mu.mv,j],.give,nxt (C.QY (Fl.of y) b o kind) u i f rfl (.inl rfl),sE rfl,d.aD ⟨false,true,false,N-1⟩,jo (.inl rfl),λ_=>rfl⟩
 . have p:¬enc s.w.L s.w.K s.w.S s.w.N=enc false false false N:=λe=>j (K8.2 e)
   exact⟨_,_,_,.sB,s,.sB,fN i (C.PJ b o kind) v X.jh hold a d.cw (d.fz o) p,by simp[Mu.mv,j],.sB,nxt (C.QZ (Fl.of y) b o kind) u i f rfl rfl,aP rfl,d,CN (.inl rfl),λ_=>rfl⟩
include C X in
theorem GE(k:ShM b o w s)(hb:s.w.N<=1000)(h:lV P n b o kind .sB cs g):jY P n b o kind Wd cs g w main .sB s:=by
 obtain⟨c,y,fr,frs,rfl,x,v,l,rfl⟩:=h;have e:({y with N:=(s.w.N:Int)}:Sy).ok:=⟨⟨by simp,by show(s.w.N:Int)<=1000;omega⟩,x.2⟩
 have f:=v.re (y':={y with N:=(s.w.N:Int)}) (.inr rfl) (.inl rfl) (.inl rfl) (.inl rfl)
 have d:=l.fg (y':={y with N:=(s.w.N:Int)}) (by simpa[Jc,rO]using C.p4 b o kind)
 have i:=nM (main:=main) (cs:=frs++cs) v (C.Re b o kind) X.N4 X.nV k.cw;have m:SR {y with N:=(s.w.N:Int)} (.word s.w.L s.w.K s.w.S 0) (.int .i32 (enc s.w.L s.w.K s.w.S s.w.N)):=nO rfl
 by_cases p:(decide ((s.w.N:Int)=0)||s.w.L||s.w.K||s.w.S)=true
 . have key:=C.u7 (Fl.of {y with N:=(s.w.N:Int)}) b o kind (decide ((s.w.N:Int)=0)) s.w.L s.w.K s.w.S p
   have a:(decide (s.w.N=0)||s.w.L||s.w.K||s.w.S)=true:=by simpa using p
   exact⟨_,w,#[],.out,s,.ue,i,by simp only[Mu.mv,a,if_true,List.mem_singleton],.out,nxt (y:={y with N:=(s.w.N:Int)}) key e f d m rfl,aP rfl,k,eh,λ_=>rfl⟩
 . have a:(decide ((s.w.N:Int)=0)||s.w.L||s.w.K||s.w.S)=false:=by simpa using p
   have q:(decide (s.w.N=0)||s.w.L||s.w.K||s.w.S)=false:=by rw[<-a];simp
   simp only[Bool.or_eq_false_iff,decide_eq_false_iff_not]at a;obtain⟨⟨⟨z,r⟩,t⟩,u⟩:=a;have j:s.w.N≠0:=by omega
   have key:=C.Q0 (Fl.of {y with N:=(s.w.N:Int)}) b o kind
   rw[CV (by show decide ((s.w.N:Int)=0)=false;simpa using j)]at key
   rw[r,t,u]at m;exact⟨_,w,#[],.gJ s.w,s,.gJ _,i,by simp only[Mu.mv,q,Bool.false_eq_true,if_false,List.mem_singleton],.gJ _,nxt (y:={y with N:=(s.w.N:Int)}) key e f d (by rw[r,t,u];exact m) ⟨rfl,rfl,r,t,u,j⟩,aP rfl,k,eh,λ_=>rfl⟩
include C X in
theorem DP(d:ShM b o w s)(l:s.ms<=1000)(h:lV P n b o kind .give cs g):jY P n b o kind Wd cs g w main .give s:=by
 obtain⟨c,y,fr,frs,k,j,i,f,rfl⟩:=h;have e:IntKind.u32.wrap ((s.ms:Int)+1)=((s.ms+1:Nat):Int):=by rw[IntKind.wrap_u32];omega
 rcases k with rfl|rfl
 . have a:=me (main:=main) (cs:=frs++cs) (w:=w) i (C.PL b o kind) (by simp[G7,rO]) X.mf d.cs (d.fz _)
   rw[e]at a;exact⟨_,_,_,.out,{s with ms:=s.ms+1},.ue,a,by simp[Mu.mv],.out,nxt (C.u8 (Fl.of y) b o kind) j i f rfl rfl,JC rfl,d.Bs _,sN,λ_=>rfl⟩
 . have a:=me (main:=main) (cs:=frs++cs) (w:=w) i (C.PM b o kind) (by simp[G9,rO]) X.mf d.cs (d.fz _)
   rw[e]at a;exact⟨_,_,_,.out,{s with ms:=s.ms+1},.ue,a,by simp[Mu.mv],.out,nxt (C.u9 (Fl.of y) b o kind) j i f rfl rfl,JC rfl,d.Bs _,sN,λ_=>rfl⟩
end
end Go.bG

/- Part 15 of the proof. -/
import Derived.Conc.ClockLaws
import Derived.Conc.MarkLaws
import Derived.Conc.AtomicLaws2
import Derived.Conc.SmallLaws
import Derived.Laws.LoneSync
import Derived.Test.YtalogdafegmilaaGreatDoorC14
set_option linter.all false
namespace Go.aN
open Go.Conc
def aR(s:jf):Option (FuncId × List SV):=
 match s.mode,s.todo with
 | .run, .inRegion ops (i::_)::_=>match ops[i]? with
   | some o=>match xh ops s.env o with
     | some true=>match o.op with
       | .call c=>match c.callee with
         |.value (.func f)=>some (f,c.args.toList.map (sv s.env))
         |_=>none
       |_=>none
     |_=>none
   |none=>none
 |_,_=>none
def pf(s:jf):Option (TypeId × SV):=
 match s.mode,s.todo with
 | .run,.inRegion ops (i::_)::_=>match ops[i]? with
   | some o=>match xh ops s.env o with
     | some true=>match o.op with
       |.load t x=>some (t,sv s.env x)
       |_=>none
     |_=>none
   |none=>none
 |_,_=>none
structure Ext(P:Program)(f:FuncId)(e:Array Value->Sem Value):Prop where
 ex:∃fn,P.funcs[f]?=some fn/\(fn.name==  "runtime.NumGoroutine")=false/\fn.body.isNone=true/\Extern.findNext fn=none/\Extern.find fn=some e
theorem cU {y:Sy} {s:jf} {fr:Frame} {f:FuncId} {svs:List SV} (hr:FR y s fr) (h:aR s=some (f,svs)) :
 ∃ ops i rest kk o as ats,ops[i]? = some o∧Region.wanted o (yielded ops fr.tmps)=true∧o.op = .call { callee:=.value (.func f),args:=as,argTypes:=ats }∧svs=as.toList.map (sv s.env) ∧
   fr=(fr.at ⟨fr.tmps,fr.defers⟩ (.inRegion ops (i :: rest) :: kk))∧∀ v,fr.at ((⟨fr.tmps,fr.defers⟩:Act).put o.dst v) (.inRegion ops rest :: kk)=fr.finish v:=by
 have hr0:=hr;obtain⟨fn,tmps,todo,defs,mode,kind,ro⟩:=fr;obtain⟨h1,h2,h3,h4,h5,h6,h7,h8⟩:=hr;simp only at h1 h2 h3 h4 h5 h6 h7 h8;subst h6;unfold aR at h;split at h
 . rename_i ops i rest kk hm ht
   rw[hm] at h4;rw[ht] at h2;have h4:mode = .run:=h4;subst h4;subst h2;split at h
   . rename_i o ho
     split at h
     . rename_i hw
       split at h
       . rename_i c hc
         split at h
         . rename_i g hg
           simp only[Option.some.injEq,Prod.mk.injEq] at h;obtain⟨rfl,rfl⟩:=h;obtain⟨callee,args,ats⟩:=c;simp only at hg;subst hg;refine⟨ops,i,rest,kk,o,args,ats,ho,n8 hr0 hw,hc,rfl,rfl,fun v=>?_⟩
           simp only[Frame.finish,ho,Option.bind_some,Act.put,Frame.at];cases o.dst <;> rfl
         . cases h
       . cases h
     . cases h
   . cases h
 . cases h
section
variable{P:Program}{main:Bool}{y:Sy}{s:jf}{fr:Frame}{f:FuncId}{svs:List SV}{cs:List Frame}{w:World}
theorem Au{fr:Frame}(x:Operand):(⟨fr.tmps,fr.defers⟩:Act).eval x=fr.eval x:=by cases x<;>rfl
theorem yG {as:Array Operand} (hr:FR y s fr) {svs:List SV} (h:svs=as.toList.map (sv s.env)):∀ (j:Nat) (v:SV),svs[j]? = some v->∃ x,(as.map (⟨fr.tmps,fr.defers⟩:Act).eval)[j]? = some x∧SR y v x:=fun j v hj=>by
 subst h;rw[List.getElem?_map,Array.getElem?_toList] at hj;obtain⟨x,hx,rfl⟩:=Option.map_eq_some_iff.1 hj;exact⟨fr.eval x,by simp[hx,Au],hr.sv x⟩
theorem eo {m:Mark} (hm:∀ g,m ≠ .extern g) (hr:FR y s fr) (h:aR s=some (f,svs)) (hk:s.kind ≠ .early) (he:Ext P f (fun _=>do mark m;pure Extern.Race.none_)):stepG P main (G fr cs) w = .go (G (fr.finish (.tuple #[])) cs) w #[⟨.mark m,false,true⟩]:=by
 obtain⟨ops,i,rest,kk,o,as,ats,h1,h2,h3,h4,h5,h6⟩:=cU hr h;obtain⟨fn,e1,e2,e3,e4,e5⟩:=he.ex;have:=stepG_mark0 (P:=P) (main:=main) (b:=fr) (a:=⟨fr.tmps,fr.defers⟩) (kk:=kk) (cs:=cs) (w:=w) (rest:=rest) m hm h1 h2 (by rw[hr.kind];exact hk) h3 e1 e2 e3 e4 e5
 rw[h6,← h5] at this;exact this
theorem eU {mk:Addr->Mark} (hm:∀ ad g,mk ad ≠ .extern g) {ad:Addr} (hr:FR y s fr) (h:aR s=some (f,[.lit (.pointer (some ad))])) (hk:s.kind ≠ .early) (he:Ext P f (Extern.Race.marked mk)):stepG P main (G fr cs) w = .go (G (fr.finish (.tuple #[])) cs) w #[⟨.mark (mk ad),false,true⟩]:=by
 obtain⟨ops,i,rest,kk,o,as,ats,h1,h2,h3,h4,h5,h6⟩:=cU hr h;obtain⟨fn,e1,e2,e3,e4,e5⟩:=he.ex;obtain⟨x,hx,hx'⟩:=yG hr h4 0 _ rfl;have hx':x = .pointer (some ad):=hx';rw[hx'] at hx;have:=stepG_markAt (P:=P) (main:=main) (b:=fr) (a:=⟨fr.tmps,fr.defers⟩) (kk:=kk) (cs:=cs) (w:=w) (rest:=rest) mk hm h1 h2 (by rw[hr.kind];exact hk) h3 e1 e2 e3 e4 e5 hx
 rw[h6,← h5] at this;exact this
theorem Av {as:Array Operand} {a b c:SV} (h:[a,b,c]=as.toList.map (sv s.env)):∃ x z u,as=#[x,z,u]∧sv s.env x=a∧sv s.env z=b∧sv s.env u=c:=by
 obtain⟨l⟩:=as
 match l,h with
 | [x,z,u],h=>simp at h;exact⟨x,z,u,rfl,h.1.symm,h.2.1.symm,h.2.2.symm⟩
theorem G1 {as:Array Operand} {a b:SV} (h:[a,b]=as.toList.map (sv s.env)):∃ x z,as=#[x,z]∧sv s.env x=a∧sv s.env z=b:=by
 obtain⟨l⟩:=as
 match l,h with
 | [x,z],h=>simp at h;exact⟨x,z,rfl,h.1.symm,h.2.symm⟩
theorem G2 {as:Array Operand} {a:SV} (h:[a]=as.toList.map (sv s.env)):∃ x,as=#[x]∧sv s.env x=a:=by
 obtain⟨l⟩:=as
 match l,h with
 | [x],h=>simp at h;exact⟨x,rfl,h.symm⟩
theorem gZ(hr:FR y s fr){x:Operand}{a:SV}(h:sv s.env x=a):SR y a ((⟨fr.tmps,fr.defers⟩:Act).eval x):=by subst h;rw[Au];exact hr.sv x
theorem gh {k:IntKind} {ad:Addr} {a b:SV} {v n:Int} (hr:FR y s fr) (h:aR s=some (f,[.lit (.pointer (some ad)),a,b])) (hk:s.kind ≠ .early) (he:Ext P f (Extern.Atomic.casT (.int k)))
 (ha:∀ x,SR y a x->x = .int k v) (hb:∀ x,SR y b x->x = .int k n) (hc:w.cell? ad=some (.int k v)) (hz:w.frozen? ad=false) :
 stepG P main (G fr cs) w = .go (G (fr.finish (.bool true)) cs) (w.setCell ad (.int k n)) #[⟨.cell ad,false,true⟩,⟨.cell ad,true,true⟩]:=by
 obtain⟨ops,i,rest,kk,o,as,ats,h1,h2,h3,h4,h5,h6⟩:=cU hr h;obtain⟨fn,e1,e2,e3,e4,e5⟩:=he.ex;obtain⟨x,z,u,rfl,hx,hz',hu⟩:=Av h4;have:=stepG_cas_hit (P:=P) (main:=main) (b:=fr) (a:=⟨fr.tmps,fr.defers⟩) (kk:=kk) (cs:=cs) (w:=w) (rest:=rest) h1 h2 (by rw[hr.kind];exact hk) h3 e1 e2 e3 e4 k e5 (gZ hr hx) (ha _ (gZ hr hz')) (hb _ (gZ hr hu)) hc hz
 rw[h6,← h5] at this;exact this
theorem gS {k:IntKind} {ad:Addr} {a b:SV} {v old n:Int} (hr:FR y s fr) (h:aR s=some (f,[.lit (.pointer (some ad)),a,b])) (hk:s.kind ≠ .early) (he:Ext P f (Extern.Atomic.casT (.int k)))
 (ha:∀ x,SR y a x->x = .int k old) (hb:∀ x,SR y b x->x = .int k n) (hc:w.cell? ad=some (.int k v)) (hz:w.frozen? ad=false) (hne : ¬ v=old) :
 stepG P main (G fr cs) w = .go (G (fr.finish (.bool false)) cs) w #[⟨.cell ad,false,true⟩]:=by
 obtain⟨ops,i,rest,kk,o,as,ats,h1,h2,h3,h4,h5,h6⟩:=cU hr h;obtain⟨fn,e1,e2,e3,e4,e5⟩:=he.ex;obtain⟨x,z,u,rfl,hx,hz',hu⟩:=Av h4;have:=stepG_cas_miss (P:=P) (main:=main) (b:=fr) (a:=⟨fr.tmps,fr.defers⟩) (kk:=kk) (cs:=cs) (w:=w) (rest:=rest) h1 h2 (by rw[hr.kind];exact hk) h3 e1 e2 e3 e4 k e5 (gZ hr hx) (ha _ (gZ hr hz')) (hb _ (gZ hr hu)) hc hz hne
 rw[h6,← h5] at this;exact this
theorem n9 {k:IntKind} {ad:Addr} {a:SV} {v d:Int} (hr:FR y s fr) (h:aR s=some (f,[.lit (.pointer (some ad)),a])) (hk:s.kind ≠ .early) (he:Ext P f (Extern.Atomic.update (Op.intArith .add) k true))
 (ha:∀ x,SR y a x->x = .int k d) (hc:w.cell? ad=some (.int k v)) (hz:w.frozen? ad=false) :
 stepG P main (G fr cs) w = .go (G (fr.finish (.int k (k.wrap (v+d)))) cs) (w.setCell ad (.int k (k.wrap (v+d)))) #[⟨.cell ad,false,true⟩,⟨.cell ad,true,true⟩]:=by
 obtain⟨ops,i,rest,kk,o,as,ats,h1,h2,h3,h4,h5,h6⟩:=cU hr h;obtain⟨fn,e1,e2,e3,e4,e5⟩:=he.ex;obtain⟨x,z,rfl,hx,hz'⟩:=G1 h4;have:=stepG_add_atomic (P:=P) (main:=main) (b:=fr) (a:=⟨fr.tmps,fr.defers⟩) (kk:=kk) (cs:=cs) (w:=w) (rest:=rest) h1 h2 (by rw[hr.kind];exact hk) h3 e1 e2 e3 e4 k e5 (gZ hr hx) (ha _ (gZ hr hz')) hc hz
 rw[h6,← h5] at this;exact this
theorem qV {ad:Addr} {l:List SV} {n:Int} (hr:FR y s fr) (h:aR s=some (f,.lit (.pointer (some ad)) :: l)) (hk:s.kind ≠ .early) (he:Ext P f Extern.Sync.semacquire) (hc:w.cell? ad=some (.int .u32 n)) (hn:n≠0) (hz:w.frozen? ad=false) :
 stepG P main (G fr cs) w = .go (G (fr.finish (.tuple #[])) cs) (w.setCell ad (.int .u32 (n-1))) (semEvents ad):=by
 obtain⟨ops,i,rest,kk,o,as,ats,h1,h2,h3,h4,h5,h6⟩:=cU hr h;obtain⟨fn,e1,e2,e3,e4,e5⟩:=he.ex;obtain⟨x,hx,hx'⟩:=yG hr h4 0 _ rfl;have hx':x = .pointer (some ad):=hx';rw[hx'] at hx;have:=stepG_semacquire (P:=P) (main:=main) (b:=fr) (a:=⟨fr.tmps,fr.defers⟩) (kk:=kk) (cs:=cs) (w:=w) (rest:=rest) h1 h2 (by rw[hr.kind];exact hk) h3 e1 e2 e3 e4 e5 hx hc hn hz
 rw[h6,← h5] at this;exact this
theorem xm {ad:Addr} {l:List SV} (hr:FR y s fr) (h:aR s=some (f,.lit (.pointer (some ad)) :: l)) (he:Ext P f Extern.Sync.semacquire) (hc:w.cell? ad=some (.int .u32 0)) :
 stepG P main (G fr cs) w = .go { G fr cs with status:=.blocked } w #[]:=by
 obtain⟨ops,i,rest,kk,o,as,ats,h1,h2,h3,h4,h5,h6⟩:=cU hr h;obtain⟨fn,e1,e2,e3,e4,e5⟩:=he.ex;obtain⟨x,hx,hx'⟩:=yG hr h4 0 _ rfl;have hx':x = .pointer (some ad):=hx';rw[hx'] at hx;have:=stepG_semacquire_wait (P:=P) (main:=main) (b:=fr) (a:=⟨fr.tmps,fr.defers⟩) (kk:=kk) (cs:=cs) (w:=w) (rest:=rest) h1 h2 h3 e1 e2 e3 e4 e5 hx hc;rw[← h5] at this;exact this
theorem mT {ad:Addr} {l:List SV} {n:Int} (hr:FR y s fr) (h:aR s=some (f,.lit (.pointer (some ad)) :: l)) (hk:s.kind ≠ .early) (he:Ext P f Extern.Sync.semrelease) (hc:w.cell? ad=some (.int .u32 n)) (hz:w.frozen? ad=false) :
 stepG P main (G fr cs) w = .go (G (fr.finish (.tuple #[])) cs) (w.setCell ad (.int .u32 (IntKind.u32.wrap (n+1)))) (semEvents ad):=by
 obtain⟨ops,i,rest,kk,o,as,ats,h1,h2,h3,h4,h5,h6⟩:=cU hr h;obtain⟨fn,e1,e2,e3,e4,e5⟩:=he.ex;obtain⟨x,hx,hx'⟩:=yG hr h4 0 _ rfl;have hx':x = .pointer (some ad):=hx';rw[hx'] at hx;have:=stepG_semrelease (P:=P) (main:=main) (b:=fr) (a:=⟨fr.tmps,fr.defers⟩) (kk:=kk) (cs:=cs) (w:=w) (rest:=rest) h1 h2 (by rw[hr.kind];exact hk) h3 e1 e2 e3 e4 e5 hx hc hz
 rw[h6,← h5] at this;exact this
theorem xn (hr:FR y s fr) (h:aR s=some (f,svs)) (hk:s.kind ≠ .early) (he:Ext P f Extern.OsHooks.nano) (hq:∃ fn,P.funcs[f]? = some fn∧fn.norace=true) :
 stepG P main (G fr cs) w = .go (G (fr.finish (.int .i64 ((w.os.mono+w.tick:Nat):Int))) cs) w.later #[]:=by
 obtain⟨ops,i,rest,kk,o,as,ats,h1,h2,h3,h4,h5,h6⟩:=cU hr h;obtain⟨fn,e1,e2,e3,e4,e5⟩:=he.ex;obtain⟨fn',q1,e6⟩:=hq;obtain rfl:fn'=fn:=by rw[q1] at e1;exact Option.some.inj e1
 have:=stepG_nanotime (P:=P) (main:=main) (b:=fr) (a:=⟨fr.tmps,fr.defers⟩) (kk:=kk) (cs:=cs) (w:=w) (rest:=rest) h1 h2 (by rw[hr.kind];exact hk) h3 e1 e2 e3 e4 e5 e6
 rw[h6,← h5] at this;exact this
theorem EH {n:Int} (hr:FR y s fr) (h:aR s=some (f,[.lit (.int .i64 n)])) (hk:s.kind ≠ .early) (he:Ext P f Extern.Sync.canSpin) :
 ∃ b w',stepG P main (G fr cs) w = .go (G (fr.finish (.bool b)) cs) w' #[]∧(b=true->n<4)∧(w'=w∨w'=w.asked):=by
 obtain⟨ops,i,rest,kk,o,as,ats,h1,h2,h3,h4,h5,h6⟩:=cU hr h;obtain⟨fn,e1,e2,e3,e4,e5⟩:=he.ex;obtain⟨x,rfl,hx⟩:=G2 h4;have hx':(⟨fr.tmps,fr.defers⟩:Act).eval x = .int .i64 n:=gZ hr hx
 by_cases h4:n<4
 . have:=stepG_canSpin_ask (P:=P) (main:=main) (b:=fr) (a:=⟨fr.tmps,fr.defers⟩) (kk:=kk) (cs:=cs) (w:=w) (rest:=rest) h1 h2 (by rw[hr.kind];exact hk) h3 e1 e2 e3 e4 e5 (n:=n) (k:=.i64) (by simp[hx']) h4
   rw[h6,← h5] at this;exact⟨_,_,this,fun _=>h4,.inr rfl⟩
 . have:=stepG_canSpin_no (P:=P) (main:=main) (b:=fr) (a:=⟨fr.tmps,fr.defers⟩) (kk:=kk) (cs:=cs) (w:=w) (rest:=rest) h1 h2 (by rw[hr.kind];exact hk) h3 e1 e2 e3 e4 e5 (n:=n) (k:=.i64) (by simp[hx']) (by omega)
   rw[h6,← h5] at this;exact⟨_,_,this,(fun e=>by cases e),.inl rfl⟩
theorem r8 {v:Value} (hr:FR y s fr) (h:aR s=some (f,svs)) (hk:s.kind ≠ .early) (he:Ext P f (fun _=>pure v)):stepG P main (G fr cs) w = .go (G (fr.finish v) cs) w #[]:=by
 obtain⟨ops,i,rest,kk,o,as,ats,h1,h2,h3,h4,h5,h6⟩:=cU hr h;obtain⟨fn,e1,e2,e3,e4,e5⟩:=he.ex;have:=stepG_entry (P:=P) (main:=main) (b:=fr) (a:=⟨fr.tmps,fr.defers⟩) (kk:=kk) (cs:=cs) (w:=w) (rest:=rest) (v:=v) (w':=w) (evs:=#[]) h1 h2 (by rw[hr.kind];exact hk) h3 e1 e2 e3 e4 e5 (by simp) (by simp) (by simp)
 rw[h6,← h5] at this;exact this
theorem G3{α β:Type}{P:Program}{f:α->Sem β}(s:Sem α):∀{a:α},lT P s=some a->∀w es,(s.bind f).runT P w es=(f a).runT P w es:=by
 induction s with
 |pure b=>intro a h w es;simp only[lT,Option.some.injEq]at h;subst h;rfl
 |program g ih=>intro a h w es;simp only[lT]at h;exact ih P h w es
 |_=>intro a h;simp[lT]at h
theorem oU{t:Nat}{ad:Addr}{v:Value}(hr:FR y s fr)(h:pf s=some (t,.lit (.pointer (some ad))))(ha:lT P (isAgg t)=some false)(hn:∃fn,P.funcs[s.fn]?=some fn/\fn.norace=true)(hc:w.cell? ad=some v):
 stepG P main (G fr cs) w=.go (G (fr.finish v) cs) w #[]:=by
 have hr0:=hr;obtain⟨fn,tmps,todo,defs,mode,kind,ro⟩:=fr;obtain⟨h1,h2,h3,h4,h5,h6,h7,h8⟩:=hr;simp only at h1 h2 h3 h4 h5 h6 h7 h8;subst h6;unfold pf at h;split at h
 . rename_i ops i' rest kk hm ht'
   rw[hm]at h4;rw[ht']at h2;have h4:mode=.run:=h4;subst h4;subst h2;split at h
   . rename_i o ho
     split at h
     . rename_i hw
       split at h
       . rename_i t' x hop
         simp only[Option.some.injEq,Prod.mk.injEq]at h;obtain⟨rfl,hx⟩:=h;have hx':=hr0.sv x;rw[hx]at hx';have hx':Frame.eval ⟨fn,tmps,.inRegion ops (i'::rest)::kk,defs,.run,kind,none⟩ x=.pointer (some ad):=hx';obtain⟨fn',hf1,hf2⟩:=hn;subst h1;rw[mD ho (n8 hr0 hw)];have hex:execOp (Frame.eval ⟨s.fn,tmps,.inRegion ops (i'::rest)::kk,defs,.run,kind,none⟩) o=Sem.bind (Instr.loadAt t' (.pointer (some ad))) (λv=>pure (Next.value v)):=by simp only[execOp,hop,hx'];rfl
         have hload:(Sem.bind (Instr.loadAt t' (.pointer (some ad))) (λv=>(pure (Next.value v):Sem Next))).runT P w #[]=(.ok (.value v) w,#[⟨.cell ad,false,false⟩]):=by
          have e0:Instr.loadAt t' (.pointer (some ad))=Sem.bind (isAgg t') (λb=>if b=true then Sem.bind (sizeOf t') (λn=>Sem.bind (loadCells ad n) (λc=>pure (.agg c)))else load ad):=rfl
          rw[e0]
          have e1:Sem.bind (Sem.bind (isAgg t') (λb=>if b=true then Sem.bind (sizeOf t') (λn=>Sem.bind (loadCells ad n) (λc=>pure (.agg c)))else load ad)) (λv=>(pure (Next.value v):Sem Next))=
           Sem.bind (isAgg t') (λb=>Sem.bind (if b=true then Sem.bind (sizeOf t') (λn=>Sem.bind (loadCells ad n) (λc=>pure (.agg c)))else load ad) (λv=>(pure (Next.value v):Sem Next))):=bind_assoc (m:=Sem) _ _ _
          rw[e1,G3 _ ha];show(Sem.bind (load ad) (λv=>(pure (Next.value v):Sem Next))).runT P w #[]=_
          unfold load;show Sem.runT P (Sem.load .plain ad λv=>pure (Next.value v)) w #[]=_
          simp only[Sem.runT,hc];rfl
         rw[hex]
         have hq:seen P s.fn #[⟨.cell ad,false,false⟩]=#[]:=by rw[seen_def];simp[hf1,hf2,seenStep]
         simp only[stepG.apply,if_true,hload,GStep.after]
         by_cases hk:(kind==CallKind.early)=true
         . simp[hk,fV,G]
         . simp[hk,hq,G]
       . cases h
     . cases h
   . cases h
 . cases h
def jU(s:jf):Option (TypeId × TypeId × SV):=
 match s.mode,s.todo with
 | .run,.inRegion ops (i::_)::_=>match ops[i]? with
   | some o=>match xh ops s.env o with
     | some true=>match o.op with
       |.convert a b x=>some (a,b,sv s.env x)
       |_=>none
     |_=>none
   |none=>none
 |_,_=>none
theorem r9{a b t:TypeId}{ad:Addr}(hr:FR y s fr)(h:jU s=some (a,b,.lit (.pointer (some ad))))(h1:P.underlying a=some (.pointer t))(h2:P.underlying b=some .unsafePointer)(h3:(P.info? t).map (λi=>decide (i.size=0))=some false)(hc:∃v,w.cell? ad=some v):
 stepG P main (G fr cs) w=.go (G (fr.finish (.pointer (some ad))) cs) w #[]:=by
 obtain⟨v,hc⟩:=hc;have hr0:=hr;obtain⟨fn,tmps,todo,defs,mode,kind,ro⟩:=fr;obtain⟨g1,g2,g3,g4,g5,g6,g7,g8⟩:=hr;simp only at g1 g2 g3 g4 g5 g6 g7 g8;subst g6;unfold jU at h;split at h
 . rename_i ops i' rest kk hm ht'
   rw[hm]at g4;rw[ht']at g2;have g4:mode=.run:=g4;subst g4;subst g2;split at h
   . rename_i o ho
     split at h
     . rename_i hw
       split at h
       . rename_i a' b' x hop
         simp only[Option.some.injEq,Prod.mk.injEq]at h;obtain⟨rfl,rfl,hx⟩:=h;have hx':=hr0.sv x;rw[hx]at hx';have hx':Frame.eval ⟨fn,tmps,.inRegion ops (i'::rest)::kk,defs,.run,kind,none⟩ x=.pointer (some ad):=hx';rw[mD ho (n8 hr0 hw)];have hex:execOp (Frame.eval ⟨fn,tmps,.inRegion ops (i'::rest)::kk,defs,.run,kind,none⟩) o=(do pure (.value (<-convert a' b' (.pointer (some ad)))):Sem Next):=by simp only[execOp,hop,hx']
         have e1:=run_convert_to_unsafe h1 h2 h3 hc;have e2:=events_convert_to_unsafe h1 h2 h3 hc #[];rw[hex];simp[stepG.apply,e1,e2,GStep.after,fV,G,Result.andThen,Result.evThen]
       . cases h
     . cases h
   . cases h
 . cases h
end
def dl(P:Program)(f:FuncId)(args:List SV)(kind:CallKind):jf:=
 match P.funcs[f]? with
 |some fn=>⟨f,[.code (fn.body.getD .skip)],args++List.replicate (fn.ntmps-args.length) .bL,[],.run,kind⟩
 |none=>⟨f,[],args,[],.run,kind⟩
abbrev cy:=jf × List jf
def next(P:Program)(fl:Fl)(c:cy)(v:SV):cy:=match vb c.1 v with|some s=>sgo P fl 400 s c.2|none=>c
def pt(b o:Nat):SV:=.lit (.pointer (some ⟨b,o,none⟩))
def un:SV:=.lit (.tuple #[])
def tt:SV:=.lit (.bool true)
def ff:SV:=.lit (.bool false)
def Dt(live:List Nat)(env:List SV):List SV:=(List.range env.length).zipWith (λi v=>if live.contains i then v else .bL) env
def keep(live:List Nat)(s:jf):jf:={s with env:=Dt live s.env}
def G4(env:List SV):List (Nat × SV)->List SV
 |[]=>env
 |(i,v)::l=>G4 (env.set i v) l
theorem FR.keep{y:Sy}{s:jf}{fr:Frame}(h:FR y s fr)(live:List Nat):FR y (keep live s) fr:=by
 refine⟨h.fn,h.todo,h.defers,h.mode,h.kind,h.ro,?_,λt=>?_⟩
 . rw[h.size]
   show s.env.length=(Dt live s.env).length;rw[Dt,List.length_zipWith,List.length_range,Nat.min_self]
 . have:=h.env t
   simp only[Go.aN.keep,Dt];rw[List.getD_eq_getElem?_getD,List.getElem?_zipWith];by_cases ht:t<s.env.length
   . rw[List.getElem?_range ht,List.getElem?_eq_getElem ht]
     simp only[Option.getD_some];split
     . rw[List.getD_eq_getElem?_getD,List.getElem?_eq_getElem ht]at this
       exact this
     . trivial
   . rw[List.getElem?_eq_none (by rw[List.length_range];exact Nat.le_of_not_lt ht)]
     trivial
def plain:SV->Bool
 |.bL=>true
 |.lit _=>true
 |_=>false
theorem FR.fW{y y':Sy}{s:jf}{fr:Frame}(h:FR y s fr)(hp:s.env.all plain=true):FR y' s fr:=by
 refine⟨h.fn,h.todo,h.defers,h.mode,h.kind,h.ro,h.size,λt=>?_⟩;have h1:=h.env t
 have h2:plain (s.env.getD t .bL)=true:=by
  rw[List.getD_eq_getElem?_getD];cases q:s.env[t]? with
  |none=>rfl
  |some v=>exact List.all_eq_true.1 hp v (List.mem_of_getElem? q)
 generalize s.env.getD t .bL=v at *;cases v<;>simp_all [plain,SR]
structure xp where
 lock:Nat
 unlock:Nat
 NO:Nat
 tY:Nat
 LX:Nat
 K8:Nat
 iV:Nat
 en:Nat
 acq:Nat
 rel:Nat
 jS:Nat
 add:Nat
 EI:Nat
 sa:Nat
 nano:Nat
 Cp:Nat
 mU:Nat
 tM:Nat
 tU:Nat
 tI:Nat
def Pr(c:cy):List Nat:=[c.1.fn,c.1.todo.length,(match c.1.todo with|.inRegion ops (i::_)::_=>i|_=>999),(match aR c.1 with|some (f,_)=>f|none=>match pf c.1 with|some (t,_)=>1000+t|none=>999)]++c.2.map (·.fn)
def kD:Fl:=⟨false,false,false,false,false,false⟩
def G5(P:Program)(f:Fl):Nat->jf->List jf->cy
 |0,fr,st=>(fr,st)
 | n + 1,fr,st=>match ss P f fr st with
   | some (fr',st')=>match fr'.todo with
     |.code _::.inLoop _::_=>(fr',st')
     |_=>G5 P f n fr' st'
   |none=>(fr,st)
def Aw(live:List Nat)(c:cy):cy:=(keep live c.1,c.2.map (keep []))
def aH(P:Program)(fl:Fl)(live:List Nat)(c:cy)(v:SV):Option cy:=(vb c.1 v).map λs=>Aw live (sgo P fl 400 s c.2)
def oa(P:Program)(fl:Fl)(live:List Nat)(c:cy)(v:SV):Option cy:=(vb c.1 v).map λs=>Aw live (G5 P fl 400 s c.2)
def NP(P:Program)(fl:Fl)(live:List Nat)(c:cy):cy:=Aw live (sgo P fl 400 c.1 c.2)
def bl(x:Bool):SV:=.lit (.bool x)
def i64(n:Int):SV:=.lit (.int .i64 n)
def i32(n:Int):SV:=.lit (.int .i32 n)
def jk(n:Nat):List SV:=List.replicate n .bL
section
variable(P:Program)(n:xp)(b o:Nat)(kind:CallKind)
def wf:SV:=.word false false false 0
def wl:SV:=.word true false false 0
def Ps:cy:=Aw [0] (sgo P kD 400 (dl P n.lock [pt b o] kind) [])
def G6:cy:=next P kD (Ps P n b o kind) un
def NQ:cy:=next P kD (G6 P n b o kind) tt
def NR:cy:=next P kD (NQ P n b o kind) un
def Pt:cy:=next P kD (NR P n b o kind) (pt b o)
def Cq:cy:=next P kD (G6 P n b o kind) ff
def RW:cy:=(oa P kD [] (Cq P n b o kind) wf).getD (Cq P n b o kind)
def Pu:cy:=next P kD (Cq P n b o kind) wl
def Qn:cy:=next P kD (Pu P n b o kind) tt
def Qo:cy:=next P kD (Qn P n b o kind) tt
def Pv:cy:=next P kD (Qo P n b o kind) un
def LY:cy:=next P kD (Pu P n b o kind) ff
def Pw:cy:=next P kD (LY P n b o kind) ff
def NS:cy:=next P kD (next P kD (Cq P n b o kind) wf) tt
def NT:cy:=next P kD (NS P n b o kind) un
def Px:cy:=next P kD (NT P n b o kind) (pt b o)
def Qp:cy:=next P kD (LY P n b o kind) tt
def Qq:cy:=next P kD (Qp P n b o kind) .EG
def Qr:cy:=next P kD (Qq P n b o kind) un
def Qs:cy:=next P kD (Qr P n b o kind) .now
def RX:cy:=next P kD (Qs P n b o kind) (.word false false true 0)
def NU:List jf:=(Ps P n b o kind).2
def O9:List jf:=(Cq P n b o kind).2.map (keep [])
def lD(td:List Item)(l:List (Nat × SV)):cy:=(⟨n.NO,td,G4 (jk 13) l,[],.run,.normal⟩,NU P n b o kind)
def cq(td:List Item)(l:List (Nat × SV)):cy:=(⟨n.LX,td,G4 (jk 139) l,[],.run,.normal⟩,O9 P n b o kind)
def LD:cy:=Ps P n b o kind
def sb:cy:=lD P n b o kind (G6 P n b o kind).1.todo [(0,pt b o),(5,pt b o)]
def K9:cy:=lD P n b o kind (NQ P n b o kind).1.todo [(0,pt b o)]
def M7:cy:=lD P n b o kind (NR P n b o kind).1.todo [(8,pt b o)]
def La:cy:=lD P n b o kind (Pt P n b o kind).1.todo [(9,pt b o)]
def BK:cy:=(⟨n.lock,[],jk 6,[],.ret,kind⟩,[])
def Lb(aw sv:Bool)(it:Int):List (Nat × SV):=[(0,pt b o),(2,.EG),(3,bl sv),(4,bl aw),(5,i64 it)]
def Pa:cy:=cq P n b o kind (Cq P n b o kind).1.todo [(0,pt b o),(2,i64 0),(3,ff),(4,ff),(5,i64 0),(12,pt b o)]
def LZ(aw sv:Bool)(it:Int):cy:=cq P n b o kind (Cq P n b o kind).1.todo (Lb b o aw sv it++[(12,pt b o)])
def Du(aw sv:Bool)(it:Int):cy:=cq P n b o kind (Pv P n b o kind).1.todo (Lb b o aw sv it++[(47,pt b o)])
def L0(aw sv:Bool)(it:Int):cy:=cq P n b o kind (Pw P n b o kind).1.todo (Lb b o aw sv it++[(133,pt b o)])
def HD(L K S aw sv:Bool)(it:Int):cy:=cq P n b o kind (RW P n b o kind).1.todo (Lb b o aw sv it++[(6,.word L K S 0)])
def SQ(K aw sv:Bool)(it:Int):cy:=cq P n b o kind (Pu P n b o kind).1.todo (Lb b o aw sv it++[(6,.word true K false 0),(17,tt),(18,i64 it)])
def SW(it:Int):cy:=cq P n b o kind (Qn P n b o kind).1.todo (Lb b o false false it++[(33,tt),(36,pt b o),(37,.word true false false 0),(39,.word true true false 0)])
def DS(aw sv:Bool)(it:Int):cy:=cq P n b o kind (Qo P n b o kind).1.todo (Lb b o aw sv it)
def J1(L K S aw sv:Bool):SV:=.word (L||!S) (if aw then false else K) (S||(sv && L)) (if L||S then 1 else 0)
def Ax(L K S aw sv:Bool)(it:Int):cy:=cq P n b o kind (LY P n b o kind).1.todo (Lb b o aw sv it++[(6,.word L K S 0),(77,pt b o),(78,.word L K S 0),(79,J1 L K S aw sv)])
def T1(sv:Bool):cy:=cq P n b o kind (Qp P n b o kind).1.todo [(0,pt b o),(3,bl sv)]
def PK(sv:Bool):cy:=cq P n b o kind (Qq P n b o kind).1.todo [(0,pt b o),(2,.EG),(3,bl sv),(91,pt b (o+1))]
def TQ:cy:=cq P n b o kind (Qr P n b o kind).1.todo [(0,pt b o),(2,.EG),(95,ff)]
def UP(sv:Bool):cy:=cq P n b o kind (Qs P n b o kind).1.todo [(0,pt b o),(2,.EG),(3,bl sv),(103,pt b o)]
def AD(d:Int):cy:=cq P n b o kind (RX P n b o kind).1.todo [(0,pt b o),(128,pt b o),(129,i32 d)]
def Jy:cy:=cq P n b o kind (NS P n b o kind).1.todo [(0,pt b o)]
def M8:cy:=cq P n b o kind (NT P n b o kind).1.todo [(136,pt b o)]
def Lc:cy:=cq P n b o kind (Px P n b o kind).1.todo [(137,pt b o)]
def Py:cy:=Aw [0,5] (sgo P kD 400 (dl P n.unlock [pt b o] kind) [])
def NV:cy:=next P kD (Py P n b o kind) .bL
def Qt:cy:=next P kD (NV P n b o kind) (pt b o)
def Qu:cy:=next P kD (Qt P n b o kind) un
def Dv:cy:=next P kD (Qu P n b o kind) un
def RY:cy:=next P {kD with n0:=true} (Dv P n b o kind) wf
def Pb:cy:=next P kD (Dv P n b o kind) wf
def RZ:cy:=next P kD (Dv P n b o kind) (.word false false true 0)
def R1:cy:=next P kD (Pb P n b o kind) tt
def Pz:cy:=next P kD (Pb P n b o kind) ff
def NW:List jf:=(Py P n b o kind).2
def PA:List jf:=(Pb P n b o kind).2.map (keep [])
def nz(td:List Item)(l:List (Nat × SV)):cy:=(⟨n.tY,td,G4 (jk 21) l,[],.run,.normal⟩,NW P n b o kind)
def tg(td:List Item)(l:List (Nat × SV)):cy:=(⟨n.K8,td,G4 (jk 43) l,[],.run,.normal⟩,PA P n b o kind)
def U0:cy:=Py P n b o kind
def M9:cy:=nz P n b o kind (NV P n b o kind).1.todo [(0,pt b o),(7,pt b o)]
def UR:cy:=nz P n b o kind (Qt P n b o kind).1.todo [(0,pt b o),(8,pt b o)]
def UD:cy:=nz P n b o kind (Qu P n b o kind).1.todo [(0,pt b o)]
def qe:cy:=nz P n b o kind (Dv P n b o kind).1.todo [(0,pt b o),(13,pt b o),(14,.bL)]
def UE:cy:=nz P n b o kind (RY P n b o kind).1.todo []
def UC:cy:=tg P n b o kind (Pb P n b o kind).1.todo [(0,pt b o),(27,pt b o),(28,wf),(29,.word false true false (-1))]
def G7:cy:=tg P n b o kind (R1 P n b o kind).1.todo [(33,pt b (o+1))]
def G9:cy:=tg P n b o kind (RZ P n b o kind).1.todo [(41,pt b (o+1))]
def Jz:cy:=tg P n b o kind (Pz P n b o kind).1.todo [(0,pt b o),(37,pt b o)]
def NX:cy:=(⟨n.unlock,[],jk 6,[],.ret,kind⟩,[])
end
structure iy(P:Program)(n:xp):Prop where
 e1:∀(fl:Fl) b o kind,aH P fl [0,5] (LD P n b o kind) un=some (sb P n b o kind)
 e2:∀(fl:Fl) b o kind,aH P fl [0] (sb P n b o kind) tt=some (K9 P n b o kind)
 e3:∀(fl:Fl) b o kind,aH P fl [0,2,3,4,5,12] (sb P n b o kind) ff=some (Pa P n b o kind)
 e4:∀(fl:Fl) b o kind,aH P fl [8] (K9 P n b o kind) un=some (M7 P n b o kind)
 e5:∀(fl:Fl) b o kind,aH P fl [9] (M7 P n b o kind) (pt b o)=some (La P n b o kind)
 e6:∀(fl:Fl) b o kind,aH P fl [] (La P n b o kind) un=some (BK n kind)
 Qv:∀(fl:Fl) b o kind L K S aw sv it,oa P fl [0,2,3,4,5,6] (LZ P n b o kind aw sv it) (.word L K S 0)=some (HD P n b o kind L K S aw sv it)
 Qw:∀(fl:Fl) b o kind L K S aw sv it,oa P fl [0,2,3,4,5,6] (Du P n b o kind aw sv it) (.word L K S 0)=some (HD P n b o kind L K S aw sv it)
 Qx:∀(fl:Fl) b o kind L K S aw sv it,oa P fl [0,2,3,4,5,6] (L0 P n b o kind aw sv it) (.word L K S 0)=some (HD P n b o kind L K S aw sv it)
 e8:∀(fl:Fl) b o kind K aw sv it,NP P fl [0,2,3,4,5,6,17,18] (HD P n b o kind true K false aw sv it)=SQ P n b o kind K aw sv it
 e9:∀(fl:Fl) b o kind L K S aw sv it,(L && !S)=false->(aw && !K)=false->NP P fl [0,2,3,4,5,6,77,78,79] (HD P n b o kind L K S aw sv it)=Ax P n b o kind L K S aw sv it
 aJ:∀(fl:Fl) b o kind it,aH P {fl with n0:=false} [0,2,3,4,5,33,36,37,39] (SQ P n b o kind false false false it) tt=some (SW P n b o kind it)
 NY:∀(fl:Fl) b o kind n0 K aw sv it,(!aw && !K && !n0)=false->aH P {fl with n0:=n0} [0,2,3,4,5] (SQ P n b o kind K aw sv it) tt=some (DS P n b o kind aw sv it)
 aI:∀(fl:Fl) b o kind K aw sv it,(aw && !K)=false->aH P fl [0,2,3,4,5,6,77,78,79] (SQ P n b o kind K aw sv it) ff=some (Ax P n b o kind true K false aw sv it)
 bh:∀(fl:Fl) b o kind r it,aH P fl [0,2,3,4,5] (SW P n b o kind it) (bl r)=some (DS P n b o kind r false it)
 Cr:∀(fl:Fl) b o kind aw sv,aH P fl [0,2,3,4,5,47] (DS P n b o kind aw sv 0) un=some (Du P n b o kind aw sv 1)
 Cs:∀(fl:Fl) b o kind aw sv,aH P fl [0,2,3,4,5,47] (DS P n b o kind aw sv 1) un=some (Du P n b o kind aw sv 2)
 NZ:∀(fl:Fl) b o kind aw sv,aH P fl [0,2,3,4,5,47] (DS P n b o kind aw sv 2) un=some (Du P n b o kind aw sv 3)
 N1:∀(fl:Fl) b o kind aw sv,aH P fl [0,2,3,4,5,47] (DS P n b o kind aw sv 3) un=some (Du P n b o kind aw sv 4)
 eM:∀(fl:Fl) b o kind K aw sv it,aH P fl [0] (Ax P n b o kind false K false aw sv it) tt=some (Jy P n b o kind)
 N2:∀(fl:Fl) b o kind L K S aw sv it,(L||S)=true->aH P {fl with wz:=true} [0,3] (Ax P n b o kind L K S aw sv it) tt=some (T1 P n b o kind sv)
 N3:∀(fl:Fl) b o kind L K S aw sv it,(L||S)=true->aH P {fl with wz:=false} [0,2,3,91] (Ax P n b o kind L K S aw sv it) tt=some (PK P n b o kind sv)
 je:∀(fl:Fl) b o kind L K S aw sv it,aH P fl [0,2,3,4,5,133] (Ax P n b o kind L K S aw sv it) ff=some (L0 P n b o kind aw sv it)
 Al:∀(fl:Fl) b o kind sv,aH P fl [0,2,3,91] (T1 P n b o kind sv) .EG=some (PK P n b o kind sv)
 N4:∀(fl:Fl) b o kind,aH P fl [0,2,3,103] (PK P n b o kind true) un=some (UP P n b o kind true)
 N5:∀(fl:Fl) b o kind,aH P fl [0,2,95] (PK P n b o kind false) un=some (TQ P n b o kind)
 JA:∀(fl:Fl) b o kind x,aH P {fl with tb:=x} [0,2,3,103] (TQ P n b o kind) .now=some (UP P n b o kind x)
 Qy:∀(fl:Fl) b o kind sv n1,aH P {fl with n0:=false,n1:=n1} [0,128,129] (UP P n b o kind sv) (.word false false true 0)=some (AD P n b o kind (if !sv||n1 then -11 else -7))
 tW:∀(fl:Fl) b o kind L K sv,oa P fl [0,2,3,4,5,6] (UP P n b o kind sv) (.word L K false 0)=some (HD P n b o kind L K false true sv 0)
 v5:∀(fl:Fl) b o kind d,aH P fl [0] (AD P n b o kind d) .bL=some (Jy P n b o kind)
 Qz:∀(fl:Fl) b o kind,aH P fl [136] (Jy P n b o kind) un=some (M8 P n b o kind)
 QA:∀(fl:Fl) b o kind,aH P fl [137] (M8 P n b o kind) (pt b o)=some (Lc P n b o kind)
 Ad:∀(fl:Fl) b o kind,aH P fl [] (Lc P n b o kind) un=some (BK n kind)
 u1:∀(fl:Fl) b o kind,aH P fl [0,7] (U0 P n b o kind) .bL=some (M9 P n b o kind)
 u2:∀(fl:Fl) b o kind,aH P fl [0,8] (M9 P n b o kind) (pt b o)=some (UR P n b o kind)
 u3:∀(fl:Fl) b o kind,aH P fl [0] (UR P n b o kind) un=some (UD P n b o kind)
 u4:∀(fl:Fl) b o kind,aH P fl [0,13] (UD P n b o kind) un=some (qe P n b o kind)
 u5:∀(fl:Fl) b o kind n0 K,(n0||K)=true->aH P {fl with n0:=n0} [] (qe P n b o kind) (.word false K false 0)=some (UE P n b o kind)
 QB:∀(fl:Fl) b o kind n0 K,aH P {fl with n0:=n0} [41] (qe P n b o kind) (.word false K true 0)=some (G9 P n b o kind)
 QC:∀(fl:Fl) b o kind,aH P {fl with n0:=false} [0,27,28,29] (qe P n b o kind) (.word false false false 0)=some (UC P n b o kind)
 QD:∀(fl:Fl) b o kind,aH P fl [33] (UC P n b o kind) tt=some (G7 P n b o kind)
 QE:∀(fl:Fl) b o kind,aH P fl [0,37] (UC P n b o kind) ff=some (Jz P n b o kind)
 u7:∀(fl:Fl) b o kind n0 L K S,(n0||L||K||S)=true->aH P {fl with n0:=n0} [] (Jz P n b o kind) (.word L K S 0)=some (UE P n b o kind)
 QF:∀(fl:Fl) b o kind,aH P {fl with n0:=false} [0,27,28,29] (Jz P n b o kind) (.word false false false 0)=some (UC P n b o kind)
 u8:∀(fl:Fl) b o kind,aH P fl [] (G7 P n b o kind) un=some (UE P n b o kind)
 u9:∀(fl:Fl) b o kind,aH P fl [] (G9 P n b o kind) un=some (UE P n b o kind)
 QG:∀(fl:Fl) b o kind,aH P fl [] (UE P n b o kind) un=some (NX n kind)
 o1:∀b o kind,aR (LD P n b o kind).1=some (n.iV,[])/\(LD P n b o kind).1.kind=.normal
 o2:∀b o kind,aR (sb P n b o kind).1=some (n.jS,[pt b o,i32 0,i32 1])
 o3:∀b o kind,aR (K9 P n b o kind).1=some (n.en,[])
 o4:∀b o kind,jU (M7 P n b o kind).1=some (n.tM,n.tU,pt b o)
 o5:∀b o kind,aR (La P n b o kind).1=some (n.acq,[pt b o])
 QH:∀b o kind aw sv it,pf (LZ P n b o kind aw sv it).1=some (n.tI,pt b o)
 QI:∀b o kind aw sv it,pf (Du P n b o kind aw sv it).1=some (n.tI,pt b o)
 QJ:∀b o kind aw sv it,pf (L0 P n b o kind aw sv it).1=some (n.tI,pt b o)
 o7:∀b o kind K aw sv it,aR (SQ P n b o kind K aw sv it).1=some (n.EI,[i64 it])
 o8:∀b o kind it,aR (SW P n b o kind it).1=some (n.jS,[pt b o,.word true false false 0,.word true true false 0])
 o9:∀b o kind aw sv it,aR (DS P n b o kind aw sv it).1=some (n.sa,[])
 PB:∀b o kind L K S aw sv it,aR (Ax P n b o kind L K S aw sv it).1=some (n.jS,[pt b o,.word L K S 0,J1 L K S aw sv])
 QK:∀b o kind sv,aR (T1 P n b o kind sv).1=some (n.nano,[])
 PC:∀b o kind sv,aR (PK P n b o kind sv).1=some (n.Cp,[pt b (o+1),.bL,i64 2])
 QL:∀b o kind,aR (TQ P n b o kind).1=some (n.nano,[])
 QM:∀b o kind sv,pf (UP P n b o kind sv).1=some (n.tI,pt b o)
 QN:∀b o kind d,aR (AD P n b o kind d).1=some (n.add,[pt b o,i32 d])
 QO:∀b o kind,aR (Jy P n b o kind).1=some (n.en,[])
 QP:∀b o kind,jU (M8 P n b o kind).1=some (n.tM,n.tU,pt b o)
 QQ:∀b o kind,aR (Lc P n b o kind).1=some (n.acq,[pt b o])
 PD:∀b o kind,pf (U0 P n b o kind).1=some (n.tI,pt b o)/\(U0 P n b o kind).1.kind=.normal/\(U0 P n b o kind).1.fn=n.tY
 QR:∀b o kind,jU (M9 P n b o kind).1=some (n.tM,n.tU,pt b o)
 QS:∀b o kind,aR (UR P n b o kind).1=some (n.rel,[pt b o])
 QT:∀b o kind,aR (UD P n b o kind).1=some (n.iV,[])
 PE:∀b o kind,aR (qe P n b o kind).1=some (n.add,[pt b o,i32 (-1)])
 PF:∀b o kind,aR (UC P n b o kind).1=some (n.jS,[pt b o,wf,.word false true false (-1)])
 PG:∀b o kind,aR (G7 P n b o kind).1=some (n.mU,[pt b (o+1),ff,i64 2])
 PH:∀b o kind,aR (G9 P n b o kind).1=some (n.mU,[pt b (o+1),tt,i64 2])
 QU:∀b o kind,pf (Jz P n b o kind).1=some (n.tI,pt b o)
 QV:∀b o kind,aR (UE P n b o kind).1=some (n.en,[])
 p1:∀b o kind,(NU P n b o kind).all (·.env.all plain)=true/\(LD P n b o kind).1.env.all plain=true/\(LD P n b o kind).2=NU P n b o kind
 p2:∀b o kind,(O9 P n b o kind).all (·.env.all plain)=true
 p3:∀b o kind,(NW P n b o kind).all (·.env.all plain)=true/\(U0 P n b o kind).1.env.all plain=true/\(U0 P n b o kind).2=NW P n b o kind
 p4:∀b o kind,(PA P n b o kind).all (·.env.all plain)=true
structure iz(P:Program)(n:xp):Prop where
 iV:Ext P n.iV (λ_=>do mark .disable;pure Extern.Race.none_)
 en:Ext P n.en (λ_=>do mark .enable;pure Extern.Race.none_)
 acq:Ext P n.acq (Extern.Race.marked .acquire)
 rel:Ext P n.rel (Extern.Race.marked .releaseMerge)
 jS:Ext P n.jS (Extern.Atomic.casT (.int .i32))
 add:Ext P n.add (Extern.Atomic.update (Op.intArith .add) .i32 true)
 EI:Ext P n.EI Extern.Sync.canSpin
 sa:Ext P n.sa (λ_=>pure (.tuple #[]))
 nano:Ext P n.nano Extern.OsHooks.nano
 G8:∃fn,P.funcs[n.nano]?=some fn/\fn.norace=true
 Cp:Ext P n.Cp Extern.Sync.semacquire
 mU:Ext P n.mU Extern.Sync.semrelease
 N6:lT P (isAgg n.tI)=some false
 QW:∃t,P.underlying n.tM=some (.pointer t)/\P.underlying n.tU=some .unsafePointer/\(P.info? t).map (λi=>decide (i.size=0))=some false
 nS:∃fn,P.funcs[n.LX]?=some fn/\fn.norace=true
 nU:∃fn,P.funcs[n.tY]?=some fn/\fn.norace=true
 nV:∃fn,P.funcs[n.K8]?=some fn/\fn.norace=true
def Sy.ok(y:Sy):Prop:=(0<=y.N/\y.N<=1000)/\(0<=y.c/\y.c<=1000)
def Fl.of(y:Sy):Fl:=⟨decide (y.N=0),decide (y.N=1),decide (y.c=0),decide (y.c=1),decide (y.ws=0),decide (IntKind.i64.wrap (y.tn-y.ws)>1000000)⟩
theorem Fl.Ay{y:Sy}(h:y.ok):(Fl.of y).At y:=⟨h.1,h.2,rfl,rfl,rfl,rfl,rfl,rfl⟩
def Dw:SV->Bool|.word ..=>true|.cnt=>true|_=>false
def Ha:SV->Bool|.dO _=>true|.Ds=>true|.EF=>true|_=>false
def Hb:SV->Bool|.EG=>true|.NM=>true|_=>false
def Hc:SV->Bool|.now=>true|.NM=>true|_=>false
theorem SR.re{y y':Sy}{v:SV}{x:Value}(h:SR y v x)(hN:y.N=y'.N\/Dw v=false)(hC:y.c=y'.c\/Ha v=false)(hW:y.ws=y'.ws\/Hb v=false)(hT:y.tn=y'.tn\/Hc v=false):SR y' v x:=by cases v<;>simp_all [SR,Dw,Ha,Hb,Hc]
theorem FR.re{y y':Sy}{s:jf}{fr:Frame}(h:FR y s fr)(hN:y.N=y'.N\/s.env.all (λv=>!Dw v)=true)(hC:y.c=y'.c\/s.env.all (λv=>!Ha v)=true)
 (hW:y.ws=y'.ws\/s.env.all (λv=>!Hb v)=true) (hT:y.tn=y'.tn\/s.env.all (λv=>!Hc v)=true):FR y' s fr:=by
 have key:∀(u:SV->Bool) (t:Nat),u .bL=false->s.env.all (λv=>!u v)=true->u (s.env.getD t .bL)=false:=λu t hj ha=>by
  rw[List.getD_eq_getElem?_getD];cases q:s.env[t]? with
  |none=>exact hj
  |some v=>have:=List.all_eq_true.1 ha v (List.mem_of_getElem? q);simpa using this
 exact⟨h.fn,h.todo,h.defers,h.mode,h.kind,h.ro,h.size,λt=>(h.env t).re (hN.imp id (key _ t rfl)) (hC.imp id (key _ t rfl)) (hW.imp id (key _ t rfl)) (hT.imp id (key _ t rfl))⟩
theorem lf.fW{y y':Sy}:∀{l:List jf}{fs:List Frame},lf y l fs->l.all (·.env.all plain)=true->lf y' l fs
 |[],fs,h,_=>by rw[h.kg];trivial
 |s::l,fs,h,hp=>by obtain⟨f,fs',rfl,h1,h2⟩:=h.cons_inv;simp only[List.all_cons,Bool.and_eq_true]at hp;exact⟨h1.fW hp.1,h2.fW hp.2⟩
theorem lf.keep{y:Sy}(live:List Nat):∀{l:List jf}{fs:List Frame},lf y l fs->lf y (l.map (Go.aN.keep live)) fs
 |[],fs,h=>by rw[h.kg];trivial
 |s::l,fs,h=>by obtain⟨f,fs',rfl,h1,h2⟩:=h.cons_inv;exact⟨h1.keep live,h2.keep live⟩
theorem Dx{P:Program}{Wd:World->Prop}{f:Fl}{y:Sy}(hf:f.At y):∀(n:Nat){s:jf}{st:List jf}{fr:Frame}{frs:List Frame},FR y s fr->lf y st frs ->
 ∃m fr' frs',FR y (G5 P f n s st).1 fr'/\lf y (G5 P f n s st).2 frs'/\∀cs,jG P Wd m (G fr (frs++cs)) (G fr' (frs'++cs))
 |0,s,st,fr,frs,hr,hrs=>⟨0,fr,frs,hr,hrs,λ_=>rfl⟩
 | n + 1,s,st,fr,frs,hr,hrs=>by
   unfold G5;cases e:ss P f s st with
   |none=>exact⟨0,fr,frs,hr,hrs,λ_=>rfl⟩
   | some p=>
     obtain⟨s',st'⟩:=p;obtain⟨fr',frs',h1,h2,h3⟩:=K7 hf e hr hrs;simp only;split
     . exact⟨1,fr',frs',h1,h2,λcs=>⟨_,h3 cs,rfl⟩⟩
     . obtain⟨m,fr2,frs2,h4,h5,h6⟩:=Dx hf n h1 h2
       exact⟨m+1,fr2,frs2,h4,h5,λcs=>⟨_,h3 cs,h6 cs⟩⟩
section
variable{P:Program}{Wd:World->Prop}{y:Sy}{c c':cy}{live:List Nat}{v:SV}{x:Value}{fr:Frame}{frs:List Frame}
theorem Lf(hn:aH P (Fl.of y) live c v=some c')(hy:y.ok)(hr:FR y c.1 fr)(hrs:lf y c.2 frs)(hv:SR y v x):
 ∃fr' frs',FR y c'.1 fr'/\lf y c'.2 frs'/\∀cs,qU P Wd (G (fr.finish x) (frs++cs)) (G fr' (frs'++cs)):=by
 obtain⟨s,hs,rfl⟩:=Option.map_eq_some_iff.1 hn;obtain⟨m,fr',frs',h1,h2,h3⟩:=kT (Wd:=Wd) (Fl.Ay hy) 400 (P:=P) (hr.fin hs hv) hrs;exact⟨fr',frs',h1.keep live,h2.keep [],λcs=>⟨m,h3 cs⟩⟩
theorem N7(hn:oa P (Fl.of y) live c v=some c')(hy:y.ok)(hr:FR y c.1 fr)(hrs:lf y c.2 frs)(hv:SR y v x):
 ∃fr' frs',FR y c'.1 fr'/\lf y c'.2 frs'/\∀cs,qU P Wd (G (fr.finish x) (frs++cs)) (G fr' (frs'++cs)):=by
 obtain⟨s,hs,rfl⟩:=Option.map_eq_some_iff.1 hn;obtain⟨m,fr',frs',h1,h2,h3⟩:=Dx (Wd:=Wd) (Fl.Ay hy) 400 (P:=P) (hr.fin hs hv) hrs;exact⟨fr',frs',h1.keep live,h2.keep [],λcs=>⟨m,h3 cs⟩⟩
theorem N8(hn:NP P (Fl.of y) live c=c')(hy:y.ok)(hr:FR y c.1 fr)(hrs:lf y c.2 frs):
 ∃fr' frs',FR y c'.1 fr'/\lf y c'.2 frs'/\∀cs,qU P Wd (G fr (frs++cs)) (G fr' (frs'++cs)):=by
 subst hn;obtain⟨m,fr',frs',h1,h2,h3⟩:=kT (Wd:=Wd) (Fl.Ay hy) 400 (P:=P) hr hrs;exact⟨fr',frs',h1.keep live,h2.keep [],λcs=>⟨m,h3 cs⟩⟩
end
open Mu in
inductive qW where
 |ld|gx|rd (l:Lo)|sq (old:Wd) (l:Lo)|sw (old:Wd) (l:Lo)|jS (old:Wd) (l:Lo)|t1 (sv:Bool)|fN (sv:Bool)|tq|up (sv:Bool)|add (old:Wd) (sv:Bool)|le|la|back
 |Dy|ur|ud|held|iC (old:Wd)|tF|give|ue|Az
section
variable(P:Program)(n:xp)(b o:Nat)(kind:CallKind)
def Cn(p:qW)(c:cy)(y:Sy):Prop:=
 match p with
 |.ld=>c=LD P n b o kind
 |.gx=>c=sb P n b o kind
 |.rd l=>c=LZ P n b o kind l.aw l.sv l.it\/c=Du P n b o kind l.aw l.sv l.it\/c=L0 P n b o kind l.aw l.sv l.it
 |.sq old l=>c=SQ P n b o kind old.K l.aw l.sv l.it/\y.N=old.N/\old.L=true/\old.S=false
 |.sw old l=>c=SW P n b o kind l.it/\y.N=old.N/\l.aw=false/\l.sv=false/\old.L=true/\old.K=false/\old.S=false
 |.jS old l=>c=Ax P n b o kind old.L old.K old.S l.aw l.sv l.it/\y.N=old.N
 |.t1 sv=>c=T1 P n b o kind sv
 |.fN sv=>c=PK P n b o kind sv
 |.tq=>c=TQ P n b o kind
 |.up sv=>c=UP P n b o kind sv
 |.add old sv=>c=AD P n b o kind (if !sv||decide (old.N=1)then -11 else -7)
 |.le=>c=K9 P n b o kind\/c=Jy P n b o kind
 |.la=>c=La P n b o kind\/c=Lc P n b o kind
 |.back=>c=BK n kind
 |.Dy=>c=U0 P n b o kind
 |.ur=>c=UR P n b o kind
 |.ud=>c=UD P n b o kind
 |.held=>c=qe P n b o kind
 |.iC old=>c=UC P n b o kind/\y.N=old.N/\old.L=false/\old.K=false/\old.S=false/\old.N≠0
 |.tF=>c=Jz P n b o kind
 |.give=>c=G7 P n b o kind\/c=G9 P n b o kind
 |.ue=>c=UE P n b o kind
 |.Az=>c=NX n kind
def mL(p:qW)(cs:List Frame)(g:Goroutine):Prop:=∃c y fr frs,Cn P n b o kind p c y/\y.ok/\FR y c.1 fr/\lf y c.2 frs/\g=G fr (frs++cs)
end
theorem mL.running{P:Program}{n:xp}{b o:Nat}{kind:CallKind}{p:qW}{cs:List Frame}{g:Goroutine}(h:mL P n b o kind p cs g):g.status=.running/\g.offers=none:=by obtain⟨c,y,fr,frs,_,_,_,_,rfl⟩:=h;exact⟨rfl,rfl⟩
structure ShM(b o:Nat)(w:World)(s:Mu.Sh):Prop where
 cw:w.cell? ⟨b,o,none⟩=some (.int .i32 (enc s.w.L s.w.K s.w.S s.w.N))
 cs:w.cell? ⟨b,o+1,none⟩=some (.int .u32 s.ms)
 fz:∀i,w.frozen? ⟨b,i,none⟩=false
def MW(b o:Nat)(w w':World):Prop:=(ll w.os w'.os/\w'.output=w.output)/\(w'.heap=w.heap\/∃i v,(i=o\/i=o+1)/\flat v=true/\w'.heap=(w.setCell ⟨b,i,none⟩ v).heap)
def EvM(b o:Nat)(es:Array Event):Prop:=∀e∈es,(e.loc=.mark .disable\/e.loc=.mark .enable)\/(∃i,(i=o\/i=o+1)/\e.loc=.cell ⟨b,i,none⟩/\e.sync=true)
theorem oV{w w':World}(h:w'.heap=w.heap)(a:Addr):w'.cell? a=w.cell? a/\w'.frozen? a=w.frozen? a:=by simp[World.cell?,World.frozen?,h]
theorem ShM.heap{b o:Nat}{w w':World}{s:Mu.Sh}(h:ShM b o w s)(e:w'.heap=w.heap):ShM b o w' s:=⟨by rw[(oV e _).1];exact h.cw,by rw[(oV e _).1];exact h.cs,λi=>by rw[(oV e _).2];exact h.fz i⟩
theorem ju{w:World}{b i:Nat}{u v:Value}(h:w.cell? ⟨b,i,none⟩=some u):(w.setCell ⟨b,i,none⟩ v).cell? ⟨b,i,none⟩=some v:=by
 unfold World.cell? at h ⊢;unfold World.setCell;simp only[Array.getElem?_modify,if_true];cases e:w.heap[b]? with
 |none=>simp[e]at h
 | some ob=>
   rw[e]at h;cases ob<;>simp at h ⊢;rename_i c _ _;by_cases hi:i<c.size
   . simp[hi]
   . simp[hi]at h
theorem mV{w:World}{a:Addr}{v:Value}{b i:Nat}:(w.setCell a v).frozen? ⟨b,i,none⟩=w.frozen? ⟨b,i,none⟩:=by
 unfold World.frozen? World.setCell;simp only[Array.getElem?_modify];by_cases h:a.block=b
 . simp only[h,if_true]
   cases e:w.heap[b]? with
   |none=>rfl
   |some ob=>cases ob<;>simp
 . simp only[h,if_false]
theorem ShM.aE{b o:Nat}{w:World}{s:Mu.Sh}(h:ShM b o w s)(w':Mu.Wd):ShM b o (w.setCell ⟨b,o,none⟩ (.int .i32 (enc w'.L w'.K w'.S w'.N))) {s with w:=w'}:=⟨ju h.cw,by rw[dQ (by simp)];exact h.cs,λi=>by rw[mV];exact h.fz i⟩
theorem ShM.Ct{b o:Nat}{w:World}{s:Mu.Sh}(h:ShM b o w s)(m:Nat):ShM b o (w.setCell ⟨b,o+1,none⟩ (.int .u32 m)) {s with ms:=m}:=⟨by rw[dQ (by simp)];exact h.cw,ju h.cs,λi=>by rw[mV];exact h.fz i⟩
theorem fq{b o:Nat}:EvM b o #[]:=λe h=>by simp at h
theorem Dz{b o i:Nat}(hi:i=o\/i=o+1):EvM b o #[⟨.cell ⟨b,i,none⟩,false,true⟩]:=λe h=>by simp at h;subst h;exact .inr ⟨i,hi,rfl,rfl⟩
theorem jV{b o i:Nat}(hi:i=o\/i=o+1):EvM b o #[⟨.cell ⟨b,i,none⟩,false,true⟩,⟨.cell ⟨b,i,none⟩,true,true⟩]:=λe h=>by simp at h;rcases h with rfl|rfl<;>exact .inr ⟨i,hi,rfl,rfl⟩
theorem tZ{b o:Nat}:EvM b o (semEvents ⟨b,o+1,none⟩):=λe h=>by
 simp[semEvents]at h;rcases h with rfl|rfl|rfl|rfl
 . exact .inl (.inl rfl)
 . exact .inr ⟨o+1,.inr rfl,rfl,rfl⟩
 . exact .inr ⟨o+1,.inr rfl,rfl,rfl⟩
 . exact .inl (.inr rfl)
section
variable{P:Program}{n:xp}(C:iy P n)(X:iz P n){b o:Nat}{kind:CallKind}{Wd:World->Prop}{cs:List Frame}{g:Goroutine}{w:World}{main:Bool}
variable(hWd:∀w,Wd w->∃v,w.cell? ⟨b,o,none⟩=some v)
def Next(P:Program)(n:xp)(b o:Nat)(kind:CallKind)(Wd:World->Prop)(cs:List Frame)(p:qW)(g1:Goroutine):Prop:=g1.status=.running/\∃g2,qU P Wd g1 g2/\mL P n b o kind p cs g2
theorem nxt{y:Sy}{c c':cy}{live:List Nat}{v:SV}{x:Value}{fr:Frame}{frs:List Frame}{p:qW}(hn:aH P (Fl.of y) live c v=some c')(hy:y.ok)(hr:FR y c.1 fr)(hrs:lf y c.2 frs)(hv:SR y v x)(hA:Cn P n b o kind p c' y):
 Next P n b o kind Wd cs p (G (fr.finish x) (frs++cs)):=by
 obtain⟨fr',frs',h1,h2,h3⟩:=Lf (Wd:=Wd) hn hy hr hrs hv;exact⟨rfl,_,h3 cs,c',y,fr',frs',hA,hy,h1,h2,rfl⟩
def y0:Sy:=⟨2,2,1,0⟩
theorem qX:y0.ok:=by unfold Sy.ok y0;decide
theorem Cu(hf:∃fn body,P.funcs[n.lock]?=some fn/\fn.body=some body/\fn.ntmps=6):∃g2,qU P Wd (G (Frame.enter P n.lock #[.pointer (some ⟨b,o,none⟩)] kind) cs) g2/\mL P n b o kind .ld cs g2:=by
 obtain⟨fn,body,h1,h2,h3⟩:=hf
 have hs:FR y0 (dl P n.lock [pt b o] kind) (Frame.enter P n.lock #[.pointer (some ⟨b,o,none⟩)] kind):=by
  refine⟨by simp[dl,h1,Frame.enter],by simp[dl,h1,h2,Frame.enter],by simp[dl,h1,Frame.enter],by simp[dl,h1,Frame.enter,Aq.of],by simp[dl,h1,Frame.enter],rfl,by simp[dl,h1,h3,Frame.enter],λt=>?_⟩
  simp only[dl,h1,Frame.enter,h3,Option.map_some,Option.getD_some]
  match t with
  |0=>rfl
  |1|2|3|4|5=>trivial
  | t+6=>
    have:([pt b o]++List.replicate (6 - [pt b o].length) SV.bL).getD (t+6) .bL=.bL:=by rw[List.getD_eq_getElem?_getD,List.getElem?_eq_none (by simp[pt])];rfl
    rw[this];trivial
 obtain⟨m,fr',frs',e1,e2,e3⟩:=kT (Wd:=Wd) (P:=P) (f:=kD) (y:=y0) ⟨by decide,by decide,rfl,rfl,rfl,rfl,rfl,by decide⟩ 400 hs (st:=[]) (frs:=[]) trivial
 have e4:=e3 cs;exact⟨_,⟨m,e4⟩,_,y0,fr',frs',rfl,qX,e1.keep [0],e2.keep [],rfl⟩
theorem Hd:∀g:FuncId,Mark.disable≠.extern g:=λg h=>by cases h
theorem He:∀g:FuncId,Mark.enable≠.extern g:=λg h=>by cases h
include C X in
theorem yH(h:mL P n b o kind .ld cs g):∃g1,stepG P main g w=.go g1 w #[⟨.mark .disable,false,true⟩]/\Next P n b o kind Wd cs .gx g1:=by obtain⟨c,y,fr,frs,rfl,hy,hr,hrs,rfl⟩:=h;exact⟨_,eo Hd hr (C.o1 b o kind).1 (by rw[show(LD P n b o kind).1.kind=_ from(C.o1 b o kind).2];decide) X.iV,nxt (C.e1 _ b o kind) hy hr hrs rfl rfl⟩
include C X in
theorem DA(h:mL P n b o kind .ud cs g):∃g1,stepG P main g w=.go g1 w #[⟨.mark .disable,false,true⟩]/\Next P n b o kind Wd cs .held g1:=by obtain⟨c,y,fr,frs,rfl,hy,hr,hrs,rfl⟩:=h;exact⟨_,eo Hd hr (C.QT b o kind) (by simp[UD,nz]) X.iV,nxt (C.u4 _ b o kind) hy hr hrs rfl rfl⟩
include C X in
theorem DB(h:mL P n b o kind .ue cs g):∃g1,stepG P main g w=.go g1 w #[⟨.mark .enable,false,true⟩]/\Next P n b o kind Wd cs .Az g1:=by obtain⟨c,y,fr,frs,rfl,hy,hr,hrs,rfl⟩:=h;exact⟨_,eo He hr (C.QV b o kind) (by simp[UE,nz]) X.en,nxt (C.QG _ b o kind) hy hr hrs rfl rfl⟩
include C X in
theorem DC(h:mL P n b o kind .ur cs g):∃g1,stepG P main g w=.go g1 w #[⟨.mark (.releaseMerge ⟨b,o,none⟩),false,true⟩]/\Next P n b o kind Wd cs .ud g1:=by obtain⟨c,y,fr,frs,rfl,hy,hr,hrs,rfl⟩:=h;exact⟨_,eU (λad g h=>by cases h) hr (C.QS b o kind) (by simp[UR,nz]) X.rel,nxt (C.u3 _ b o kind) hy hr hrs rfl rfl⟩
include C X in
theorem DD(h:mL P n b o kind .la cs g):∃g1,stepG P main g w=.go g1 w #[⟨.mark (.acquire ⟨b,o,none⟩),false,true⟩]/\Next P n b o kind Wd cs .back g1:=by
 obtain⟨c,y,fr,frs,hc,hy,hr,hrs,rfl⟩:=h;rcases hc with rfl|rfl
 . exact⟨_,eU (λad g h=>by cases h) hr (C.o5 b o kind) (by simp[La,lD]) X.acq,nxt (C.e6 _ b o kind) hy hr hrs rfl rfl⟩
 . exact⟨_,eU (λad g h=>by cases h) hr (C.QQ b o kind) (by simp[Lc,cq]) X.acq,nxt (C.Ad _ b o kind) hy hr hrs rfl rfl⟩
include X hWd in
theorem through{y:Sy}{c c':cy}{live:List Nat}{fr:Frame}{frs:List Frame}{p:qW}(hc:jU c.1=some (n.tM,n.tU,pt b o))(hn:aH P (Fl.of y) live c (pt b o)=some c')(hy:y.ok)(hr:FR y c.1 fr)(hrs:lf y c.2 frs)(hA:Cn P n b o kind p c' y):
 ∃g2,qU P Wd (G fr (frs++cs)) g2/\mL P n b o kind p cs g2:=by
 obtain⟨t,h1,h2,h3⟩:=X.QW;obtain⟨_,g2,h4,h5⟩:=nxt (P:=P) (n:=n) (b:=b) (o:=o) (kind:=kind) (Wd:=Wd) (cs:=cs) (x:=.pointer (some ⟨b,o,none⟩)) hn hy hr hrs rfl hA;refine⟨g2,qU.trans (qd.xi ⟨rfl,λmain w hw=>?_⟩) h4,h5⟩;exact r9 hr hc h1 h2 h3 (hWd w hw)
include C X hWd in
theorem DF(h:mL P n b o kind .le cs g):∃g1,stepG P main g w=.go g1 w #[⟨.mark .enable,false,true⟩]/\Next P n b o kind Wd cs .la g1:=by
 obtain⟨c,y,fr,frs,hc,hy,hr,hrs,rfl⟩:=h;rcases hc with rfl|rfl
 . refine⟨_,eo He hr (C.o3 b o kind) (by simp[K9,lD]) X.en,rfl,?_⟩
   obtain⟨fr',frs',h1,h2,h3⟩:=Lf (Wd:=Wd) (x:=.tuple #[]) (C.e4 _ b o kind) hy hr hrs rfl;obtain⟨g2,h4,h5⟩:=through X hWd (cs:=cs) (p:=.la) (C.o4 b o kind) (C.e5 _ b o kind) hy h1 h2 (.inl rfl);exact⟨g2,(h3 cs).trans h4,h5⟩
 . refine⟨_,eo He hr (C.QO b o kind) (by simp[Jy,cq]) X.en,rfl,?_⟩
   obtain⟨fr',frs',h1,h2,h3⟩:=Lf (Wd:=Wd) (x:=.tuple #[]) (C.Qz _ b o kind) hy hr hrs rfl;obtain⟨g2,h4,h5⟩:=through X hWd (cs:=cs) (p:=.la) (C.QP b o kind) (C.QA _ b o kind) hy h1 h2 (.inr rfl);exact⟨g2,(h3 cs).trans h4,h5⟩
include C X hWd in
theorem ve{v:Value}(hc:w.cell? ⟨b,o,none⟩=some v)(h:mL P n b o kind .Dy cs g):∃g1,stepG P main g w=.go g1 w #[]/\Next P n b o kind Wd cs .ur g1:=by
 obtain⟨c,y,fr,frs,rfl,hy,hr,hrs,rfl⟩:=h;refine⟨_,oU hr (C.PD b o kind).1 X.N6 (by rw[show(U0 P n b o kind).1.fn=_ from(C.PD b o kind).2.2];exact X.nU) hc,rfl,?_⟩;obtain⟨fr',frs',h1,h2,h3⟩:=Lf (Wd:=Wd) (x:=v) (C.u1 _ b o kind) hy hr hrs trivial;obtain⟨g2,h4,h5⟩:=through X hWd (cs:=cs) (p:=.ur) (C.QR b o kind) (C.u2 _ b o kind) hy h1 h2 rfl;exact⟨g2,(h3 cs).trans h4,h5⟩
include C X in
theorem J2{sv:Bool}(h:mL P n b o kind (.t1 sv) cs g):∃g1,stepG P main g w=.go g1 w.later #[]/\Next P n b o kind Wd cs (.fN sv) g1:=by
 obtain⟨c,y,fr,frs,rfl,hy,hr,hrs,rfl⟩:=h;refine⟨_,xn hr (C.QK b o kind sv) (by simp[T1,cq]) X.nano X.G8,?_⟩;have hr':=hr.re (y':={y with ws:=((w.os.mono+w.tick:Nat):Int)}) (.inl rfl) (.inl rfl) (.inr (by cases sv<;>rfl)) (.inl rfl);have hrs':=hrs.fW (y':={y with ws:=((w.os.mono+w.tick:Nat):Int)}) (by simpa[T1,cq]using C.p2 b o kind);exact nxt (y:={y with ws:=((w.os.mono+w.tick:Nat):Int)}) (x:=.int .i64 ((w.os.mono+w.tick:Nat):Int)) (C.Al _ b o kind sv) hy hr' hrs' rfl rfl
end
end Go.aN

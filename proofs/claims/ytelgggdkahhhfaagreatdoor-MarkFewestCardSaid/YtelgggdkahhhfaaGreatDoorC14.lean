/- Part 14 of the proof. -/
import Derived.Conc.ClockLaws
import Derived.Conc.MarkLaws
import Derived.Conc.AtomicLaws2
import Derived.Conc.SmallLaws
import Derived.Laws.LoneSync
import Derived.Test.YtelgggdkahhhfaaGreatDoorC13
set_option linter.all false
namespace Go.aZ
open Go.Conc
def aH (s:gi):Option (FuncId × List SV):=
 match s.mode,s.todo with
 | .run, .inRegion ops (i :: _) :: _=>match ops[i]? with
   | some o=>match ta ops s.env o with
     | some true=>match o.op with
       | .call c=>match c.callee with
         | .value (.func f)=>some (f,c.args.toList.map (sv s.env))
         | _=>none
       | _=>none
     | _=>none
   | none=>none
 | _,_=>none
def mf (s:gi):Option (TypeId × SV):=
 match s.mode,s.todo with
 | .run,.inRegion ops (i :: _) :: _=>match ops[i]? with
   | some o=>match ta ops s.env o with
     | some true=>match o.op with
       | .load t x=>some (t,sv s.env x)
       | _=>none
     | _=>none
   | none=>none
 | _,_=>none
structure Ext (P:Program) (f:FuncId) (e:Array Value->Sem Value):Prop where
 ex:∃ fn,P.funcs[f]? = some fn∧(fn.name ==  "runtime.NumGoroutine")=false∧fn.body.isNone=true∧Extern.findNext fn=none∧Extern.find fn=some e
theorem bM {y:Sy} {s:gi} {fr:Frame} {f:FuncId} {svs:List SV} (hr:FR y s fr) (h:aH s=some (f,svs)) :
 ∃ ops i rest kk o as ats,ops[i]? = some o∧Region.wanted o (yielded ops fr.tmps)=true∧o.op = .call { callee:=.value (.func f),args:=as,argTypes:=ats }∧svs=as.toList.map (sv s.env) ∧
   fr=(fr.at ⟨fr.tmps,fr.defers⟩ (.inRegion ops (i :: rest) :: kk))∧∀ v,fr.at ((⟨fr.tmps,fr.defers⟩:Act).put o.dst v) (.inRegion ops rest :: kk)=fr.finish v:=by
 have hr0:=hr;obtain⟨fn,tmps,todo,defs,mode,kind,ro⟩:=fr;obtain⟨h1,h2,h3,h4,h5,h6,h7,h8⟩:=hr;simp only at h1 h2 h3 h4 h5 h6 h7 h8;subst h6;unfold aH at h;split at h
 . rename_i ops i rest kk hm ht
   rw[hm] at h4;rw[ht] at h2;have h4:mode = .run:=h4;subst h4;subst h2;split at h
   . rename_i o ho
     split at h
     . rename_i hw
       split at h
       . rename_i c hc
         split at h
         . rename_i g hg
           simp only[Option.some.injEq,Prod.mk.injEq] at h;obtain⟨rfl,rfl⟩:=h;obtain⟨callee,args,ats⟩:=c;simp only at hg;subst hg;refine⟨ops,i,rest,kk,o,args,ats,ho,lu hr0 hw,hc,rfl,rfl,fun v=>?_⟩
           simp only[Frame.finish,ho,Option.bind_some,Act.put,Frame.at];cases o.dst <;> rfl
         . cases h
       . cases h
     . cases h
   . cases h
 . cases h
section
variable {P:Program} {main:Bool} {y:Sy} {s:gi} {fr:Frame} {f:FuncId} {svs:List SV} {cs:List Frame} {w:World}
theorem wi {fr:Frame} (x:Operand):(⟨fr.tmps,fr.defers⟩:Act).eval x=fr.eval x:=by cases x <;> rfl
theorem uS {as:Array Operand} (hr:FR y s fr) {svs:List SV} (h:svs=as.toList.map (sv s.env)):∀ (j:Nat) (v:SV),svs[j]? = some v->∃ x,(as.map (⟨fr.tmps,fr.defers⟩:Act).eval)[j]? = some x∧SR y v x:=fun j v hj=>by
 subst h;rw[List.getElem?_map,Array.getElem?_toList] at hj;obtain⟨x,hx,rfl⟩:=Option.map_eq_some_iff.1 hj;exact⟨fr.eval x,by simp[hx,wi],hr.sv x⟩
theorem cR {m:Mark} (hm:∀ g,m ≠ .extern g) (hr:FR y s fr) (h:aH s=some (f,svs)) (hk:s.kind ≠ .early) (he:Ext P f (fun _=>do mark m;pure Extern.Race.none_)):stepG P main (G fr cs) w = .go (G (fr.finish (.tuple #[])) cs) w #[⟨.mark m,false,true⟩]:=by
 obtain⟨ops,i,rest,kk,o,as,ats,h1,h2,h3,h4,h5,h6⟩:=bM hr h;obtain⟨fn,e1,e2,e3,e4,e5⟩:=he.ex;have:=stepG_mark0 (P:=P) (main:=main) (b:=fr) (a:=⟨fr.tmps,fr.defers⟩) (kk:=kk) (cs:=cs) (w:=w) (rest:=rest) m hm h1 h2 (by rw[hr.kind];exact hk) h3 e1 e2 e3 e4 e5
 rw[h6,← h5] at this;exact this
theorem dh {mk:Addr->Mark} (hm:∀ ad g,mk ad ≠ .extern g) {ad:Addr} (hr:FR y s fr) (h:aH s=some (f,[.lit (.pointer (some ad))])) (hk:s.kind ≠ .early) (he:Ext P f (Extern.Race.marked mk)):stepG P main (G fr cs) w = .go (G (fr.finish (.tuple #[])) cs) w #[⟨.mark (mk ad),false,true⟩]:=by
 obtain⟨ops,i,rest,kk,o,as,ats,h1,h2,h3,h4,h5,h6⟩:=bM hr h;obtain⟨fn,e1,e2,e3,e4,e5⟩:=he.ex;obtain⟨x,hx,hx'⟩:=uS hr h4 0 _ rfl;have hx':x = .pointer (some ad):=hx';rw[hx'] at hx;have:=stepG_markAt (P:=P) (main:=main) (b:=fr) (a:=⟨fr.tmps,fr.defers⟩) (kk:=kk) (cs:=cs) (w:=w) (rest:=rest) mk hm h1 h2 (by rw[hr.kind];exact hk) h3 e1 e2 e3 e4 e5 hx
 rw[h6,← h5] at this;exact this
theorem wj {as:Array Operand} {a b c:SV} (h:[a,b,c]=as.toList.map (sv s.env)):∃ x z u,as=#[x,z,u]∧sv s.env x=a∧sv s.env z=b∧sv s.env u=c:=by
 obtain⟨l⟩:=as
 match l,h with
 | [x,z,u],h=>simp at h;exact⟨x,z,u,rfl,h.1.symm,h.2.1.symm,h.2.2.symm⟩
theorem CR {as:Array Operand} {a b:SV} (h:[a,b]=as.toList.map (sv s.env)):∃ x z,as=#[x,z]∧sv s.env x=a∧sv s.env z=b:=by
 obtain⟨l⟩:=as
 match l,h with
 | [x,z],h=>simp at h;exact⟨x,z,rfl,h.1.symm,h.2.symm⟩
theorem CS {as:Array Operand} {a:SV} (h:[a]=as.toList.map (sv s.env)):∃ x,as=#[x]∧sv s.env x=a:=by
 obtain⟨l⟩:=as
 match l,h with
 | [x],h=>simp at h;exact⟨x,rfl,h.symm⟩
theorem eX (hr:FR y s fr) {x:Operand} {a:SV} (h:sv s.env x=a):SR y a ((⟨fr.tmps,fr.defers⟩:Act).eval x):=by
 subst h;rw[wi];exact hr.sv x
theorem dX {k:IntKind} {ad:Addr} {a b:SV} {v n:Int} (hr:FR y s fr) (h:aH s=some (f,[.lit (.pointer (some ad)),a,b])) (hk:s.kind ≠ .early) (he:Ext P f (Extern.Atomic.casT (.int k)))
 (ha:∀ x,SR y a x->x = .int k v) (hb:∀ x,SR y b x->x = .int k n) (hc:w.cell? ad=some (.int k v)) (hz:w.frozen? ad=false) :
 stepG P main (G fr cs) w = .go (G (fr.finish (.bool true)) cs) (w.setCell ad (.int k n)) #[⟨.cell ad,false,true⟩,⟨.cell ad,true,true⟩]:=by
 obtain⟨ops,i,rest,kk,o,as,ats,h1,h2,h3,h4,h5,h6⟩:=bM hr h;obtain⟨fn,e1,e2,e3,e4,e5⟩:=he.ex;obtain⟨x,z,u,rfl,hx,hz',hu⟩:=wj h4;have:=stepG_cas_hit (P:=P) (main:=main) (b:=fr) (a:=⟨fr.tmps,fr.defers⟩) (kk:=kk) (cs:=cs) (w:=w) (rest:=rest) h1 h2 (by rw[hr.kind];exact hk) h3 e1 e2 e3 e4 k e5 (eX hr hx) (ha _ (eX hr hz')) (hb _ (eX hr hu)) hc hz
 rw[h6,← h5] at this;exact this
theorem eH {k:IntKind} {ad:Addr} {a b:SV} {v old n:Int} (hr:FR y s fr) (h:aH s=some (f,[.lit (.pointer (some ad)),a,b])) (hk:s.kind ≠ .early) (he:Ext P f (Extern.Atomic.casT (.int k)))
 (ha:∀ x,SR y a x->x = .int k old) (hb:∀ x,SR y b x->x = .int k n) (hc:w.cell? ad=some (.int k v)) (hz:w.frozen? ad=false) (hne : ¬ v=old) :
 stepG P main (G fr cs) w = .go (G (fr.finish (.bool false)) cs) w #[⟨.cell ad,false,true⟩]:=by
 obtain⟨ops,i,rest,kk,o,as,ats,h1,h2,h3,h4,h5,h6⟩:=bM hr h;obtain⟨fn,e1,e2,e3,e4,e5⟩:=he.ex;obtain⟨x,z,u,rfl,hx,hz',hu⟩:=wj h4;have:=stepG_cas_miss (P:=P) (main:=main) (b:=fr) (a:=⟨fr.tmps,fr.defers⟩) (kk:=kk) (cs:=cs) (w:=w) (rest:=rest) h1 h2 (by rw[hr.kind];exact hk) h3 e1 e2 e3 e4 k e5 (eX hr hx) (ha _ (eX hr hz')) (hb _ (eX hr hu)) hc hz hne
 rw[h6,← h5] at this;exact this
theorem lw {k:IntKind} {ad:Addr} {a:SV} {v d:Int} (hr:FR y s fr) (h:aH s=some (f,[.lit (.pointer (some ad)),a])) (hk:s.kind ≠ .early) (he:Ext P f (Extern.Atomic.update (Op.intArith .add) k true))
 (ha:∀ x,SR y a x->x = .int k d) (hc:w.cell? ad=some (.int k v)) (hz:w.frozen? ad=false) :
 stepG P main (G fr cs) w = .go (G (fr.finish (.int k (k.wrap (v+d)))) cs) (w.setCell ad (.int k (k.wrap (v+d)))) #[⟨.cell ad,false,true⟩,⟨.cell ad,true,true⟩]:=by
 obtain⟨ops,i,rest,kk,o,as,ats,h1,h2,h3,h4,h5,h6⟩:=bM hr h;obtain⟨fn,e1,e2,e3,e4,e5⟩:=he.ex;obtain⟨x,z,rfl,hx,hz'⟩:=CR h4;have:=stepG_add_atomic (P:=P) (main:=main) (b:=fr) (a:=⟨fr.tmps,fr.defers⟩) (kk:=kk) (cs:=cs) (w:=w) (rest:=rest) h1 h2 (by rw[hr.kind];exact hk) h3 e1 e2 e3 e4 k e5 (eX hr hx) (ha _ (eX hr hz')) hc hz
 rw[h6,← h5] at this;exact this
theorem nD {ad:Addr} {l:List SV} {n:Int} (hr:FR y s fr) (h:aH s=some (f,.lit (.pointer (some ad)) :: l)) (hk:s.kind ≠ .early) (he:Ext P f Extern.Sync.semacquire) (hc:w.cell? ad=some (.int .u32 n)) (hn:n≠0) (hz:w.frozen? ad=false) :
 stepG P main (G fr cs) w = .go (G (fr.finish (.tuple #[])) cs) (w.setCell ad (.int .u32 (n-1))) (semEvents ad):=by
 obtain⟨ops,i,rest,kk,o,as,ats,h1,h2,h3,h4,h5,h6⟩:=bM hr h;obtain⟨fn,e1,e2,e3,e4,e5⟩:=he.ex;obtain⟨x,hx,hx'⟩:=uS hr h4 0 _ rfl;have hx':x = .pointer (some ad):=hx';rw[hx'] at hx;have:=stepG_semacquire (P:=P) (main:=main) (b:=fr) (a:=⟨fr.tmps,fr.defers⟩) (kk:=kk) (cs:=cs) (w:=w) (rest:=rest) h1 h2 (by rw[hr.kind];exact hk) h3 e1 e2 e3 e4 e5 hx hc hn hz
 rw[h6,← h5] at this;exact this
theorem tj {ad:Addr} {l:List SV} (hr:FR y s fr) (h:aH s=some (f,.lit (.pointer (some ad)) :: l)) (he:Ext P f Extern.Sync.semacquire) (hc:w.cell? ad=some (.int .u32 0)) :
 stepG P main (G fr cs) w = .go { G fr cs with status:=.blocked } w #[]:=by
 obtain⟨ops,i,rest,kk,o,as,ats,h1,h2,h3,h4,h5,h6⟩:=bM hr h;obtain⟨fn,e1,e2,e3,e4,e5⟩:=he.ex;obtain⟨x,hx,hx'⟩:=uS hr h4 0 _ rfl;have hx':x = .pointer (some ad):=hx';rw[hx'] at hx;have:=stepG_semacquire_wait (P:=P) (main:=main) (b:=fr) (a:=⟨fr.tmps,fr.defers⟩) (kk:=kk) (cs:=cs) (w:=w) (rest:=rest) h1 h2 h3 e1 e2 e3 e4 e5 hx hc;rw[← h5] at this;exact this
theorem kB {ad:Addr} {l:List SV} {n:Int} (hr:FR y s fr) (h:aH s=some (f,.lit (.pointer (some ad)) :: l)) (hk:s.kind ≠ .early) (he:Ext P f Extern.Sync.semrelease) (hc:w.cell? ad=some (.int .u32 n)) (hz:w.frozen? ad=false) :
 stepG P main (G fr cs) w = .go (G (fr.finish (.tuple #[])) cs) (w.setCell ad (.int .u32 (IntKind.u32.wrap (n+1)))) (semEvents ad):=by
 obtain⟨ops,i,rest,kk,o,as,ats,h1,h2,h3,h4,h5,h6⟩:=bM hr h;obtain⟨fn,e1,e2,e3,e4,e5⟩:=he.ex;obtain⟨x,hx,hx'⟩:=uS hr h4 0 _ rfl;have hx':x = .pointer (some ad):=hx';rw[hx'] at hx;have:=stepG_semrelease (P:=P) (main:=main) (b:=fr) (a:=⟨fr.tmps,fr.defers⟩) (kk:=kk) (cs:=cs) (w:=w) (rest:=rest) h1 h2 (by rw[hr.kind];exact hk) h3 e1 e2 e3 e4 e5 hx hc hz
 rw[h6,← h5] at this;exact this
theorem tk (hr:FR y s fr) (h:aH s=some (f,svs)) (hk:s.kind ≠ .early) (he:Ext P f Extern.OsHooks.nano) (hq:∃ fn,P.funcs[f]? = some fn∧fn.norace=true) :
 stepG P main (G fr cs) w = .go (G (fr.finish (.int .i64 ((w.os.mono+w.tick:Nat):Int))) cs) w.later #[]:=by
 obtain⟨ops,i,rest,kk,o,as,ats,h1,h2,h3,h4,h5,h6⟩:=bM hr h;obtain⟨fn,e1,e2,e3,e4,e5⟩:=he.ex;obtain⟨fn',q1,e6⟩:=hq;obtain rfl:fn'=fn:=by rw[q1] at e1;exact Option.some.inj e1
 have:=stepG_nanotime (P:=P) (main:=main) (b:=fr) (a:=⟨fr.tmps,fr.defers⟩) (kk:=kk) (cs:=cs) (w:=w) (rest:=rest) h1 h2 (by rw[hr.kind];exact hk) h3 e1 e2 e3 e4 e5 e6
 rw[h6,← h5] at this;exact this
theorem Ao {n:Int} (hr:FR y s fr) (h:aH s=some (f,[.lit (.int .i64 n)])) (hk:s.kind ≠ .early) (he:Ext P f Extern.Sync.canSpin) :
 ∃ b w',stepG P main (G fr cs) w = .go (G (fr.finish (.bool b)) cs) w' #[]∧(b=true->n<4)∧(w'=w∨w'=w.asked):=by
 obtain⟨ops,i,rest,kk,o,as,ats,h1,h2,h3,h4,h5,h6⟩:=bM hr h;obtain⟨fn,e1,e2,e3,e4,e5⟩:=he.ex;obtain⟨x,rfl,hx⟩:=CS h4;have hx':(⟨fr.tmps,fr.defers⟩:Act).eval x = .int .i64 n:=eX hr hx
 by_cases h4:n<4
 . have:=stepG_canSpin_ask (P:=P) (main:=main) (b:=fr) (a:=⟨fr.tmps,fr.defers⟩) (kk:=kk) (cs:=cs) (w:=w) (rest:=rest) h1 h2 (by rw[hr.kind];exact hk) h3 e1 e2 e3 e4 e5 (n:=n) (k:=.i64) (by simp[hx']) h4
   rw[h6,← h5] at this;exact⟨_,_,this,fun _=>h4,.inr rfl⟩
 . have:=stepG_canSpin_no (P:=P) (main:=main) (b:=fr) (a:=⟨fr.tmps,fr.defers⟩) (kk:=kk) (cs:=cs) (w:=w) (rest:=rest) h1 h2 (by rw[hr.kind];exact hk) h3 e1 e2 e3 e4 e5 (n:=n) (k:=.i64) (by simp[hx']) (by omega)
   rw[h6,← h5] at this;exact⟨_,_,this,(fun e=>by cases e),.inl rfl⟩
theorem oH {v:Value} (hr:FR y s fr) (h:aH s=some (f,svs)) (hk:s.kind ≠ .early) (he:Ext P f (fun _=>pure v)):stepG P main (G fr cs) w = .go (G (fr.finish v) cs) w #[]:=by
 obtain⟨ops,i,rest,kk,o,as,ats,h1,h2,h3,h4,h5,h6⟩:=bM hr h;obtain⟨fn,e1,e2,e3,e4,e5⟩:=he.ex;have:=stepG_entry (P:=P) (main:=main) (b:=fr) (a:=⟨fr.tmps,fr.defers⟩) (kk:=kk) (cs:=cs) (w:=w) (rest:=rest) (v:=v) (w':=w) (evs:=#[]) h1 h2 (by rw[hr.kind];exact hk) h3 e1 e2 e3 e4 e5 (by simp) (by simp) (by simp)
 rw[h6,← h5] at this;exact this
theorem CT {α β:Type} {P:Program} {f:α->Sem β} (s:Sem α):∀ {a:α},jN P s=some a->∀ w es,(s.bind f).runT P w es=(f a).runT P w es:=by
 induction s with
 | pure b=>intro a h w es;simp only[jN,Option.some.injEq] at h;subst h;rfl
 | program g ih=>intro a h w es;simp only[jN] at h;exact ih P h w es
 | _=>intro a h;simp[jN] at h
theorem lV {t:Nat} {ad:Addr} {v:Value} (hr:FR y s fr) (h:mf s=some (t,.lit (.pointer (some ad)))) (ha:jN P (isAgg t)=some false) (hn:∃ fn,P.funcs[s.fn]? = some fn∧fn.norace=true) (hc:w.cell? ad=some v) :
 stepG P main (G fr cs) w = .go (G (fr.finish v) cs) w #[]:=by
 have hr0:=hr;obtain⟨fn,tmps,todo,defs,mode,kind,ro⟩:=fr;obtain⟨h1,h2,h3,h4,h5,h6,h7,h8⟩:=hr;simp only at h1 h2 h3 h4 h5 h6 h7 h8;subst h6;unfold mf at h;split at h
 . rename_i ops i' rest kk hm ht'
   rw[hm] at h4;rw[ht'] at h2;have h4:mode = .run:=h4;subst h4;subst h2;split at h
   . rename_i o ho
     split at h
     . rename_i hw
       split at h
       . rename_i t' x hop
         simp only[Option.some.injEq,Prod.mk.injEq] at h;obtain⟨rfl,hx⟩:=h;have hx':=hr0.sv x;rw[hx] at hx';have hx':Frame.eval ⟨fn,tmps,.inRegion ops (i' :: rest) :: kk,defs,.run,kind,none⟩ x = .pointer (some ad):=hx';obtain⟨fn',hf1,hf2⟩:=hn;subst h1;rw[ke ho (lu hr0 hw)];have hex:execOp (Frame.eval ⟨s.fn,tmps,.inRegion ops (i' :: rest) :: kk,defs,.run,kind,none⟩) o=Sem.bind (Instr.loadAt t' (.pointer (some ad))) (fun v=>pure (Next.value v)):=by simp only[execOp,hop,hx'];rfl
         have hload:(Sem.bind (Instr.loadAt t' (.pointer (some ad))) (fun v=>(pure (Next.value v):Sem Next))).runT P w #[]=(.ok (.value v) w,#[⟨.cell ad,false,false⟩]):=by
          have e0:Instr.loadAt t' (.pointer (some ad))=Sem.bind (isAgg t') (fun b=>if b=true then Sem.bind (sizeOf t') (fun n=>Sem.bind (loadCells ad n) (fun c=>pure (.agg c))) else load ad):=rfl
          rw[e0]
          have e1:Sem.bind (Sem.bind (isAgg t') (fun b=>if b=true then Sem.bind (sizeOf t') (fun n=>Sem.bind (loadCells ad n) (fun c=>pure (.agg c))) else load ad)) (fun v=>(pure (Next.value v):Sem Next)) =
           Sem.bind (isAgg t') (fun b=>Sem.bind (if b=true then Sem.bind (sizeOf t') (fun n=>Sem.bind (loadCells ad n) (fun c=>pure (.agg c))) else load ad) (fun v=>(pure (Next.value v):Sem Next))):=bind_assoc (m:=Sem) _ _ _
          rw[e1,CT _ ha];show (Sem.bind (load ad) (fun v=>(pure (Next.value v):Sem Next))).runT P w #[]=_
          unfold load;show Sem.runT P (Sem.load .plain ad fun v=>pure (Next.value v)) w #[]=_
          simp only[Sem.runT,hc];rfl
         rw[hex]
         have hq:seen P s.fn #[⟨.cell ad,false,false⟩]=#[]:=by
          rw[seen_def];simp[hf1,hf2,seenStep]
         simp only[stepG.apply,if_true,hload,GStep.after]
         by_cases hk:(kind == CallKind.early)=true
         . simp[hk,dP,G]
         . simp[hk,hq,G]
       . cases h
     . cases h
   . cases h
 . cases h
def ir (s:gi):Option (TypeId × TypeId × SV):=
 match s.mode,s.todo with
 | .run,.inRegion ops (i :: _) :: _=>match ops[i]? with
   | some o=>match ta ops s.env o with
     | some true=>match o.op with
       | .convert a b x=>some (a,b,sv s.env x)
       | _=>none
     | _=>none
   | none=>none
 | _,_=>none
theorem oI {a b t:TypeId} {ad:Addr} (hr:FR y s fr) (h:ir s=some (a,b,.lit (.pointer (some ad)))) (h1:P.underlying a=some (.pointer t)) (h2:P.underlying b=some .unsafePointer) (h3:(P.info? t).map (fun i=>decide (i.size=0))=some false) (hc:∃ v,w.cell? ad=some v) :
 stepG P main (G fr cs) w = .go (G (fr.finish (.pointer (some ad))) cs) w #[]:=by
 obtain⟨v,hc⟩:=hc;have hr0:=hr;obtain⟨fn,tmps,todo,defs,mode,kind,ro⟩:=fr;obtain⟨g1,g2,g3,g4,g5,g6,g7,g8⟩:=hr;simp only at g1 g2 g3 g4 g5 g6 g7 g8;subst g6;unfold ir at h;split at h
 . rename_i ops i' rest kk hm ht'
   rw[hm] at g4;rw[ht'] at g2;have g4:mode = .run:=g4;subst g4;subst g2;split at h
   . rename_i o ho
     split at h
     . rename_i hw
       split at h
       . rename_i a' b' x hop
         simp only[Option.some.injEq,Prod.mk.injEq] at h;obtain⟨rfl,rfl,hx⟩:=h;have hx':=hr0.sv x;rw[hx] at hx';have hx':Frame.eval ⟨fn,tmps,.inRegion ops (i' :: rest) :: kk,defs,.run,kind,none⟩ x = .pointer (some ad):=hx';rw[ke ho (lu hr0 hw)];have hex:execOp (Frame.eval ⟨fn,tmps,.inRegion ops (i' :: rest) :: kk,defs,.run,kind,none⟩) o=(do pure (.value (← convert a' b' (.pointer (some ad)))):Sem Next):=by simp only[execOp,hop,hx']
         have e1:=run_convert_to_unsafe h1 h2 h3 hc;have e2:=events_convert_to_unsafe h1 h2 h3 hc #[];rw[hex];simp[stepG.apply,e1,e2,GStep.after,dP,G,Result.andThen,Result.evThen]
       . cases h
     . cases h
   . cases h
 . cases h
end
def b0 (P:Program) (f:FuncId) (args:List SV) (kind:CallKind):gi:=
 match P.funcs[f]? with
 | some fn=>⟨f,[.code (fn.body.getD .skip)],args ++ List.replicate (fn.ntmps-args.length) .aO,[],.run,kind⟩
 | none=>⟨f,[],args,[],.run,kind⟩
abbrev bv:=gi × List gi
def next (P:Program) (fl:Fl) (c:bv) (v:SV):bv:=match q9 c.1 v with|some s=>sgo P fl 400 s c.2|none=>c
def pt (b o:Nat):SV:=.lit (.pointer (some ⟨b,o,none⟩))
def un:SV:=.lit (.tuple #[])
def tt:SV:=.lit (.bool true)
def ff:SV:=.lit (.bool false)
def zk (live:List Nat) (env:List SV):List SV:=(List.range env.length).zipWith (fun i v=>if live.contains i then v else .aO) env
def keep (live:List Nat) (s:gi):gi:={ s with env:=zk live s.env }
def CU (env:List SV):List (Nat × SV)->List SV
 | []=>env
 | (i,v) :: l=>CU (env.set i v) l
theorem FR.keep {y:Sy} {s:gi} {fr:Frame} (h:FR y s fr) (live:List Nat):FR y (keep live s) fr:=by
 refine⟨h.fn,h.todo,h.defers,h.mode,h.kind,h.ro,?_,fun t=>?_⟩
 . rw[h.size]
   show s.env.length=(zk live s.env).length;rw[zk,List.length_zipWith,List.length_range,Nat.min_self]
 . have:=h.env t
   simp only[Go.aZ.keep,zk];rw[List.getD_eq_getElem?_getD,List.getElem?_zipWith]
   by_cases ht:t<s.env.length
   . rw[List.getElem?_range ht,List.getElem?_eq_getElem ht]
     simp only[Option.getD_some];split
     . rw[List.getD_eq_getElem?_getD,List.getElem?_eq_getElem ht] at this
       exact this
     . trivial
   . rw[List.getElem?_eq_none (by rw[List.length_range];exact Nat.le_of_not_lt ht)]
     trivial
def plain:SV->Bool
 | .aO=>true
 | .lit _=>true
 | _=>false
theorem FR.dQ {y y':Sy} {s:gi} {fr:Frame} (h:FR y s fr) (hp:s.env.all plain=true):FR y' s fr:=by
 refine⟨h.fn,h.todo,h.defers,h.mode,h.kind,h.ro,h.size,fun t=>?_⟩
 have h1:=h.env t
 have h2:plain (s.env.getD t .aO)=true:=by
  rw[List.getD_eq_getElem?_getD];cases q:s.env[t]? with
  | none=>rfl
  | some v=>exact List.all_eq_true.1 hp v (List.mem_of_getElem? q)
 generalize s.env.getD t .aO=v at *;cases v <;> simp_all [plain,SR]
structure tl where
 lock:Nat
 unlock:Nat
 JB:Nat
 qh:Nat
 HP:Nat
 Hb:Nat
 fR:Nat
 en:Nat
 acq:Nat
 rel:Nat
 im:Nat
 add:Nat
 Ap:Nat
 oJ:Nat
 nano:Nat
 yd:Nat
 kC:Nat
 tM:Nat
 tU:Nat
 tI:Nat
def K6 (c:bv):List Nat:=[c.1.fn,c.1.todo.length,(match c.1.todo with | .inRegion ops (i :: _) :: _=>i|_=>999),(match aH c.1 with|some (f,_)=>f|none=>match mf c.1 with|some (t,_)=>1000+t|none=>999)] ++ c.2.map (·.fn)
def iT:Fl:=⟨false,false,false,false,false,false⟩
def CV (P:Program) (f:Fl):Nat->gi->List gi->bv
 | 0,fr,st=>(fr,st)
 | n + 1,fr,st=>match ss P f fr st with
   | some (fr',st')=>match fr'.todo with
     | .code _ :: .inLoop _ :: _=>(fr',st')
     | _=>CV P f n fr' st'
   | none=>(fr,st)
def wk (live:List Nat) (c:bv):bv:=(keep live c.1,c.2.map (keep []))
def aD (P:Program) (fl:Fl) (live:List Nat) (c:bv) (v:SV):Option bv:=(q9 c.1 v).map fun s=>wk live (sgo P fl 400 s c.2)
def lx (P:Program) (fl:Fl) (live:List Nat) (c:bv) (v:SV):Option bv:=(q9 c.1 v).map fun s=>wk live (CV P fl 400 s c.2)
def JC (P:Program) (fl:Fl) (live:List Nat) (c:bv):bv:=wk live (sgo P fl 400 c.1 c.2)
def bl (x:Bool):SV:=.lit (.bool x)
def i64 (n:Int):SV:=.lit (.int .i64 n)
def i32 (n:Int):SV:=.lit (.int .i32 n)
def jk (n:Nat):List SV:=List.replicate n .aO
section
variable (P:Program) (n:tl) (b o:Nat) (kind:CallKind)
def wf:SV:=.word false false false 0
def wl:SV:=.word true false false 0
def K7:bv:=wk [0] (sgo P iT 400 (b0 P n.lock [pt b o] kind) [])
def CW:bv:=next P iT (K7 P n b o kind) un
def JD:bv:=next P iT (CW P n b o kind) tt
def JE:bv:=next P iT (JD P n b o kind) un
def K8:bv:=next P iT (JE P n b o kind) (pt b o)
def ye:bv:=next P iT (CW P n b o kind) ff
def NM:bv:=(lx P iT [] (ye P n b o kind) wf).getD (ye P n b o kind)
def K9:bv:=next P iT (ye P n b o kind) wl
def L6:bv:=next P iT (K9 P n b o kind) tt
def L7:bv:=next P iT (L6 P n b o kind) tt
def La:bv:=next P iT (L7 P n b o kind) un
def HQ:bv:=next P iT (K9 P n b o kind) ff
def Lb:bv:=next P iT (HQ P n b o kind) ff
def JF:bv:=next P iT (next P iT (ye P n b o kind) wf) tt
def JG:bv:=next P iT (JF P n b o kind) un
def Lc:bv:=next P iT (JG P n b o kind) (pt b o)
def L8:bv:=next P iT (HQ P n b o kind) tt
def L9:bv:=next P iT (L8 P n b o kind) .An
def Ma:bv:=next P iT (L9 P n b o kind) un
def Mb:bv:=next P iT (Ma P n b o kind) .now
def NN:bv:=next P iT (Mb P n b o kind) (.word false false true 0)
def JH:List gi:=(K7 P n b o kind).2
def KS:List gi:=(ye P n b o kind).2.map (keep [])
def jx (td:List Item) (l:List (Nat × SV)):bv:=(⟨n.JB,td,CU (jk 13) l,[],.run,.normal⟩,JH P n b o kind)
def bu (td:List Item) (l:List (Nat × SV)):bv:=(⟨n.HP,td,CU (jk 139) l,[],.run,.normal⟩,KS P n b o kind)
def LD:bv:=K7 P n b o kind
def oO:bv:=jx P n b o kind (CW P n b o kind).1.todo [(0,pt b o),(5,pt b o)]
def Hc:bv:=jx P n b o kind (JD P n b o kind).1.todo [(0,pt b o)]
def IX:bv:=jx P n b o kind (JE P n b o kind).1.todo [(8,pt b o)]
def Hd:bv:=jx P n b o kind (K8 P n b o kind).1.todo [(9,pt b o)]
def BK:bv:=(⟨n.lock,[],jk 6,[],.ret,kind⟩,[])
def He (aw sv:Bool) (it:Int):List (Nat × SV):=[(0,pt b o),(2,.An),(3,bl sv),(4,bl aw),(5,i64 it)]
def KT:bv:=bu P n b o kind (ye P n b o kind).1.todo [(0,pt b o),(2,i64 0),(3,ff),(4,ff),(5,i64 0),(12,pt b o)]
def HR (aw sv:Bool) (it:Int):bv:=bu P n b o kind (ye P n b o kind).1.todo (He b o aw sv it ++ [(12,pt b o)])
def zl (aw sv:Bool) (it:Int):bv:=bu P n b o kind (La P n b o kind).1.todo (He b o aw sv it ++ [(47,pt b o)])
def HS (aw sv:Bool) (it:Int):bv:=bu P n b o kind (Lb P n b o kind).1.todo (He b o aw sv it ++ [(133,pt b o)])
def HD (L K S aw sv:Bool) (it:Int):bv:=bu P n b o kind (NM P n b o kind).1.todo (He b o aw sv it ++ [(6,.word L K S 0)])
def SQ (K aw sv:Bool) (it:Int):bv:=bu P n b o kind (K9 P n b o kind).1.todo (He b o aw sv it ++ [(6,.word true K false 0),(17,tt),(18,i64 it)])
def SW (it:Int):bv:=bu P n b o kind (L6 P n b o kind).1.todo (He b o false false it ++ [(33,tt),(36,pt b o),(37,.word true false false 0),(39,.word true true false 0)])
def DS (aw sv:Bool) (it:Int):bv:=bu P n b o kind (L7 P n b o kind).1.todo (He b o aw sv it)
def FZ (L K S aw sv:Bool):SV:=.word (L || !S) (if aw then false else K) (S || (sv && L)) (if L || S then 1 else 0)
def wm (L K S aw sv:Bool) (it:Int):bv:=bu P n b o kind (HQ P n b o kind).1.todo (He b o aw sv it ++ [(6,.word L K S 0),(77,pt b o),(78,.word L K S 0),(79,FZ L K S aw sv)])
def T1 (sv:Bool):bv:=bu P n b o kind (L8 P n b o kind).1.todo [(0,pt b o),(3,bl sv)]
def PK (sv:Bool):bv:=bu P n b o kind (L9 P n b o kind).1.todo [(0,pt b o),(2,.An),(3,bl sv),(91,pt b (o+1))]
def TQ:bv:=bu P n b o kind (Ma P n b o kind).1.todo [(0,pt b o),(2,.An),(95,ff)]
def UP (sv:Bool):bv:=bu P n b o kind (Mb P n b o kind).1.todo [(0,pt b o),(2,.An),(3,bl sv),(103,pt b o)]
def AD (d:Int):bv:=bu P n b o kind (NN P n b o kind).1.todo [(0,pt b o),(128,pt b o),(129,i32 d)]
def FC:bv:=bu P n b o kind (JF P n b o kind).1.todo [(0,pt b o)]
def IY:bv:=bu P n b o kind (JG P n b o kind).1.todo [(136,pt b o)]
def Hf:bv:=bu P n b o kind (Lc P n b o kind).1.todo [(137,pt b o)]
def Lf:bv:=wk [0,5] (sgo P iT 400 (b0 P n.unlock [pt b o] kind) [])
def JI:bv:=next P iT (Lf P n b o kind) .aO
def Mc:bv:=next P iT (JI P n b o kind) (pt b o)
def Me:bv:=next P iT (Mc P n b o kind) un
def zn:bv:=next P iT (Me P n b o kind) un
def NO:bv:=next P { iT with n0:=true } (zn P n b o kind) wf
def KU:bv:=next P iT (zn P n b o kind) wf
def NP:bv:=next P iT (zn P n b o kind) (.word false false true 0)
def NQ:bv:=next P iT (KU P n b o kind) tt
def Lg:bv:=next P iT (KU P n b o kind) ff
def JJ:List gi:=(Lf P n b o kind).2
def Lh:List gi:=(KU P n b o kind).2.map (keep [])
def kS (td:List Item) (l:List (Nat × SV)):bv:=(⟨n.qh,td,CU (jk 21) l,[],.run,.normal⟩,JJ P n b o kind)
def pL (td:List Item) (l:List (Nat × SV)):bv:=(⟨n.Hb,td,CU (jk 43) l,[],.run,.normal⟩,Lh P n b o kind)
def U0:bv:=Lf P n b o kind
def IZ:bv:=kS P n b o kind (JI P n b o kind).1.todo [(0,pt b o),(7,pt b o)]
def UR:bv:=kS P n b o kind (Mc P n b o kind).1.todo [(0,pt b o),(8,pt b o)]
def UD:bv:=kS P n b o kind (Me P n b o kind).1.todo [(0,pt b o)]
def mT:bv:=kS P n b o kind (zn P n b o kind).1.todo [(0,pt b o),(13,pt b o),(14,.aO)]
def UE:bv:=kS P n b o kind (NO P n b o kind).1.todo []
def UC:bv:=pL P n b o kind (KU P n b o kind).1.todo [(0,pt b o),(27,pt b o),(28,wf),(29,.word false true false (-1))]
def G7:bv:=pL P n b o kind (NQ P n b o kind).1.todo [(33,pt b (o+1))]
def G9:bv:=pL P n b o kind (NP P n b o kind).1.todo [(41,pt b (o+1))]
def FD:bv:=pL P n b o kind (Lg P n b o kind).1.todo [(0,pt b o),(37,pt b o)]
def JK:bv:=(⟨n.unlock,[],jk 6,[],.ret,kind⟩,[])
end
structure fA (P:Program) (n:tl):Prop where
 e1:∀ (fl:Fl) b o kind,aD P fl [0,5] (LD P n b o kind) un=some (oO P n b o kind)
 e2:∀ (fl:Fl) b o kind,aD P fl [0] (oO P n b o kind) tt=some (Hc P n b o kind)
 e3:∀ (fl:Fl) b o kind,aD P fl [0,2,3,4,5,12] (oO P n b o kind) ff=some (KT P n b o kind)
 e4:∀ (fl:Fl) b o kind,aD P fl [8] (Hc P n b o kind) un=some (IX P n b o kind)
 e5:∀ (fl:Fl) b o kind,aD P fl [9] (IX P n b o kind) (pt b o)=some (Hd P n b o kind)
 e6:∀ (fl:Fl) b o kind,aD P fl [] (Hd P n b o kind) un=some (BK n kind)
 Mf:∀ (fl:Fl) b o kind L K S aw sv it,lx P fl [0,2,3,4,5,6] (HR P n b o kind aw sv it) (.word L K S 0)=some (HD P n b o kind L K S aw sv it)
 Mg:∀ (fl:Fl) b o kind L K S aw sv it,lx P fl [0,2,3,4,5,6] (zl P n b o kind aw sv it) (.word L K S 0)=some (HD P n b o kind L K S aw sv it)
 Mh:∀ (fl:Fl) b o kind L K S aw sv it,lx P fl [0,2,3,4,5,6] (HS P n b o kind aw sv it) (.word L K S 0)=some (HD P n b o kind L K S aw sv it)
 e8:∀ (fl:Fl) b o kind K aw sv it,JC P fl [0,2,3,4,5,6,17,18] (HD P n b o kind true K false aw sv it)=SQ P n b o kind K aw sv it
 e9:∀ (fl:Fl) b o kind L K S aw sv it,(L && !S)=false->(aw && !K)=false->JC P fl [0,2,3,4,5,6,77,78,79] (HD P n b o kind L K S aw sv it)=wm P n b o kind L K S aw sv it
 ew:∀ (fl:Fl) b o kind it,aD P { fl with n0:=false } [0,2,3,4,5,33,36,37,39] (SQ P n b o kind false false false it) tt=some (SW P n b o kind it)
 JL:∀ (fl:Fl) b o kind n0 K aw sv it,(!aw && !K && !n0)=false->aD P { fl with n0:=n0 } [0,2,3,4,5] (SQ P n b o kind K aw sv it) tt=some (DS P n b o kind aw sv it)
 tp:∀ (fl:Fl) b o kind K aw sv it,(aw && !K)=false->aD P fl [0,2,3,4,5,6,77,78,79] (SQ P n b o kind K aw sv it) ff=some (wm P n b o kind true K false aw sv it)
 Li:∀ (fl:Fl) b o kind r it,aD P fl [0,2,3,4,5] (SW P n b o kind it) (bl r)=some (DS P n b o kind r false it)
 JM:∀ (fl:Fl) b o kind aw sv,aD P fl [0,2,3,4,5,47] (DS P n b o kind aw sv 0) un=some (zl P n b o kind aw sv 1)
 JN:∀ (fl:Fl) b o kind aw sv,aD P fl [0,2,3,4,5,47] (DS P n b o kind aw sv 1) un=some (zl P n b o kind aw sv 2)
 JO:∀ (fl:Fl) b o kind aw sv,aD P fl [0,2,3,4,5,47] (DS P n b o kind aw sv 2) un=some (zl P n b o kind aw sv 3)
 JP:∀ (fl:Fl) b o kind aw sv,aD P fl [0,2,3,4,5,47] (DS P n b o kind aw sv 3) un=some (zl P n b o kind aw sv 4)
 Mi:∀ (fl:Fl) b o kind K aw sv it,aD P fl [0] (wm P n b o kind false K false aw sv it) tt=some (FC P n b o kind)
 JQ:∀ (fl:Fl) b o kind L K S aw sv it,(L || S)=true->aD P { fl with wz:=true } [0,3] (wm P n b o kind L K S aw sv it) tt=some (T1 P n b o kind sv)
 JR:∀ (fl:Fl) b o kind L K S aw sv it,(L || S)=true->aD P { fl with wz:=false } [0,2,3,91] (wm P n b o kind L K S aw sv it) tt=some (PK P n b o kind sv)
 Mj:∀ (fl:Fl) b o kind L K S aw sv it,aD P fl [0,2,3,4,5,133] (wm P n b o kind L K S aw sv it) ff=some (HS P n b o kind aw sv it)
 Mk:∀ (fl:Fl) b o kind sv,aD P fl [0,2,3,91] (T1 P n b o kind sv) .An=some (PK P n b o kind sv)
 JS:∀ (fl:Fl) b o kind,aD P fl [0,2,3,103] (PK P n b o kind true) un=some (UP P n b o kind true)
 JT:∀ (fl:Fl) b o kind,aD P fl [0,2,95] (PK P n b o kind false) un=some (TQ P n b o kind)
 FE:∀ (fl:Fl) b o kind x,aD P { fl with tb:=x } [0,2,3,103] (TQ P n b o kind) .now=some (UP P n b o kind x)
 Ml:∀ (fl:Fl) b o kind sv n1,aD P { fl with n0:=false,n1:=n1 } [0,128,129] (UP P n b o kind sv) (.word false false true 0)=some (AD P n b o kind (if !sv || n1 then -11 else -7))
 Mm:∀ (fl:Fl) b o kind L K sv,lx P fl [0,2,3,4,5,6] (UP P n b o kind sv) (.word L K false 0)=some (HD P n b o kind L K false true sv 0)
 Mn:∀ (fl:Fl) b o kind d,aD P fl [0] (AD P n b o kind d) .aO=some (FC P n b o kind)
 Mp:∀ (fl:Fl) b o kind,aD P fl [136] (FC P n b o kind) un=some (IY P n b o kind)
 Mq:∀ (fl:Fl) b o kind,aD P fl [137] (IY P n b o kind) (pt b o)=some (Hf P n b o kind)
 Mr:∀ (fl:Fl) b o kind,aD P fl [] (Hf P n b o kind) un=some (BK n kind)
 u1:∀ (fl:Fl) b o kind,aD P fl [0,7] (U0 P n b o kind) .aO=some (IZ P n b o kind)
 u2:∀ (fl:Fl) b o kind,aD P fl [0,8] (IZ P n b o kind) (pt b o)=some (UR P n b o kind)
 u3:∀ (fl:Fl) b o kind,aD P fl [0] (UR P n b o kind) un=some (UD P n b o kind)
 u4:∀ (fl:Fl) b o kind,aD P fl [0,13] (UD P n b o kind) un=some (mT P n b o kind)
 u5:∀ (fl:Fl) b o kind n0 K,(n0 || K)=true->aD P { fl with n0:=n0 } [] (mT P n b o kind) (.word false K false 0)=some (UE P n b o kind)
 Ms:∀ (fl:Fl) b o kind n0 K,aD P { fl with n0:=n0 } [41] (mT P n b o kind) (.word false K true 0)=some (G9 P n b o kind)
 Mt:∀ (fl:Fl) b o kind,aD P { fl with n0:=false } [0,27,28,29] (mT P n b o kind) (.word false false false 0)=some (UC P n b o kind)
 Mw:∀ (fl:Fl) b o kind,aD P fl [33] (UC P n b o kind) tt=some (G7 P n b o kind)
 Mx:∀ (fl:Fl) b o kind,aD P fl [0,37] (UC P n b o kind) ff=some (FD P n b o kind)
 u7:∀ (fl:Fl) b o kind n0 L K S,(n0 || L || K || S)=true->aD P { fl with n0:=n0 } [] (FD P n b o kind) (.word L K S 0)=some (UE P n b o kind)
 My:∀ (fl:Fl) b o kind,aD P { fl with n0:=false } [0,27,28,29] (FD P n b o kind) (.word false false false 0)=some (UC P n b o kind)
 u8:∀ (fl:Fl) b o kind,aD P fl [] (G7 P n b o kind) un=some (UE P n b o kind)
 u9:∀ (fl:Fl) b o kind,aD P fl [] (G9 P n b o kind) un=some (UE P n b o kind)
 Mz:∀ (fl:Fl) b o kind,aD P fl [] (UE P n b o kind) un=some (JK n kind)
 o1:∀ b o kind,aH (LD P n b o kind).1=some (n.fR,[])∧(LD P n b o kind).1.kind = .normal
 o2:∀ b o kind,aH (oO P n b o kind).1=some (n.im,[pt b o,i32 0,i32 1])
 o3:∀ b o kind,aH (Hc P n b o kind).1=some (n.en,[])
 o4:∀ b o kind,ir (IX P n b o kind).1=some (n.tM,n.tU,pt b o)
 o5:∀ b o kind,aH (Hd P n b o kind).1=some (n.acq,[pt b o])
 MA:∀ b o kind aw sv it,mf (HR P n b o kind aw sv it).1=some (n.tI,pt b o)
 MB:∀ b o kind aw sv it,mf (zl P n b o kind aw sv it).1=some (n.tI,pt b o)
 MC:∀ b o kind aw sv it,mf (HS P n b o kind aw sv it).1=some (n.tI,pt b o)
 o7:∀ b o kind K aw sv it,aH (SQ P n b o kind K aw sv it).1=some (n.Ap,[i64 it])
 o8:∀ b o kind it,aH (SW P n b o kind it).1=some (n.im,[pt b o,.word true false false 0,.word true true false 0])
 o9:∀ b o kind aw sv it,aH (DS P n b o kind aw sv it).1=some (n.oJ,[])
 Lj:∀ b o kind L K S aw sv it,aH (wm P n b o kind L K S aw sv it).1=some (n.im,[pt b o,.word L K S 0,FZ L K S aw sv])
 MD:∀ b o kind sv,aH (T1 P n b o kind sv).1=some (n.nano,[])
 Lk:∀ b o kind sv,aH (PK P n b o kind sv).1=some (n.yd,[pt b (o+1),.aO,i64 2])
 ME:∀ b o kind,aH (TQ P n b o kind).1=some (n.nano,[])
 MF:∀ b o kind sv,mf (UP P n b o kind sv).1=some (n.tI,pt b o)
 MG:∀ b o kind d,aH (AD P n b o kind d).1=some (n.add,[pt b o,i32 d])
 MH:∀ b o kind,aH (FC P n b o kind).1=some (n.en,[])
 MI:∀ b o kind,ir (IY P n b o kind).1=some (n.tM,n.tU,pt b o)
 MJ:∀ b o kind,aH (Hf P n b o kind).1=some (n.acq,[pt b o])
 Ll:∀ b o kind,mf (U0 P n b o kind).1=some (n.tI,pt b o)∧(U0 P n b o kind).1.kind = .normal∧(U0 P n b o kind).1.fn=n.qh
 MK:∀ b o kind,ir (IZ P n b o kind).1=some (n.tM,n.tU,pt b o)
 ML:∀ b o kind,aH (UR P n b o kind).1=some (n.rel,[pt b o])
 MM:∀ b o kind,aH (UD P n b o kind).1=some (n.fR,[])
 Lm:∀ b o kind,aH (mT P n b o kind).1=some (n.add,[pt b o,i32 (-1)])
 Ln:∀ b o kind,aH (UC P n b o kind).1=some (n.im,[pt b o,wf,.word false true false (-1)])
 Lp:∀ b o kind,aH (G7 P n b o kind).1=some (n.kC,[pt b (o+1),ff,i64 2])
 Lq:∀ b o kind,aH (G9 P n b o kind).1=some (n.kC,[pt b (o+1),tt,i64 2])
 MN:∀ b o kind,mf (FD P n b o kind).1=some (n.tI,pt b o)
 MO:∀ b o kind,aH (UE P n b o kind).1=some (n.en,[])
 p1:∀ b o kind,(JH P n b o kind).all (·.env.all plain)=true∧(LD P n b o kind).1.env.all plain=true∧(LD P n b o kind).2=JH P n b o kind
 p2:∀ b o kind,(KS P n b o kind).all (·.env.all plain)=true
 p3:∀ b o kind,(JJ P n b o kind).all (·.env.all plain)=true∧(U0 P n b o kind).1.env.all plain=true∧(U0 P n b o kind).2=JJ P n b o kind
 p4:∀ b o kind,(Lh P n b o kind).all (·.env.all plain)=true
structure fB (P:Program) (n:tl):Prop where
 fR:Ext P n.fR (fun _=>do mark .disable;pure Extern.Race.none_)
 en:Ext P n.en (fun _=>do mark .enable;pure Extern.Race.none_)
 acq:Ext P n.acq (Extern.Race.marked .acquire)
 rel:Ext P n.rel (Extern.Race.marked .releaseMerge)
 im:Ext P n.im (Extern.Atomic.casT (.int .i32))
 add:Ext P n.add (Extern.Atomic.update (Op.intArith .add) .i32 true)
 Ap:Ext P n.Ap Extern.Sync.canSpin
 oJ:Ext P n.oJ (fun _=>pure (.tuple #[]))
 nano:Ext P n.nano Extern.OsHooks.nano
 CX:∃ fn,P.funcs[n.nano]? = some fn∧fn.norace=true
 yd:Ext P n.yd Extern.Sync.semacquire
 kC:Ext P n.kC Extern.Sync.semrelease
 JU:jN P (isAgg n.tI)=some false
 MP:∃ t,P.underlying n.tM=some (.pointer t)∧P.underlying n.tU=some .unsafePointer∧(P.info? t).map (fun i=>decide (i.size=0))=some false
 nS:∃ fn,P.funcs[n.HP]? = some fn∧fn.norace=true
 nU:∃ fn,P.funcs[n.qh]? = some fn∧fn.norace=true
 nV:∃ fn,P.funcs[n.Hb]? = some fn∧fn.norace=true
def Sy.ok (y:Sy):Prop:=(0≤y.N∧y.N≤1000)∧(0≤y.c∧y.c≤1000)
def Fl.of (y:Sy):Fl:=⟨decide (y.N=0),decide (y.N=1),decide (y.c=0),decide (y.c=1),decide (y.ws=0),decide (IntKind.i64.wrap (y.tn-y.ws) > 1000000)⟩
theorem Fl.wn {y:Sy} (h:y.ok):(Fl.of y).At y:=⟨h.1,h.2,rfl,rfl,rfl,rfl,rfl,rfl⟩
def zo:SV->Bool | .word .. => true | .cnt=>true|_=>false
def CY:SV->Bool | .cE _=>true | .zi=>true | .Am=>true|_=>false
def CZ:SV->Bool | .An=>true | .Jy=>true|_=>false
def C0:SV->Bool | .now=>true | .Jy=>true|_=>false
theorem SR.re {y y':Sy} {v:SV} {x:Value} (h:SR y v x) (hN:y.N=y'.N∨zo v=false) (hC:y.c=y'.c∨CY v=false) (hW:y.ws=y'.ws∨CZ v=false) (hT:y.tn=y'.tn∨C0 v=false):SR y' v x:=by
 cases v <;> simp_all [SR,zo,CY,CZ,C0]
theorem FR.re {y y':Sy} {s:gi} {fr:Frame} (h:FR y s fr) (hN:y.N=y'.N∨s.env.all (fun v => !zo v)=true) (hC:y.c=y'.c∨s.env.all (fun v => !CY v)=true)
 (hW:y.ws=y'.ws∨s.env.all (fun v => !CZ v)=true) (hT:y.tn=y'.tn∨s.env.all (fun v => !C0 v)=true):FR y' s fr:=by
 have key:∀ (u:SV->Bool) (t:Nat),u .aO=false->s.env.all (fun v => !u v)=true->u (s.env.getD t .aO)=false:=fun u t hj ha=>by
  rw[List.getD_eq_getElem?_getD];cases q:s.env[t]? with
  | none=>exact hj
  | some v=>
    have:=List.all_eq_true.1 ha v (List.mem_of_getElem? q);simpa using this
 exact⟨h.fn,h.todo,h.defers,h.mode,h.kind,h.ro,h.size,fun t=>(h.env t).re (hN.imp id (key _ t rfl)) (hC.imp id (key _ t rfl)) (hW.imp id (key _ t rfl)) (hT.imp id (key _ t rfl))⟩
theorem jp.dQ {y y':Sy}:∀ {l:List gi} {fs:List Frame},jp y l fs->l.all (·.env.all plain)=true->jp y' l fs
 | [],fs,h,_=>by rw[h.iJ];trivial
 | s :: l,fs,h,hp=>by
   obtain⟨f,fs',rfl,h1,h2⟩:=h.cons_inv;simp only[List.all_cons,Bool.and_eq_true] at hp;exact⟨h1.dQ hp.1,h2.dQ hp.2⟩
theorem jp.keep {y:Sy} (live:List Nat):∀ {l:List gi} {fs:List Frame},jp y l fs->jp y (l.map (Go.aZ.keep live)) fs
 | [],fs,h=>by rw[h.iJ];trivial
 | s :: l,fs,h=>by
   obtain⟨f,fs',rfl,h1,h2⟩:=h.cons_inv;exact⟨h1.keep live,h2.keep live⟩
theorem zp {P:Program} {Wd:World->Prop} {f:Fl} {y:Sy} (hf:f.At y):∀ (n:Nat) {s:gi} {st:List gi} {fr:Frame} {frs:List Frame},FR y s fr->jp y st frs ->
 ∃ m fr' frs',FR y (CV P f n s st).1 fr'∧jp y (CV P f n s st).2 frs'∧∀ cs,gZ P Wd m (G fr (frs ++ cs)) (G fr' (frs' ++ cs))
 | 0,s,st,fr,frs,hr,hrs=>⟨0,fr,frs,hr,hrs,fun _=>rfl⟩
 | n + 1,s,st,fr,frs,hr,hrs=>by
   unfold CV;cases e:ss P f s st with
   | none=>exact⟨0,fr,frs,hr,hrs,fun _=>rfl⟩
   | some p=>
     obtain⟨s',st'⟩:=p;obtain⟨fr',frs',h1,h2,h3⟩:=Ha hf e hr hrs;simp only;split
     . exact⟨1,fr',frs',h1,h2,fun cs=>⟨_,h3 cs,rfl⟩⟩
     . obtain⟨m,fr2,frs2,h4,h5,h6⟩:=zp hf n h1 h2
       exact⟨m+1,fr2,frs2,h4,h5,fun cs=>⟨_,h3 cs,h6 cs⟩⟩
section
variable {P:Program} {Wd:World->Prop} {y:Sy} {c c':bv} {live:List Nat} {v:SV} {x:Value} {fr:Frame} {frs:List Frame}
theorem Hg (hn:aD P (Fl.of y) live c v=some c') (hy:y.ok) (hr:FR y c.1 fr) (hrs:jp y c.2 frs) (hv:SR y v x) :
 ∃ fr' frs',FR y c'.1 fr'∧jp y c'.2 frs'∧∀ cs,nC P Wd (G (fr.finish x) (frs ++ cs)) (G fr' (frs' ++ cs)):=by
 obtain⟨s,hs,rfl⟩:=Option.map_eq_some_iff.1 hn;obtain⟨m,fr',frs',h1,h2,h3⟩:=jd (Wd:=Wd) (Fl.wn hy) 400 (P:=P) (hr.fin hs hv) hrs;exact⟨fr',frs',h1.keep live,h2.keep [],fun cs=>⟨m,h3 cs⟩⟩
theorem JV (hn:lx P (Fl.of y) live c v=some c') (hy:y.ok) (hr:FR y c.1 fr) (hrs:jp y c.2 frs) (hv:SR y v x) :
 ∃ fr' frs',FR y c'.1 fr'∧jp y c'.2 frs'∧∀ cs,nC P Wd (G (fr.finish x) (frs ++ cs)) (G fr' (frs' ++ cs)):=by
 obtain⟨s,hs,rfl⟩:=Option.map_eq_some_iff.1 hn;obtain⟨m,fr',frs',h1,h2,h3⟩:=zp (Wd:=Wd) (Fl.wn hy) 400 (P:=P) (hr.fin hs hv) hrs;exact⟨fr',frs',h1.keep live,h2.keep [],fun cs=>⟨m,h3 cs⟩⟩
theorem JW (hn:JC P (Fl.of y) live c=c') (hy:y.ok) (hr:FR y c.1 fr) (hrs:jp y c.2 frs) :
 ∃ fr' frs',FR y c'.1 fr'∧jp y c'.2 frs'∧∀ cs,nC P Wd (G fr (frs ++ cs)) (G fr' (frs' ++ cs)):=by
 subst hn;obtain⟨m,fr',frs',h1,h2,h3⟩:=jd (Wd:=Wd) (Fl.wn hy) 400 (P:=P) hr hrs;exact⟨fr',frs',h1.keep live,h2.keep [],fun cs=>⟨m,h3 cs⟩⟩
end
open Mu in
inductive nE where
 | ld|er|rd (l:Lo) | sq (old:Wd) (l:Lo) | sw (old:Wd) (l:Lo) | im (old:Wd) (l:Lo) | t1 (sv:Bool) | dM (sv:Bool) | tq|up (sv:Bool) | add (old:Wd) (sv:Bool) | le|la|back
 | zq|ur|ud|held|fG (old:Wd) | qa|give|ue|wo
section
variable (P:Program) (n:tl) (b o:Nat) (kind:CallKind)
def yb (p:nE) (c:bv) (y:Sy):Prop:=
 match p with
 | .ld=>c=LD P n b o kind
 | .er=>c=oO P n b o kind
 | .rd l=>c=HR P n b o kind l.aw l.sv l.it∨c=zl P n b o kind l.aw l.sv l.it∨c=HS P n b o kind l.aw l.sv l.it
 | .sq old l=>c=SQ P n b o kind old.K l.aw l.sv l.it∧y.N=old.N∧old.L=true∧old.S=false
 | .sw old l=>c=SW P n b o kind l.it∧y.N=old.N∧l.aw=false∧l.sv=false∧old.L=true∧old.K=false∧old.S=false
 | .im old l=>c=wm P n b o kind old.L old.K old.S l.aw l.sv l.it∧y.N=old.N
 | .t1 sv=>c=T1 P n b o kind sv
 | .dM sv=>c=PK P n b o kind sv
 | .tq=>c=TQ P n b o kind
 | .up sv=>c=UP P n b o kind sv
 | .add old sv=>c=AD P n b o kind (if !sv || decide (old.N=1) then -11 else -7)
 | .le=>c=Hc P n b o kind∨c=FC P n b o kind
 | .la=>c=Hd P n b o kind∨c=Hf P n b o kind
 | .back=>c=BK n kind
 | .zq=>c=U0 P n b o kind
 | .ur=>c=UR P n b o kind
 | .ud=>c=UD P n b o kind
 | .held=>c=mT P n b o kind
 | .fG old=>c=UC P n b o kind∧y.N=old.N∧old.L=false∧old.K=false∧old.S=false∧old.N≠0
 | .qa=>c=FD P n b o kind
 | .give=>c=G7 P n b o kind∨c=G9 P n b o kind
 | .ue=>c=UE P n b o kind
 | .wo=>c=JK n kind
def kq (p:nE) (cs:List Frame) (g:Goroutine):Prop := ∃ c y fr frs,yb P n b o kind p c y∧y.ok∧FR y c.1 fr∧jp y c.2 frs∧g=G fr (frs ++ cs)
end
theorem kq.running {P:Program} {n:tl} {b o:Nat} {kind:CallKind} {p:nE} {cs:List Frame} {g:Goroutine} (h:kq P n b o kind p cs g):g.status = .running∧g.offers=none:=by
 obtain⟨c,y,fr,frs,_,_,_,_,rfl⟩:=h;exact⟨rfl,rfl⟩
structure ShM (b o:Nat) (w:World) (s:Mu.Sh):Prop where
 cw:w.cell? ⟨b,o,none⟩=some (.int .i32 (enc s.w.L s.w.K s.w.S s.w.N))
 cs:w.cell? ⟨b,o+1,none⟩=some (.int .u32 s.ms)
 fz:∀ i,w.frozen? ⟨b,i,none⟩=false
def MW (b o:Nat) (w w':World):Prop:=(js w.os w'.os∧w'.output=w.output)∧(w'.heap=w.heap∨∃ i v,(i=o∨i=o+1)∧flat v=true∧w'.heap=(w.setCell ⟨b,i,none⟩ v).heap)
def EvM (b o:Nat) (es:Array Event):Prop := ∀ e∈es,(e.loc = .mark .disable∨e.loc = .mark .enable)∨(∃ i,(i=o∨i=o+1)∧e.loc = .cell ⟨b,i,none⟩∧e.sync=true)
theorem lW {w w':World} (h:w'.heap=w.heap) (a:Addr):w'.cell? a=w.cell? a∧w'.frozen? a=w.frozen? a:=by
 simp[World.cell?,World.frozen?,h]
theorem ShM.heap {b o:Nat} {w w':World} {s:Mu.Sh} (h:ShM b o w s) (e:w'.heap=w.heap):ShM b o w' s:=
 ⟨by rw[(lW e _).1];exact h.cw,by rw[(lW e _).1];exact h.cs,fun i=>by rw[(lW e _).2];exact h.fz i⟩
theorem gQ {w:World} {b i:Nat} {u v:Value} (h:w.cell? ⟨b,i,none⟩=some u):(w.setCell ⟨b,i,none⟩ v).cell? ⟨b,i,none⟩=some v:=by
 unfold World.cell? at h ⊢;unfold World.setCell;simp only[Array.getElem?_modify,if_true];cases e:w.heap[b]? with
 | none=>simp[e] at h
 | some ob=>
   rw[e] at h;cases ob <;> simp at h ⊢
   rename_i c _ _
   by_cases hi:i<c.size
   . simp[hi]
   . simp[hi] at h
theorem kD {w:World} {a:Addr} {v:Value} {b i:Nat}:(w.setCell a v).frozen? ⟨b,i,none⟩=w.frozen? ⟨b,i,none⟩:=by
 unfold World.frozen? World.setCell;simp only[Array.getElem?_modify]
 by_cases h:a.block=b
 . simp only[h,if_true]
   cases e:w.heap[b]? with
   | none=>rfl
   | some ob=>cases ob <;> simp
 . simp only[h,if_false]
theorem ShM.aC {b o:Nat} {w:World} {s:Mu.Sh} (h:ShM b o w s) (w':Mu.Wd):ShM b o (w.setCell ⟨b,o,none⟩ (.int .i32 (enc w'.L w'.K w'.S w'.N))) { s with w:=w' }:=
 ⟨gQ h.cw,by rw[cH (by simp)];exact h.cs,fun i=>by rw[kD];exact h.fz i⟩
theorem ShM.yf {b o:Nat} {w:World} {s:Mu.Sh} (h:ShM b o w s) (m:Nat):ShM b o (w.setCell ⟨b,o+1,none⟩ (.int .u32 m)) { s with ms:=m }:=
 ⟨by rw[cH (by simp)];exact h.cw,gQ h.cs,fun i=>by rw[kD];exact h.fz i⟩
theorem dv {b o:Nat}:EvM b o #[]:=fun e h=>by simp at h
theorem zr {b o i:Nat} (hi:i=o∨i=o+1):EvM b o #[⟨.cell ⟨b,i,none⟩,false,true⟩]:=fun e h=>by simp at h;subst h;exact .inr ⟨i,hi,rfl,rfl⟩
theorem iu {b o i:Nat} (hi:i=o∨i=o+1):EvM b o #[⟨.cell ⟨b,i,none⟩,false,true⟩,⟨.cell ⟨b,i,none⟩,true,true⟩]:=fun e h=>by
 simp at h;rcases h with rfl|rfl <;> exact .inr ⟨i,hi,rfl,rfl⟩
theorem qi {b o:Nat}:EvM b o (semEvents ⟨b,o+1,none⟩):=fun e h=>by
 simp[semEvents] at h
 rcases h with rfl|rfl|rfl|rfl
 . exact .inl (.inl rfl)
 . exact .inr ⟨o+1,.inr rfl,rfl,rfl⟩
 . exact .inr ⟨o+1,.inr rfl,rfl,rfl⟩
 . exact .inl (.inr rfl)
section
variable {P:Program} {n:tl} (C:fA P n) (X:fB P n) {b o:Nat} {kind:CallKind} {Wd:World->Prop} {cs:List Frame} {g:Goroutine} {w:World} {main:Bool}
variable (hWd:∀ w,Wd w->∃ v,w.cell? ⟨b,o,none⟩=some v)
def Next (P:Program) (n:tl) (b o:Nat) (kind:CallKind) (Wd:World->Prop) (cs:List Frame) (p:nE) (g1:Goroutine):Prop:=g1.status = .running∧∃ g2,nC P Wd g1 g2∧kq P n b o kind p cs g2
theorem nxt {y:Sy} {c c':bv} {live:List Nat} {v:SV} {x:Value} {fr:Frame} {frs:List Frame} {p:nE} (hn:aD P (Fl.of y) live c v=some c') (hy:y.ok) (hr:FR y c.1 fr) (hrs:jp y c.2 frs) (hv:SR y v x) (hA:yb P n b o kind p c' y) :
 Next P n b o kind Wd cs p (G (fr.finish x) (frs ++ cs)):=by
 obtain⟨fr',frs',h1,h2,h3⟩:=Hg (Wd:=Wd) hn hy hr hrs hv;exact⟨rfl,_,h3 cs,c',y,fr',frs',hA,hy,h1,h2,rfl⟩
def y0:Sy:=⟨2,2,1,0⟩
theorem nF:y0.ok:=by unfold Sy.ok y0;decide
theorem yg (hf:∃ fn body,P.funcs[n.lock]? = some fn∧fn.body=some body∧fn.ntmps=6):∃ g2,nC P Wd (G (Frame.enter P n.lock #[.pointer (some ⟨b,o,none⟩)] kind) cs) g2∧kq P n b o kind .ld cs g2:=by
 obtain⟨fn,body,h1,h2,h3⟩:=hf
 have hs:FR y0 (b0 P n.lock [pt b o] kind) (Frame.enter P n.lock #[.pointer (some ⟨b,o,none⟩)] kind):=by
  refine⟨by simp[b0,h1,Frame.enter],by simp[b0,h1,h2,Frame.enter],by simp[b0,h1,Frame.enter],by simp[b0,h1,Frame.enter,v9.of],by simp[b0,h1,Frame.enter],rfl,by simp[b0,h1,h3,Frame.enter],fun t=>?_⟩
  simp only[b0,h1,Frame.enter,h3,Option.map_some,Option.getD_some]
  match t with
  | 0=>rfl
  | 1|2|3|4|5=>trivial
  | t + 6=>
    have:([pt b o] ++ List.replicate (6 - [pt b o].length) SV.aO).getD (t+6) .aO = .aO:=by
     rw[List.getD_eq_getElem?_getD,List.getElem?_eq_none (by simp[pt])];rfl
    rw[this];trivial
 obtain⟨m,fr',frs',e1,e2,e3⟩:=jd (Wd:=Wd) (P:=P) (f:=iT) (y:=y0) ⟨by decide,by decide,rfl,rfl,rfl,rfl,rfl,by decide⟩ 400 hs (st:=[]) (frs:=[]) trivial
 have e4:=e3 cs;exact⟨_,⟨m,e4⟩,_,y0,fr',frs',rfl,nF,e1.keep [0],e2.keep [],rfl⟩
theorem C1:∀ g:FuncId,Mark.disable ≠ .extern g:=fun g h=>by cases h
theorem C2:∀ g:FuncId,Mark.enable ≠ .extern g:=fun g h=>by cases h
include C X in
theorem uT (h:kq P n b o kind .ld cs g):∃ g1,stepG P main g w = .go g1 w #[⟨.mark .disable,false,true⟩]∧Next P n b o kind Wd cs .er g1:=by
 obtain⟨c,y,fr,frs,rfl,hy,hr,hrs,rfl⟩:=h;exact⟨_,cR C1 hr (C.o1 b o kind).1 (by rw[show (LD P n b o kind).1.kind=_ from (C.o1 b o kind).2];decide) X.fR,nxt (C.e1 _ b o kind) hy hr hrs rfl rfl⟩
include C X in
theorem zt (h:kq P n b o kind .ud cs g):∃ g1,stepG P main g w = .go g1 w #[⟨.mark .disable,false,true⟩]∧Next P n b o kind Wd cs .held g1:=by
 obtain⟨c,y,fr,frs,rfl,hy,hr,hrs,rfl⟩:=h;exact⟨_,cR C1 hr (C.MM b o kind) (by simp[UD,kS]) X.fR,nxt (C.u4 _ b o kind) hy hr hrs rfl rfl⟩
include C X in
theorem zu (h:kq P n b o kind .ue cs g):∃ g1,stepG P main g w = .go g1 w #[⟨.mark .enable,false,true⟩]∧Next P n b o kind Wd cs .wo g1:=by
 obtain⟨c,y,fr,frs,rfl,hy,hr,hrs,rfl⟩:=h;exact⟨_,cR C2 hr (C.MO b o kind) (by simp[UE,kS]) X.en,nxt (C.Mz _ b o kind) hy hr hrs rfl rfl⟩
include C X in
theorem zv (h:kq P n b o kind .ur cs g):∃ g1,stepG P main g w = .go g1 w #[⟨.mark (.releaseMerge ⟨b,o,none⟩),false,true⟩]∧Next P n b o kind Wd cs .ud g1:=by
 obtain⟨c,y,fr,frs,rfl,hy,hr,hrs,rfl⟩:=h;exact⟨_,dh (fun ad g h=>by cases h) hr (C.ML b o kind) (by simp[UR,kS]) X.rel,nxt (C.u3 _ b o kind) hy hr hrs rfl rfl⟩
include C X in
theorem zw (h:kq P n b o kind .la cs g):∃ g1,stepG P main g w = .go g1 w #[⟨.mark (.acquire ⟨b,o,none⟩),false,true⟩]∧Next P n b o kind Wd cs .back g1:=by
 obtain⟨c,y,fr,frs,hc,hy,hr,hrs,rfl⟩:=h
 rcases hc with rfl|rfl
 . exact⟨_,dh (fun ad g h=>by cases h) hr (C.o5 b o kind) (by simp[Hd,jx]) X.acq,nxt (C.e6 _ b o kind) hy hr hrs rfl rfl⟩
 . exact⟨_,dh (fun ad g h=>by cases h) hr (C.MJ b o kind) (by simp[Hf,bu]) X.acq,nxt (C.Mr _ b o kind) hy hr hrs rfl rfl⟩
include X hWd in
theorem through {y:Sy} {c c':bv} {live:List Nat} {fr:Frame} {frs:List Frame} {p:nE} (hc:ir c.1=some (n.tM,n.tU,pt b o)) (hn:aD P (Fl.of y) live c (pt b o)=some c') (hy:y.ok) (hr:FR y c.1 fr) (hrs:jp y c.2 frs) (hA:yb P n b o kind p c' y) :
 ∃ g2,nC P Wd (G fr (frs ++ cs)) g2∧kq P n b o kind p cs g2:=by
 obtain⟨t,h1,h2,h3⟩:=X.MP;obtain⟨_,g2,h4,h5⟩:=nxt (P:=P) (n:=n) (b:=b) (o:=o) (kind:=kind) (Wd:=Wd) (cs:=cs) (x:=.pointer (some ⟨b,o,none⟩)) hn hy hr hrs rfl hA;refine⟨g2,nC.trans (mS.te ⟨rfl,fun main w hw=>?_⟩) h4,h5⟩
 exact oI hr hc h1 h2 h3 (hWd w hw)
include C X hWd in
theorem zx (h:kq P n b o kind .le cs g):∃ g1,stepG P main g w = .go g1 w #[⟨.mark .enable,false,true⟩]∧Next P n b o kind Wd cs .la g1:=by
 obtain⟨c,y,fr,frs,hc,hy,hr,hrs,rfl⟩:=h
 rcases hc with rfl|rfl
 . refine⟨_,cR C2 hr (C.o3 b o kind) (by simp[Hc,jx]) X.en,rfl,?_⟩
   obtain⟨fr',frs',h1,h2,h3⟩:=Hg (Wd:=Wd) (x:=.tuple #[]) (C.e4 _ b o kind) hy hr hrs rfl;obtain⟨g2,h4,h5⟩:=through X hWd (cs:=cs) (p:=.la) (C.o4 b o kind) (C.e5 _ b o kind) hy h1 h2 (.inl rfl);exact⟨g2,(h3 cs).trans h4,h5⟩
 . refine⟨_,cR C2 hr (C.MH b o kind) (by simp[FC,bu]) X.en,rfl,?_⟩
   obtain⟨fr',frs',h1,h2,h3⟩:=Hg (Wd:=Wd) (x:=.tuple #[]) (C.Mp _ b o kind) hy hr hrs rfl;obtain⟨g2,h4,h5⟩:=through X hWd (cs:=cs) (p:=.la) (C.MI b o kind) (C.Mq _ b o kind) hy h1 h2 (.inr rfl);exact⟨g2,(h3 cs).trans h4,h5⟩
include C X hWd in
theorem rf {v:Value} (hc:w.cell? ⟨b,o,none⟩=some v) (h:kq P n b o kind .zq cs g):∃ g1,stepG P main g w = .go g1 w #[]∧Next P n b o kind Wd cs .ur g1:=by
 obtain⟨c,y,fr,frs,rfl,hy,hr,hrs,rfl⟩:=h;refine⟨_,lV hr (C.Ll b o kind).1 X.JU (by rw[show (U0 P n b o kind).1.fn=_ from (C.Ll b o kind).2.2];exact X.nU) hc,rfl,?_⟩
 obtain⟨fr',frs',h1,h2,h3⟩:=Hg (Wd:=Wd) (x:=v) (C.u1 _ b o kind) hy hr hrs trivial;obtain⟨g2,h4,h5⟩:=through X hWd (cs:=cs) (p:=.ur) (C.MK b o kind) (C.u2 _ b o kind) hy h1 h2 rfl;exact⟨g2,(h3 cs).trans h4,h5⟩
include C X in
theorem F0 {sv:Bool} (h:kq P n b o kind (.t1 sv) cs g):∃ g1,stepG P main g w = .go g1 w.later #[]∧Next P n b o kind Wd cs (.dM sv) g1:=by
 obtain⟨c,y,fr,frs,rfl,hy,hr,hrs,rfl⟩:=h;refine⟨_,tk hr (C.MD b o kind sv) (by simp[T1,bu]) X.nano X.CX,?_⟩
 have hr':=hr.re (y':={ y with ws:=((w.os.mono+w.tick:Nat):Int) }) (.inl rfl) (.inl rfl) (.inr (by cases sv <;> rfl)) (.inl rfl)
 have hrs':=hrs.dQ (y':={ y with ws:=((w.os.mono+w.tick:Nat):Int) }) (by simpa[T1,bu] using C.p2 b o kind)
 exact nxt (y:={ y with ws:=((w.os.mono+w.tick:Nat):Int) }) (x:=.int .i64 ((w.os.mono+w.tick:Nat):Int)) (C.Mk _ b o kind sv) hy hr' hrs' rfl rfl
end
end Go.aZ

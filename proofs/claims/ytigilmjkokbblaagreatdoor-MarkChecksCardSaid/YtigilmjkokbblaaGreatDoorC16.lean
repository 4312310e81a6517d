/- Part 16 of the proof. -/
import Derived.Test.YtigilmjkokbblaaGreatDoorC15
set_option linter.all false
namespace Go.bd
open Go.Conc
inductive To:Mu.Pc->sS->Prop
 |out:To .out .ue
 |rd (l:Mu.Lo):To (.rd l) (.rd l)
 |sq (old:Mu.Wd) (l:Mu.Lo):To (.sq old l) (.sq old l)
 |sw (old:Mu.Wd) (l:Mu.Lo):To (.sw old l) (.sw old l)
 |kQ (old:Mu.Wd) (l:Mu.Lo):To (.kQ old l) (.kQ old l)
 |t1 (sv:Bool):To (.gx sv) (.t1 sv)
 |gx (sv:Bool):To (.gx sv) (.gx sv)
 |tq:To .tq .tq
 |up (sv:Bool):To (.up sv) (.up sv)
 |add (old:Mu.Wd) (sv:Bool):To (.add old sv) (.add old sv)
 |held:To .held .le
 |iY (old:Mu.Wd):To (.iY old) (.iY old)
 |vz:To .vz .vz
 |give:To .give .give
def mf(P:Program)(n:Ae)(b o:Nat)(kind:CallKind)(Wd:World->Prop)(cs:List Frame)(g:Goroutine)(w:World)(main:Bool)(pc:Mu.Pc)(s:Mu.Sh):Prop:=∃c a es q e f,stepG P main g w=.go c a es/\(q,e)∈Mu.mv pc s/\To q f/\Next P n b o kind Wd cs f c/\MW b o w a/\ShM b o a e/\EvM b o es/\∀d,deafBehind d es=d
theorem bh{b o:Nat}{w w':World}(h:w'.heap=w.heap)(a:mD w.os w'.os/\w'.output=w.output:=by exact⟨mD.refl _,rfl⟩):MW b o w w':=⟨a,.inl h⟩
theorem vB{b o:Nat}{w:World}{v:Value}(h:flat v=true):MW b o w (w.setCell ⟨b,o,none⟩ v):=⟨⟨.refl _,rfl⟩,.inr ⟨o,v,.inl rfl,h,rfl⟩⟩
theorem On{b o:Nat}{w:World}{v:Value}(h:flat v=true):MW b o w (w.setCell ⟨b,o+1,none⟩ v):=⟨⟨.refl _,rfl⟩,.inr ⟨o+1,v,.inr rfl,h,rfl⟩⟩
theorem GW{L K S a b c:Bool}{N d:Nat}:enc L K S N=enc a b c d↔(L=a/\K=b/\S=c/\N=d):=by
 unfold enc;constructor
 . intro h
   cases L<;>cases K<;>cases S<;>cases a<;>cases b<;>cases c<;>simp[Bool.toNat]at h ⊢<;>omega
 . rintro⟨rfl,rfl,rfl,rfl⟩;rfl
section
variable{P:Program}{n:Ae}(C:iT P n)(X:iU P n){b o:Nat}{kind:CallKind}{Wd:World->Prop}{cs:List Frame}{g:Goroutine}{w:World}{main:Bool}{s:Mu.Sh}
theorem GX{w:Mu.Wd}:w=Mu.Wd.zero↔(enc w.L w.K w.S w.N=0):=by
 obtain⟨L,K,S,N⟩:=w;rw[xx (by simp)];simp[Mu.Wd.zero]
include C X in
theorem H7(d:ShM b o w s)(h:nY P n b o kind .ig cs g):mf P n b o kind Wd cs g w main .ig s:=by
 obtain⟨c,y,fr,A,rfl,l,j,f,rfl⟩:=h;have q:(ui P n b o kind).1.kind≠.early:=by simp[ui,mP]
 by_cases k:s.w=Mu.Wd.zero
 . have m:enc s.w.L s.w.K s.w.S s.w.N=0:=GX.1 k
   have r:=d.cw;rw[m]at r;refine⟨_,_,_,.held,{s with w:={Mu.Wd.zero with L:=true}},.le,gT j (C.o2 b o kind) q X.kQ (v:=0) (n:=1) (λx h=>h) (λx h=>h) r (d.fz o),by simp[Mu.mv,k],.held,nxt (C.e2 _ b o kind) l j f rfl (.inl rfl),vB rfl,?_,kV (.inl rfl),λ_=>rfl⟩;have:=d.aO {Mu.Wd.zero with L:=true};exact this
 . have m:¬enc s.w.L s.w.K s.w.S s.w.N=0:=λe=>k (GX.2 e)
   refine⟨_,_,_,.rd ⟨false,false,0⟩,s,.rd ⟨false,false,0⟩,iv j (C.o2 b o kind) q X.kQ (old:=0) (n:=1) (λx h=>h) (λx h=>h) d.cw (d.fz o) m,by simp[Mu.mv,k],.rd _,⟨rfl,?_⟩,bh rfl,d,GO (.inl rfl),λ_=>rfl⟩;obtain⟨p,i,B,D,E⟩:=Py (Wd:=Wd) (x:=.bool false) (C.e3 _ b o kind) l j f rfl;refine⟨_,E cs,Qu P n b o kind false false 0,{y with ws:=0},p,i,.inl rfl,l,?_,?_,rfl⟩
   . have a:=B.re (y':={y with ws:=0}) (.inl rfl) (.inl rfl) (.inr rfl) (.inl rfl)
     refine⟨a.fn,a.todo,a.defers,a.mode,a.kind,a.ro,a.size.trans rfl,λt=>?_⟩;have u:=a.env t;by_cases z:t=2
     . subst z;exact u
     . have e:(Qu P n b o kind false false 0).1.env=(Us P n b o kind).1.env.set 2 .H4:=rfl
       rw[e,List.getD_eq_getElem?_getD,List.getElem?_set_ne (Ne.symm z),<-List.getD_eq_getElem?_getD];exact u
   . exact D.gL (by simpa[Us,cM]using C.p2 b o kind)
theorem qA{y:Sy}{L K S:Bool}{N:Nat}(h:y.N=N):SR y (.word L K S 0) (.int .i32 (enc L K S N)):=by
 refine⟨?_,?_,by decide⟩
 . rw[h,Int.add_zero]
 . rw[h];simp
theorem GY{y:Sy}{x:Bool}(h:decide (y.N=0)=x):{Fl.of y with n0:=x}=Fl.of y:=by subst h;rfl
theorem Qw{y:Sy}{x z:Bool}(h:decide (y.N=0)=x)(a:decide (y.N=1)=z):{Fl.of y with n0:=x,n1:=z}=Fl.of y:=by subst h;subst a;rfl
theorem Pz{y:Sy}{x:Bool}(h:decide (y.ws=0)=x):{Fl.of y with wz:=x}=Fl.of y:=by subst h;rfl
theorem Tm{y:Sy}{x:Bool}(h:decide (IntKind.i64.wrap (y.tn-y.ws)>1000000)=x):{Fl.of y with tb:=x}=Fl.of y:=by subst h;rfl
def RE(old:Mu.Wd)(l:Mu.Lo):sS:=if old.L && !old.S then .sq old l else .kQ old l
theorem PA(old:Mu.Wd)(l:Mu.Lo):To (Mu.nx old l) (RE old l):=by
 unfold Mu.nx RE;split
 . exact .sq _ _
 . exact .kQ _ _
include C in
theorem GZ{y:Sy}{old:Mu.Wd}{l:Mu.Lo}{fr:Frame}{frs:List Frame}(e:y.ok)(m:y.N=old.N)(p:FR y (HD P n b o kind old.L old.K old.S l.aw l.sv l.it).1 fr)(d:my y (HD P n b o kind old.L old.K old.S l.aw l.sv l.it).2 frs)(f:Mu.loc (Mu.nx old l)):
 ∃q,sQ P Wd (G fr (frs++cs)) q/\nY P n b o kind (RE old l) cs q:=by
 obtain⟨L,K,S,N⟩:=old;obtain⟨aw,sv,it⟩:=l;unfold RE;unfold Mu.nx at f;by_cases h:(L && !S)=true
 . simp only[h,if_true]at f ⊢
   simp only[Bool.and_eq_true,Bool.not_eq_true']at h;obtain⟨rfl,rfl⟩:=h;obtain⟨c,a,g,i,j⟩:=Tl (Wd:=Wd) (C.e8 (Fl.of y) b o kind K aw sv it) e p d;exact⟨_,j cs,_,y,c,a,⟨rfl,m,rfl,rfl⟩,e,g,i,rfl⟩
 . have r:(L && !S)=false:=by simpa using h
   rw[if_neg h]at f ⊢
   have k:(aw && !K)=false:=by
    cases aw with
    |false=>rfl
    |true=>have:=f.1 rfl;simp at this;simp[this]
   obtain⟨c,a,g,i,j⟩:=Tl (Wd:=Wd) (C.e9 (Fl.of y) b o kind L K S aw sv it r k) e p d;exact⟨_,j cs,_,y,c,a,⟨rfl,m⟩,e,g,i,rfl⟩
include C X in
theorem Oo{l:Mu.Lo}(j:ShM b o w s)(hb:s.w.N<=1000)(p:Mu.loc (Mu.nx s.w l))(h:nY P n b o kind (.rd l) cs g):mf P n b o kind Wd cs g w main (.rd l) s:=by
 obtain⟨c,y,fr,e,q,r,k,f,rfl⟩:=h;have a:({y with N:=(s.w.N:Int)}:Sy).ok:=⟨⟨by simp,by show(s.w.N:Int)<=1000;omega⟩,r.2⟩
 have key:qG c.1=some (n.tI,pt b o)->c.1.fn=n.Qs->(c.1.env.all (λv=>!GL v)=true)->c.2=Ur P n b o kind->pT P (Fl.of {y with N:=(s.w.N:Int)}) [0,2,3,4,5,6] c (.word s.w.L s.w.K s.w.S 0)=some (HD P n b o kind s.w.L s.w.K s.w.S l.aw l.sv l.it) ->
  mf P n b o kind Wd cs (G fr (e++cs)) w main (.rd l) s:=λt u x z A=>by
  have i:=k.re (y':={y with N:=(s.w.N:Int)}) (.inr x) (.inl rfl) (.inl rfl) (.inl rfl);have d:=f.gL (y':={y with N:=(s.w.N:Int)}) (by rw[z];exact C.p2 b o kind);obtain⟨B,m,D,E,F⟩:=Tk (Wd:=Wd) A a i d (qA rfl);obtain⟨H,I,J⟩:=GZ C (Wd:=Wd) (cs:=cs) (old:=s.w) (l:=l) a rfl D E p;exact⟨_,w,#[],_,s,RE s.w l,qy k t X.Tj (by rw[u];exact X.nS) j.cw,by simp[Mu.mv],PA _ _,⟨rfl,H,(F cs).trans I,J⟩,bh rfl,j,fL,λ_=>rfl⟩
 rcases q with rfl|rfl|rfl
 . exact key (C.V' ..) rfl rfl rfl (C.V1 ..)
 . exact key (C.Wa ..) rfl rfl rfl (C.V2 ..)
 . exact key (C.Wb ..) rfl rfl rfl (C.V3 ..)
include C X in
theorem Bz{y:Sy}{aw sv:Bool}{it:Nat}{fr:Frame}{frs:List Frame}(f:it<4)(g:y.ok)(e:FR y (DS P n b o kind aw sv it).1 fr)(d:my y (DS P n b o kind aw sv it).2 frs):
 ∃c,sQ P Wd (G fr (frs++cs)) c/\nY P n b o kind (.rd ⟨aw,sv,it+1⟩) cs c:=by
 have a:rH P Wd (G fr (frs++cs)) (G (fr.finish (.tuple #[])) (frs++cs)):=⟨rfl,λmain w _=>uf e (C.o9 b o kind aw sv it) (by simp[DS,cM]) X.uh⟩
 have key:aR P (Fl.of y) [0,2,3,4,5,47] (DS P n b o kind aw sv it) un=some (GJ P n b o kind aw sv (it+1:Nat)):=by
  have:it=0\/it=1\/it=2\/it=3:=by omega
  rcases this with rfl|rfl|rfl|rfl
  . exact C.EE ..
  . exact C.EF ..
  . exact C.Tc ..
  . exact C.Td ..
 obtain⟨_,c,h,i⟩:=nxt (P:=P) (n:=n) (b:=b) (o:=o) (kind:=kind) (Wd:=Wd) (cs:=cs) (x:=.tuple #[]) (p:=.rd ⟨aw,sv,it+1⟩) key g e d rfl (.inr (.inl rfl));exact⟨c,a.zZ.trans h,i⟩
include C X in
theorem Oq{old:Mu.Wd}{l:Mu.Lo}(t:ShM b o w s)(M:Mu.loc (.sq old l))(h:nY P n b o kind (.sq old l) cs g):mf P n b o kind Wd cs g w main (.sq old l) s:=by
 obtain⟨c,y,fr,u,⟨rfl,k,D,E⟩,q,m,d,rfl⟩:=h;obtain⟨L,K,S,N⟩:=old;obtain⟨aw,sv,it⟩:=l;simp only at k D E m d;subst D;subst E;obtain⟨F,G,O,_,_⟩:=M;simp only at F G O
 have v:(aw && !K)=false:=by
  cases aw with
  |false=>rfl
  |true=>simp[F rfl]
 obtain⟨r,j,z,Q,H⟩:=H5 (P:=P) (main:=main) (cs:=u++cs) (w:=w) m (C.o7 b o kind K aw sv it) (by simp[SQ,cM]) X.H6
 have a:j.heap=w.heap:=by rcases H with rfl|rfl<;>rfl
 have e:mD w.os j.os/\j.output=w.output:=by rcases H with rfl|rfl<;>exact⟨.refl _,rfl⟩
 cases r with
 |false=>refine⟨_,j,#[],.kQ ⟨true,K,false,N⟩ ⟨aw,sv,it⟩,s,.kQ _ _,z,by simp[Mu.mv,Mu.hd],.kQ _ _,nxt (C.bV (Fl.of y) b o kind K aw sv it v) q m d rfl ⟨rfl,k⟩,bh a e,t.heap a,fL,λ_=>rfl⟩
 | true=>
   have f:it<4:=by have:=Q rfl;omega
   by_cases A:(!aw && !K && decide (N≠0))=true
   . simp only[Bool.and_eq_true,Bool.not_eq_true',decide_eq_true_eq]at A
     obtain⟨⟨rfl,rfl⟩,p⟩:=A;have:sv=false:=by cases sv with|false=>rfl|true=>exact absurd (G rfl) (by simp)
     subst this;have key:=C.bg (Fl.of y) b o kind it;rw[GY (by rw[k];simpa using p)]at key
     exact⟨_,j,#[],.sw ⟨true,false,false,N⟩ ⟨false,false,it⟩,s,.sw _ _,z,by simp[Mu.mv,Mu.hd,f,p],.sw _ _,nxt key q m d rfl ⟨rfl,k,rfl,rfl,rfl,rfl,rfl⟩,bh a e,t.heap a,fL,λ_=>rfl⟩
   . have i:(!aw && !K && decide (N≠0))=false:=by simpa using A
     have B:(!aw && !K && !decide (y.N=0))=false:=by
      rw[k]
      by_cases I:N=0
      . simp[I]
      . simp[I]at i ⊢;exact i
     have key:=C.Tb (Fl.of y) b o kind (decide (y.N=0)) K aw sv it B;rw[GY rfl]at key;obtain⟨R,J,T,U,V⟩:=Py (Wd:=Wd) (x:=.bool true) key q m d rfl;obtain⟨W,Y,Z⟩:=Bz C X (Wd:=Wd) (cs:=cs) f q T U;refine⟨_,j,#[],.rd ⟨aw,sv,it+1⟩,s,.rd _,z,?_,.rd _,⟨rfl,W,(V cs).trans Y,Z⟩,bh a e,t.heap a,fL,λ_=>rfl⟩
     simp only[Mu.mv,Mu.hd,f,i];simp
include C X in
theorem Ot{old:Mu.Wd}{l:Mu.Lo}(f:ShM b o w s)(V:Mu.loc (.sw old l))(h:nY P n b o kind (.sw old l) cs g):mf P n b o kind Wd cs g w main (.sw old l) s:=by
 obtain⟨c,y,fr,W,⟨rfl,E,F,G,H,I,J⟩,m,i,d,rfl⟩:=h;obtain⟨L,K,S,N⟩:=old;obtain⟨aw,sv,it⟩:=l;simp only at E F G H I J i d;subst F;subst G;subst H;subst I;subst J;have j:it<4:=V.2.2.2.2.2;have M:(SW P n b o kind it).1.kind≠.early:=by simp[SW,cM]
 have a:∀q:Bool,∀x,SR y (.word true q false 0) x->x=.int .i32 (enc true q false N):=λq x Y=>by have:=Y.1;rw[E,Int.add_zero]at this;exact this
 by_cases p:s.w=⟨true,false,false,N⟩
 . have O:=f.cw
   rw[p]at O;obtain⟨r,k,t,u,v⟩:=Py (Wd:=Wd) (x:=.bool true) (C.jA (Fl.of y) b o kind true it) m i d rfl;obtain⟨z,A,B⟩:=Bz C X (Wd:=Wd) (cs:=cs) j m t u;refine⟨_,_,_,.rd ⟨true,false,it+1⟩,{s with w:=⟨true,true,false,N⟩},.rd _,gT i (C.o8 b o kind it) M X.kQ (a false) (a true) O (f.fz o),by simp[Mu.mv,p],.rd _,⟨rfl,z,(v cs).trans A,B⟩,vB rfl,f.aO ⟨true,true,false,N⟩,kV (.inl rfl),λ_=>rfl⟩
 . have D:¬enc s.w.L s.w.K s.w.S s.w.N=enc true false false N:=λe=>p (by
    obtain⟨Q,R,T,U⟩:=GW.1 e;obtain⟨⟨L,K,S,Z⟩,ms⟩:=s;simp only at Q R T U;subst Q;subst R;subst T;subst U;rfl)
   obtain⟨r,k,t,u,v⟩:=Py (Wd:=Wd) (x:=.bool false) (C.jA (Fl.of y) b o kind false it) m i d rfl;obtain⟨z,A,B⟩:=Bz C X (Wd:=Wd) (cs:=cs) j m t u;exact⟨_,_,_,.rd ⟨false,false,it+1⟩,s,.rd _,iv i (C.o8 b o kind it) M X.kQ (a false) (a true) f.cw (f.fz o) D,by simp[Mu.mv,p],.rd _,⟨rfl,z,(v cs).trans A,B⟩,bh rfl,f,GO (.inl rfl),λ_=>rfl⟩
end
section
variable{P:Program}{n:Ae}(C:iT P n)(X:iU P n){b o:Nat}{kind:CallKind}{Wd:World->Prop}{cs:List Frame}{g:Goroutine}{w:World}{main:Bool}{s:Mu.Sh}
theorem PB{a c:Mu.Wd}:a=c↔enc a.L a.K a.S a.N=enc c.L c.K c.S c.N:=by obtain⟨L,K,S,N⟩:=a;obtain⟨b,d,e,f⟩:=c;rw[GW];simp
include C X in
theorem K3{old:Mu.Wd}{l:Mu.Lo}(f:ShM b o w s)(F:Mu.loc (.kQ old l))(h:nY P n b o kind (.kQ old l) cs g):mf P n b o kind Wd cs g w main (.kQ old l) s:=by
 obtain⟨c,y,fr,u,⟨rfl,v⟩,t,j,a,rfl⟩:=h;obtain⟨L,K,S,N⟩:=old;obtain⟨aw,sv,it⟩:=l;simp only at v j a
 have k:(aw && !K)=false:=by
  cases aw with
  |false=>rfl
  |true=>have:=F.1 rfl;simp at this;simp[this]
 have B:(Df P n b o kind L K S aw sv it).1.kind≠.early:=by simp[Df,cM]
 have hold:∀x,SR y (.word L K S 0) x->x=.int .i32 (enc L K S N):=λx z=>by have:=z.1;rw[v,Int.add_zero]at this;exact this
 have i:∀x,SR y (Ol L K S aw sv) x->x=.int .i32 (enc (Mu.pQ ⟨L,K,S,N⟩ ⟨aw,sv,it⟩).L (Mu.pQ ⟨L,K,S,N⟩ ⟨aw,sv,it⟩).K (Mu.pQ ⟨L,K,S,N⟩ ⟨aw,sv,it⟩).S (Mu.pQ ⟨L,K,S,N⟩ ⟨aw,sv,it⟩).N):=λx z=>by have:=z.1;rw[v]at this;rw[this];simp only[Mu.pQ];congr 2;split<;>simp
 by_cases p:s.w=⟨L,K,S,N⟩
 . have D:=f.cw
   rw[p]at D;have m:=gT (main:=main) (cs:=u++cs) j (C.Vf b o kind L K S aw sv it) B X.kQ hold i D (f.fz o)
   by_cases d:(L||S)=true
   . have q:((.gx sv:Mu.Pc),({s with w:=Mu.pQ ⟨L,K,S,N⟩ ⟨aw,sv,it⟩}:Mu.Sh))∈Mu.mv (.kQ ⟨L,K,S,N⟩ ⟨aw,sv,it⟩) s:=by
      simp only[Mu.mv,k,Bool.false_eq_true,if_false,p,if_true,d,List.mem_singleton]
     by_cases r:y.ws=0
     . have key:=C.Te (Fl.of y) b o kind L K S aw sv it d
       rw[Pz (by simpa using r)]at key
       exact⟨_,_,_,_,_,.t1 sv,m,q,.t1 _,nxt key t j a rfl rfl,vB rfl,f.aO _,kV (.inl rfl),λ_=>rfl⟩
     . have key:=C.Tf (Fl.of y) b o kind L K S aw sv it d
       rw[Pz (by simpa using r)]at key
       exact⟨_,_,_,_,_,.gx sv,m,q,.gx _,nxt key t j a rfl rfl,vB rfl,f.aO _,kV (.inl rfl),λ_=>rfl⟩
   . have E:(L||S)=false:=by simpa using d
     have G:L=false:=by cases L<;>simp_all
     have H:S=false:=by cases S<;>simp_all
     subst G;subst H;refine⟨_,_,_,.held,{s with w:=Mu.pQ ⟨false,K,false,N⟩ ⟨aw,sv,it⟩},.le,m,?_,.held,nxt (C.cT (Fl.of y) b o kind K aw sv it) t j a rfl (.inr rfl),vB rfl,f.aO _,kV (.inl rfl),λ_=>rfl⟩
     simp only[Mu.mv,k,Bool.false_eq_true,if_false,p,if_true,Bool.or_self,List.mem_singleton]
 . have A:¬enc s.w.L s.w.K s.w.S s.w.N=enc L K S N:=λe=>p (PB.2 e)
   refine⟨_,_,_,.rd ⟨aw,sv,it⟩,s,.rd _,iv j (C.Vf b o kind L K S aw sv it) B X.kQ hold i f.cw (f.fz o) A,?_,.rd _,nxt (C.cd (Fl.of y) b o kind L K S aw sv it) t j a rfl (.inr (.inr rfl)),bh rfl,f,GO (.inl rfl),λ_=>rfl⟩
   simp only[Mu.mv,k,Bool.false_eq_true,if_false,p,List.mem_singleton]
include C X in
theorem H8{sv:Bool}(f:ShM b o w s)(k:s.ms≠0)(h:nY P n b o kind (.gx sv) cs g):mf P n b o kind Wd cs g w main (.gx sv) s:=by
 obtain⟨c,y,fr,i,rfl,l,j,d,rfl⟩:=h;have a:=sR (main:=main) (cs:=i++cs) (w:=w) (n:=(s.ms:Int)) j (C.Vg b o kind sv) (by simp[PK,cM]) X.Fo f.cs (by omega) (f.fz _);have e:((s.ms:Int)-1)=((s.ms-1:Nat):Int):=by omega
 rw[e]at a;cases sv with
 |true=>exact⟨_,_,_,.up true,{s with ms:=s.ms-1},.up true,a,by simp[Mu.mv,k],.up _,nxt (C.Tg (Fl.of y) b o kind) l j d rfl rfl,On rfl,f.Fq _,vL,λ_=>rfl⟩
 |false=>exact⟨_,_,_,.tq,{s with ms:=s.ms-1},.tq,a,by simp[Mu.mv,k],.tq,nxt (C.Ti (Fl.of y) b o kind) l j d rfl rfl,On rfl,f.Fq _,vL,λ_=>rfl⟩
include C X in
theorem Di{sv:Bool}(d:ShM b o w s)(e:s.ms=0)(h:nY P n b o kind (.gx sv) cs g):stepG P main g w=.go {g with status:=.blocked} w #[]:=by obtain⟨c,y,fr,f,rfl,k,i,j,rfl⟩:=h;have a:=d.cs;rw[e]at a;exact Ac i (C.Vg b o kind sv) X.Fo a
include C X in
theorem Ou(k:ShM b o w s)(h:nY P n b o kind .tq cs g):mf P n b o kind Wd cs g w main .tq s:=by
 obtain⟨c,y,fr,d,rfl,l,j,e,rfl⟩:=h;have f:=Ad (P:=P) (main:=main) (cs:=d++cs) (w:=w) j (C.We b o kind) (by simp[TQ,cM]) X.nano X.KX;have i:=j.re (y':={y with tn:=((w.os.mono+w.tick:Nat):Int)}) (.inl rfl) (.inl rfl) (.inl rfl) (.inr rfl);have a:=e.gL (y':={y with tn:=((w.os.mono+w.tick:Nat):Int)}) (by simpa[TQ,cM]using C.p2 b o kind);have key:=C.oZ (Fl.of {y with tn:=((w.os.mono+w.tick:Nat):Int)}) b o kind (decide (IntKind.i64.wrap (((w.os.mono+w.tick:Nat):Int)-y.ws)>1000000));rw[Tm rfl]at key;refine⟨_,_,_,.up (decide (IntKind.i64.wrap (((w.os.mono+w.tick:Nat):Int)-y.ws)>1000000)),s,.up _,f,?_,.up _,nxt (y:={y with tn:=((w.os.mono+w.tick:Nat):Int)}) key l i a rfl rfl,bh rfl ⟨⟨w.tick,rfl⟩,rfl⟩,k.heap rfl,fL,λ_=>rfl⟩;cases decide (IntKind.i64.wrap (((w.os.mono+w.tick:Nat):Int)-y.ws)>1000000)<;>simp[Mu.mv]
include C X in
theorem Ov{sv:Bool}(m:ShM b o w s)(hb:s.w.N<=1000)(x:∀q s',(q,s')∈Mu.mv (.up sv) s->Mu.loc q)(h:nY P n b o kind (.up sv) cs g):mf P n b o kind Wd cs g w main (.up sv) s:=by
 obtain⟨c,y,fr,p,rfl,B,z,r,rfl⟩:=h;have f:({y with N:=(s.w.N:Int)}:Sy).ok:=⟨⟨by simp,by show(s.w.N:Int)<=1000;omega⟩,B.2⟩
 have i:=z.re (y':={y with N:=(s.w.N:Int)}) (.inr rfl) (.inl rfl) (.inl rfl) (.inl rfl)
 have e:=r.gL (y':={y with N:=(s.w.N:Int)}) (by simpa[UP,cM]using C.p2 b o kind)
 have j:=qy (main:=main) (cs:=p++cs) z (C.Wf b o kind sv) X.Tj X.nS m.cw
 by_cases k:s.w.S=true
 . have t:(s.w.L||s.w.K||decide (s.w.N=0))=false:=by
    cases D:(s.w.L||s.w.K||decide (s.w.N=0))with
    |false=>rfl
    |true=>exact(x .bad s (by simp[Mu.mv,k,D])).elim
   have a:((.add s.w sv:Mu.Pc),s)∈Mu.mv (.up sv) s:=by simp[Mu.mv,k,t]
   simp only[Bool.or_eq_false_iff,decide_eq_false_iff_not]at t;obtain⟨⟨E,F⟩,u⟩:=t;have key:=C.nG (Fl.of {y with N:=(s.w.N:Int)}) b o kind sv (decide (s.w.N=1))
   rw[Qw (by show decide ((s.w.N:Int)=0)=false;simpa using u) (by show decide ((s.w.N:Int)=1)=decide (s.w.N=1);rw[Bool.eq_iff_iff,decide_eq_true_iff,decide_eq_true_iff];omega)]at key
   have v:SR {y with N:=(s.w.N:Int)} (.word false false true 0) (.int .i32 (enc s.w.L s.w.K s.w.S s.w.N)):=by rw[E,F,k];exact qA rfl
   exact⟨_,w,#[],_,s,.add s.w sv,j,a,.add _ _,nxt (y:={y with N:=(s.w.N:Int)}) key f i e v rfl,bh rfl,m,fL,λ_=>rfl⟩
 . have d:s.w.S=false:=by simpa using k
   have a:(Mu.nx s.w ⟨true,sv,0⟩,s)∈Mu.mv (.up sv) s:=by simp[Mu.mv,d]
   have v:SR {y with N:=(s.w.N:Int)} (.word s.w.L s.w.K false 0) (.int .i32 (enc s.w.L s.w.K s.w.S s.w.N)):=by rw[d];exact qA rfl
   obtain⟨G,A,H,I,J⟩:=Tk (Wd:=Wd) (C.vJ (Fl.of {y with N:=(s.w.N:Int)}) b o kind s.w.L s.w.K sv) f i e v
   obtain⟨M,O,Q⟩:=GZ C (Wd:=Wd) (cs:=cs) (old:=s.w) (l:=⟨true,sv,0⟩) f rfl (by rw[d];exact H) (by rw[d];exact I) (x _ _ a)
   exact⟨_,w,#[],_,s,RE s.w ⟨true,sv,0⟩,j,a,PA _ _,⟨rfl,M,(J cs).trans O,Q⟩,bh rfl,m,fL,λ_=>rfl⟩
include C X in
theorem K4{old:Mu.Wd}{sv:Bool}(d:ShM b o w s)(hb:s.w.N<=1000)(k:s.w.L=false)(l:s.w.S=true)(r:s.w.N≠0)(h:nY P n b o kind (.add old sv) cs g):mf P n b o kind Wd cs g w main (.add old sv) s:=by
 obtain⟨c,y,fr,f,rfl,m,j,i,rfl⟩:=h;have a:=pS (main:=main) (cs:=f++cs) (w:=w) j (C.Wg b o kind _) (by simp[AD,cM]) X.add (λx h=>h) d.cw (d.fz _)
 have e:IntKind.i32.wrap (enc s.w.L s.w.K s.w.S s.w.N+(if !sv||decide (old.N=1)then -11 else -7))=enc true s.w.K (s.w.S && !(!sv||decide (old.N=1))) (s.w.N-1:Nat):=by
  rw[k,l];have p:((s.w.N-1:Nat):Int)=(s.w.N:Int)-1:=by omega
  rw[p];generalize (!sv||decide (old.N=1))=x;have q:=ma (L:=false) (K:=s.w.K) (S:=true) (N:=(s.w.N:Int));rw[iS (by split<;>omega) (by split<;>omega)];unfold enc;cases x<;>cases s.w.K<;>simp[Bool.toNat]<;>omega
 rw[e]at a;exact⟨_,_,_,.held,{s with w:={s.w with L:=true,S:=s.w.S && !(!sv||decide (old.N=1)),N:=s.w.N-1}},.le,a,by simp[Mu.mv],.held,nxt (C.yB (Fl.of y) b o kind _) m j i trivial (.inr rfl),vB rfl,d.aO {s.w with L:=true,S:=s.w.S && !(!sv||decide (old.N=1)),N:=s.w.N-1},kV (.inl rfl),λ_=>rfl⟩
include C X in
theorem H9(t:ShM b o w s)(hb:s.w.N<=1000)(q:s.w.L=true)(h:nY P n b o kind .held cs g):mf P n b o kind Wd cs g w main .held s:=by
 obtain⟨c,y,fr,u,rfl,B,A,v,rfl⟩:=h;have k:({y with N:=(s.w.N:Int)}:Sy).ok:=⟨⟨by simp,by show(s.w.N:Int)<=1000;omega⟩,B.2⟩
 have l:=A.re (y':={y with N:=(s.w.N:Int)}) (.inr rfl) (.inl rfl) (.inl rfl) (.inl rfl)
 have d:=v.gL (y':={y with N:=(s.w.N:Int)}) (by simpa[rI,o6]using(C.p3 b o kind).1)
 have i:=pS (main:=main) (cs:=u++cs) (w:=w) A (C.Vi b o kind) (by simp[rI,o6]) X.add (λx h=>h) t.cw (t.fz _)
 have e:IntKind.i32.wrap (enc s.w.L s.w.K s.w.S s.w.N+-1)=enc false s.w.K s.w.S s.w.N:=by
  rw[q];have D:=ma (L:=true) (K:=s.w.K) (S:=s.w.S) (N:=(s.w.N:Int));rw[iS (by omega) (by omega)]
  unfold enc;simp[Bool.toNat];omega
 rw[e]at i;have m:=t.aO {s.w with L:=false}
 have p:SR {y with N:=(s.w.N:Int)} (.word false s.w.K s.w.S 0) (.int .i32 (enc false s.w.K s.w.S s.w.N)):=qA rfl
 by_cases r:s.w.S=true
 . have key:=C.V4 (Fl.of {y with N:=(s.w.N:Int)}) b o kind (decide ((s.w.N:Int)=0)) s.w.K
   rw[r]at p;exact⟨_,_,_,.give,{s with w:={s.w with L:=false}},.give,i,by simp[Mu.mv,q,r,Mu.Wd.zero],.give,nxt (y:={y with N:=(s.w.N:Int)}) key k l d (by rw[r];exact p) (.inr rfl),vB rfl,m,kV (.inl rfl),λ_=>rfl⟩
 . have f:s.w.S=false:=by simpa using r
   by_cases z:(decide ((s.w.N:Int)=0)||s.w.K)=true
   . have key:=C.u5 (Fl.of {y with N:=(s.w.N:Int)}) b o kind (decide ((s.w.N:Int)=0)) s.w.K z
     refine⟨_,_,_,.out,{s with w:={s.w with L:=false}},.ue,i,?_,.out,nxt (y:={y with N:=(s.w.N:Int)}) key k l d (by rw[f]at p ⊢;exact p) rfl,vB rfl,m,kV (.inl rfl),λ_=>rfl⟩
     have a:(decide (s.w.N=0)||s.w.K)=true:=by simpa using z
     simp only[Mu.mv,q,Bool.true_eq_false,if_false,List.mem_singleton,Prod.mk.injEq,and_true];split
     . rfl
     . simp only
   . have a:(decide ((s.w.N:Int)=0)||s.w.K)=false:=by simpa using z
     simp only[Bool.or_eq_false_iff,decide_eq_false_iff_not]at a;have j:s.w.N≠0:=by have:=a.1;omega
     have key:=C.V5 (Fl.of {y with N:=(s.w.N:Int)}) b o kind
     rw[GY (by show decide ((s.w.N:Int)=0)=false;simpa using j)]at key
     rw[a.2,f]at p;refine⟨_,_,_,.iY {s.w with L:=false},{s with w:={s.w with L:=false}},.iY _,i,?_,.iY _,nxt (y:={y with N:=(s.w.N:Int)}) key k l d (by rw[a.2,f];exact p) ⟨rfl,rfl,rfl,a.2,f,j⟩,vB rfl,m,kV (.inl rfl),λ_=>rfl⟩
     have E:({s.w with L:=false}:Mu.Wd)≠Mu.Wd.zero:=λe=>j (by have:=congrArg Mu.Wd.N e;exact this)
     simp[Mu.mv,q,f,j,a.2,Mu.Wd.zero]
include C X in
theorem Ia{old:Mu.Wd}(d:ShM b o w s)(h:nY P n b o kind (.iY old) cs g):mf P n b o kind Wd cs g w main (.iY old) s:=by
 obtain⟨c,y,fr,A,⟨rfl,k,q,r,t,l⟩,u,i,f,rfl⟩:=h;obtain⟨L,K,S,N⟩:=old;simp only at k q r t l;subst q;subst r;subst t;have v:(UC P n b o kind).1.kind≠.early:=by simp[UC,ve]
 have hold:∀x,SR y wf x->x=.int .i32 (enc false false false N):=λx m=>by have:=m.1;rw[k,Int.add_zero]at this;exact this
 have a:∀x,SR y (.word false true false (-1)) x->x=.int .i32 (enc false true false (N-1:Nat)):=λx m=>by have:=m.1;rw[k]at this;rw[this];congr 2;omega
 by_cases j:s.w=⟨false,false,false,N⟩
 . have z:=d.cw
   rw[j]at z;exact⟨_,_,_,.give,{s with w:=⟨false,true,false,N-1⟩},.give,gT i (C.Vj b o kind) v X.kQ hold a z (d.fz o),by simp[Mu.mv,j],.give,nxt (C.V6 (Fl.of y) b o kind) u i f rfl (.inl rfl),vB rfl,d.aO ⟨false,true,false,N-1⟩,kV (.inl rfl),λ_=>rfl⟩
 . have p:¬enc s.w.L s.w.K s.w.S s.w.N=enc false false false N:=λe=>j (PB.2 e)
   exact⟨_,_,_,.vz,s,.vz,iv i (C.Vj b o kind) v X.kQ hold a d.cw (d.fz o) p,by simp[Mu.mv,j],.vz,nxt (C.V7 (Fl.of y) b o kind) u i f rfl rfl,bh rfl,d,GO (.inl rfl),λ_=>rfl⟩
include C X in
theorem K5(k:ShM b o w s)(hb:s.w.N<=1000)(h:nY P n b o kind .vz cs g):mf P n b o kind Wd cs g w main .vz s:=by
 obtain⟨c,y,fr,l,rfl,z,x,m,rfl⟩:=h;have e:({y with N:=(s.w.N:Int)}:Sy).ok:=⟨⟨by simp,by show(s.w.N:Int)<=1000;omega⟩,z.2⟩
 have f:=x.re (y':={y with N:=(s.w.N:Int)}) (.inr rfl) (.inl rfl) (.inl rfl) (.inl rfl)
 have d:=m.gL (y':={y with N:=(s.w.N:Int)}) (by simpa[Nq,ve]using C.p4 b o kind)
 have i:=qy (main:=main) (cs:=l++cs) x (C.Wo b o kind) X.Tj X.nV k.cw;have p:SR {y with N:=(s.w.N:Int)} (.word s.w.L s.w.K s.w.S 0) (.int .i32 (enc s.w.L s.w.K s.w.S s.w.N)):=qA rfl
 by_cases q:(decide ((s.w.N:Int)=0)||s.w.L||s.w.K||s.w.S)=true
 . have key:=C.u7 (Fl.of {y with N:=(s.w.N:Int)}) b o kind (decide ((s.w.N:Int)=0)) s.w.L s.w.K s.w.S q
   have a:(decide (s.w.N=0)||s.w.L||s.w.K||s.w.S)=true:=by simpa using q
   exact⟨_,w,#[],.out,s,.ue,i,by simp only[Mu.mv,a,if_true,List.mem_singleton],.out,nxt (y:={y with N:=(s.w.N:Int)}) key e f d p rfl,bh rfl,k,fL,λ_=>rfl⟩
 . have a:(decide ((s.w.N:Int)=0)||s.w.L||s.w.K||s.w.S)=false:=by simpa using q
   have r:(decide (s.w.N=0)||s.w.L||s.w.K||s.w.S)=false:=by rw[<-a];simp
   simp only[Bool.or_eq_false_iff,decide_eq_false_iff_not]at a;obtain⟨⟨⟨A,t⟩,u⟩,v⟩:=a;have j:s.w.N≠0:=by omega
   have key:=C.V8 (Fl.of {y with N:=(s.w.N:Int)}) b o kind
   rw[GY (by show decide ((s.w.N:Int)=0)=false;simpa using j)]at key
   rw[t,u,v]at p;exact⟨_,w,#[],.iY s.w,s,.iY _,i,by simp only[Mu.mv,r,Bool.false_eq_true,if_false,List.mem_singleton],.iY _,nxt (y:={y with N:=(s.w.N:Int)}) key e f d (by rw[t,u,v];exact p) ⟨rfl,rfl,t,u,v,j⟩,bh rfl,k,fL,λ_=>rfl⟩
include C X in
theorem Ib(d:ShM b o w s)(m:s.ms<=1000)(h:nY P n b o kind .give cs g):mf P n b o kind Wd cs g w main .give s:=by
 obtain⟨c,y,fr,f,l,k,j,i,rfl⟩:=h;have e:IntKind.u32.wrap ((s.ms:Int)+1)=((s.ms+1:Nat):Int):=by rw[IntKind.wrap_u32];omega
 rcases l with rfl|rfl
 . have a:=oE (main:=main) (cs:=f++cs) (w:=w) j (C.Vk b o kind) (by simp[G7,ve]) X.oH d.cs (d.fz _)
   rw[e]at a;exact⟨_,_,_,.out,{s with ms:=s.ms+1},.ue,a,by simp[Mu.mv],.out,nxt (C.u8 (Fl.of y) b o kind) k j i rfl rfl,On rfl,d.Fq _,vL,λ_=>rfl⟩
 . have a:=oE (main:=main) (cs:=f++cs) (w:=w) j (C.Vl b o kind) (by simp[G9,ve]) X.oH d.cs (d.fz _)
   rw[e]at a;exact⟨_,_,_,.out,{s with ms:=s.ms+1},.ue,a,by simp[Mu.mv],.out,nxt (C.u9 (Fl.of y) b o kind) k j i rfl rfl,On rfl,d.Fq _,vL,λ_=>rfl⟩
end
end Go.bd

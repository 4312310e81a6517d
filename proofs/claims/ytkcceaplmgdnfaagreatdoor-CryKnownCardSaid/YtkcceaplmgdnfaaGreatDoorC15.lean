import Derived.Test.YtkcceaplmgdnfaaGreatDoorC14
set_option linter.all false
namespace Go.bu
open Go.Conc
inductive To:Mu.Pc->qR->Prop
 |out:To .out .ue
 |rd (l:Mu.Lo):To (.rd l) (.rd l)
 |sq (old:Mu.Wd) (l:Mu.Lo):To (.sq old l) (.sq old l)
 |sw (old:Mu.Wd) (l:Mu.Lo):To (.sw old l) (.sw old l)
 |jI (old:Mu.Wd) (l:Mu.Lo):To (.jI old l) (.jI old l)
 |t1 (sv:Bool):To (.fA sv) (.t1 sv)
 |fA (sv:Bool):To (.fA sv) (.fA sv)
 |tq:To .tq .tq
 |up (sv:Bool):To (.up sv) (.up sv)
 |add (old:Mu.Wd) (sv:Bool):To (.add old sv) (.add old sv)
 |held:To .held .le
 |ir (old:Mu.Wd):To (.ir old) (.ir old)
 |ub:To .ub .ub
 |give:To .give .give
def kP(P:Program)(n:xy)(b o:Nat)(kind:CallKind)(Wd:World->Prop)(cs:List Frame)(g:Goroutine)(w:World)(main:Bool)(pc:Mu.Pc)(s:Mu.Sh):Prop:=∃c a es q e f,stepG P main g w=.go c a es/\(q,e)∈Mu.mv pc s/\To q f/\Next P n b o kind Wd cs f c/\MW b o w a/\ShM b o a e/\EvM b o es/\∀d,deafBehind d es=d
theorem aZ{b o:Nat}{w w':World}(h:w'.heap=w.heap)(a:lx w.os w'.os/\w'.output=w.output:=by exact⟨lx.refl _,rfl⟩):MW b o w w':=⟨a,.inl h⟩
theorem ug{b o:Nat}{w:World}{v:Value}(h:flat v=true):MW b o w (w.setCell ⟨b,o,none⟩ v):=⟨⟨.refl _,rfl⟩,.inr ⟨o,v,.inl rfl,h,rfl⟩⟩
theorem MJ{b o:Nat}{w:World}{v:Value}(h:flat v=true):MW b o w (w.setCell ⟨b,o+1,none⟩ v):=⟨⟨.refl _,rfl⟩,.inr ⟨o+1,v,.inr rfl,h,rfl⟩⟩
theorem E6{L K S a b c:Bool}{N d:Nat}:enc L K S N=enc a b c d↔(L=a/\K=b/\S=c/\N=d):=by
 unfold enc;constructor
 . intro h
   cases L<;>cases K<;>cases S<;>cases a<;>cases b<;>cases c<;>simp[Bool.toNat]at h ⊢<;>omega
 simp_all
section
variable{P:Program}{n:xy}(C:eY P n)(X:eZ P n){b o:Nat}{kind:CallKind}{Wd:World->Prop}{cs:List Frame}{g:Goroutine}{w:World}{main:Bool}{s:Mu.Sh}
theorem E7{w:Mu.Wd}:w=Mu.Wd.zero↔(enc w.L w.K w.S w.N=0):=by
 obtain⟨L,K,S,N⟩:=w;rw[vw (by simp)];simp[Mu.Wd.zero]
include C X in
theorem F7(d:ShM b o w s)(h:mO P n b o kind .fZ cs g):kP P n b o kind Wd cs g w main .fZ s:=by
 obtain⟨c,y,fr,A,rfl,l,j,f,rfl⟩:=h;have q:(sj P n b o kind).1.kind≠.early:=by simp[sj,lF]
 by_cases k:s.w=Mu.Wd.zero
 . have m:enc s.w.L s.w.K s.w.S s.w.N=0:=E7.1 k
   have r:=d.cw;rw[m]at r;refine⟨_,_,_,.held,{s with w:={Mu.Wd.zero with L:=true}},.le,fT j (C.o2 b o kind) q X.jI (v:=0) (n:=1) (λx h=>h) (λx h=>h) r (d.fz o),by simp[Mu.mv,k],.held,nxt (C.e2 _ b o kind) l j f rfl (.inl rfl),ug rfl,?_,jM (.inl rfl),λ_=>rfl⟩;have:=d.aP {Mu.Wd.zero with L:=true};exact this
 . have m:¬enc s.w.L s.w.K s.w.S s.w.N=0:=λe=>k (E7.2 e)
   refine⟨_,_,_,.rd ⟨false,false,0⟩,s,.rd ⟨false,false,0⟩,gE j (C.o2 b o kind) q X.jI (old:=0) (n:=1) (λx h=>h) (λx h=>h) d.cw (d.fz o) m,by simp[Mu.mv,k],.rd _,⟨rfl,?_⟩,aZ rfl,d,E1 (.inl rfl),λ_=>rfl⟩;obtain⟨p,i,B,D,E⟩:=N7 (Wd:=Wd) (x:=.bool false) (C.e3 _ b o kind) l j f rfl;refine⟨_,E cs,O5 P n b o kind false false 0,{y with ws:=0},p,i,.inl rfl,l,?_,?_,rfl⟩
   . have a:=B.re (y':={y with ws:=0}) (.inl rfl) (.inl rfl) (.inr rfl) (.inl rfl)
     refine⟨a.fn,a.todo,a.defers,a.mode,a.kind,a.ro,a.size.trans rfl,λt=>?_⟩;have u:=a.env t;by_cases z:t=2
     . subst z;exact u
     . have e:(O5 P n b o kind false false 0).1.env=(Tl P n b o kind).1.env.set 2 .F4:=rfl
       rw[e,List.getD_eq_getElem?_getD,List.getElem?_set_ne (Ne.symm z),<-List.getD_eq_getElem?_getD];exact u
   . exact D.fF (by simpa[Tl,cu]using C.p2 b o kind)
theorem oT{y:Sy}{L K S:Bool}{N:Nat}(h:y.N=N):SR y (.word L K S 0) (.int .i32 (enc L K S N)):=by
 refine⟨?_,?_,by decide⟩
 . simp_all
 omega
theorem E8{y:Sy}{x:Bool}(h:decide (y.N=0)=x):{Fl.of y with n0:=x}=Fl.of y:=by subst h;rfl
theorem O8{y:Sy}{x z:Bool}(h:decide (y.N=0)=x)(a:decide (y.N=1)=z):{Fl.of y with n0:=x,n1:=z}=Fl.of y:=by subst h;subst a;rfl
theorem N8{y:Sy}{x:Bool}(h:decide (y.ws=0)=x):{Fl.of y with wz:=x}=Fl.of y:=by subst h;rfl
theorem RH{y:Sy}{x:Bool}(h:decide (IntKind.i64.wrap (y.tn-y.ws)>1000000)=x):{Fl.of y with tb:=x}=Fl.of y:=by subst h;rfl
def Qv(old:Mu.Wd)(l:Mu.Lo):qR:=if old.L && !old.S then .sq old l else .jI old l
theorem N9(old:Mu.Wd)(l:Mu.Lo):To (Mu.nx old l) (Qv old l):=by
 unfold Mu.nx Qv;split
 . exact .sq _ _
 . exact .jI _ _
include C in
theorem E9{y:Sy}{old:Mu.Wd}{l:Mu.Lo}{fr:Frame}{frs:List Frame}(e:y.ok)(m:y.N=old.N)(p:FR y (HD P n b o kind old.L old.K old.S l.aw l.sv l.it).1 fr)(d:lj y (HD P n b o kind old.L old.K old.S l.aw l.sv l.it).2 frs)(f:Mu.loc (Mu.nx old l)):
 ∃q,qO P Wd (G fr (frs++cs)) q/\mO P n b o kind (Qv old l) cs q:=by
 obtain⟨L,K,S,N⟩:=old;obtain⟨aw,sv,it⟩:=l;unfold Qv;unfold Mu.nx at f;by_cases h:(L && !S)=true
 . simp only[h,if_true]at f ⊢
   simp only[Bool.and_eq_true,Bool.not_eq_true']at h;obtain⟨rfl,rfl⟩:=h;obtain⟨c,a,g,i,j⟩:=RG (Wd:=Wd) (C.e8 (Fl.of y) b o kind K aw sv it) e p d;exact⟨_,j cs,_,y,c,a,⟨rfl,m,rfl,rfl⟩,e,g,i,rfl⟩
 . have r:(L && !S)=false:=by simpa using h
   rw[if_neg h]at f ⊢
   have k:(aw && !K)=false:=by
    cases aw with
    |false=>rfl
    |true=>have:=f.1 rfl;simp at this;simp[this]
   obtain⟨c,a,g,i,j⟩:=RG (Wd:=Wd) (C.e9 (Fl.of y) b o kind L K S aw sv it r k) e p d;exact⟨_,j cs,_,y,c,a,⟨rfl,m⟩,e,g,i,rfl⟩
include C X in
theorem MK{l:Mu.Lo}(j:ShM b o w s)(hb:s.w.N<=1000)(p:Mu.loc (Mu.nx s.w l))(h:mO P n b o kind (.rd l) cs g):kP P n b o kind Wd cs g w main (.rd l) s:=by
 obtain⟨c,y,fr,e,q,r,k,f,rfl⟩:=h;have a:({y with N:=(s.w.N:Int)}:Sy).ok:=⟨⟨by simp,by show(s.w.N:Int)<=1000;omega⟩,r.2⟩
 have key:pq c.1=some (n.tI,pt b o)->c.1.fn=n.O3->(c.1.env.all (λv=>!EY v)=true)->c.2=Tj P n b o kind->n9 P (Fl.of {y with N:=(s.w.N:Int)}) [0,2,3,4,5,6] c (.word s.w.L s.w.K s.w.S 0)=some (HD P n b o kind s.w.L s.w.K s.w.S l.aw l.sv l.it) ->
  kP P n b o kind Wd cs (G fr (e++cs)) w main (.rd l) s:=λt u x z A=>by
  have i:=k.re (y':={y with N:=(s.w.N:Int)}) (.inr x) (.inl rfl) (.inl rfl) (.inl rfl);have d:=f.fF (y':={y with N:=(s.w.N:Int)}) (by rw[z];exact C.p2 b o kind);obtain⟨B,m,D,E,F⟩:=RF (Wd:=Wd) A a i d (oT rfl);obtain⟨H,I,J⟩:=E9 C (Wd:=Wd) (cs:=cs) (old:=s.w) (l:=l) a rfl D E p;exact⟨_,w,#[],_,s,Qv s.w l,oQ k t X.RE (by rw[u];exact X.nS) j.cw,by simp[Mu.mv],N9 _ _,⟨rfl,H,(F cs).trans I,J⟩,aZ rfl,j,eF,λ_=>rfl⟩
 rcases q with rfl|rfl|rfl
 . exact key (C.UY ..) rfl rfl rfl (C.Rq ..)
 . exact key (C.UZ ..) rfl rfl rfl (C.Rr ..)
 . exact key (C.U1 ..) rfl rfl rfl (C.Qr ..)
include C X in
theorem zx{y:Sy}{aw sv:Bool}{it:Nat}{fr:Frame}{frs:List Frame}(f:it<4)(g:y.ok)(e:FR y (DS P n b o kind aw sv it).1 fr)(d:lj y (DS P n b o kind aw sv it).2 frs):
 ∃c,qO P Wd (G fr (frs++cs)) c/\mO P n b o kind (.rd ⟨aw,sv,it+1⟩) cs c:=by
 have a:qd P Wd (G fr (frs++cs)) (G (fr.finish (.tuple #[])) (frs++cs)):=⟨rfl,λmain w _=>se e (C.o9 b o kind aw sv it) (by simp[DS,cu]) X.si⟩
 have key:aN P (Fl.of y) [0,2,3,4,5,47] (DS P n b o kind aw sv it) un=some (EW P n b o kind aw sv (it+1:Nat)):=by
  have:it=0\/it=1\/it=2\/it=3:=by omega
  rcases this with rfl|rfl|rfl|rfl
  . exact C.Rt ..
  . exact C.Ru ..
  . exact C.Rv ..
  . exact C.Rw ..
 obtain⟨_,c,h,i⟩:=nxt (P:=P) (n:=n) (b:=b) (o:=o) (kind:=kind) (Wd:=Wd) (cs:=cs) (x:=.tuple #[]) (p:=.rd ⟨aw,sv,it+1⟩) key g e d rfl (.inr (.inl rfl));exact⟨c,a.yf.trans h,i⟩
include C X in
theorem ML{old:Mu.Wd}{l:Mu.Lo}(t:ShM b o w s)(M:Mu.loc (.sq old l))(h:mO P n b o kind (.sq old l) cs g):kP P n b o kind Wd cs g w main (.sq old l) s:=by
 obtain⟨c,y,fr,u,⟨rfl,k,D,E⟩,q,m,d,rfl⟩:=h;obtain⟨L,K,S,N⟩:=old;obtain⟨aw,sv,it⟩:=l;simp only at k D E m d;subst D;subst E;obtain⟨F,G,O,_,_⟩:=M;simp only at F G O
 have v:(aw && !K)=false:=by
  cases aw with
  |false=>rfl
  |true=>simp[F rfl]
 obtain⟨r,j,z,Q,H⟩:=F5 (P:=P) (main:=main) (cs:=u++cs) (w:=w) m (C.o7 b o kind K aw sv it) (by simp[SQ,cu]) X.F6
 have a:j.heap=w.heap:=by rcases H with rfl|rfl<;>rfl
 have e:lx w.os j.os/\j.output=w.output:=by rcases H with rfl|rfl<;>exact⟨.refl _,rfl⟩
 cases r with
 |false=>refine⟨_,j,#[],.jI ⟨true,K,false,N⟩ ⟨aw,sv,it⟩,s,.jI _ _,z,by simp[Mu.mv,Mu.hd],.jI _ _,nxt (C.CQ (Fl.of y) b o kind K aw sv it v) q m d rfl ⟨rfl,k⟩,aZ a e,t.heap a,eF,λ_=>rfl⟩
 | true=>
   have f:it<4:=by have:=Q rfl;omega
   by_cases A:(!aw && !K && decide (N≠0))=true
   . simp only[Bool.and_eq_true,Bool.not_eq_true',decide_eq_true_eq]at A
     obtain⟨⟨rfl,rfl⟩,p⟩:=A;have:sv=false:=by cases sv with|false=>rfl|true=>exact absurd (G rfl) (by simp)
     subst this;have key:=C.xh (Fl.of y) b o kind it;rw[E8 (by rw[k];simpa using p)]at key
     exact⟨_,j,#[],.sw ⟨true,false,false,N⟩ ⟨false,false,it⟩,s,.sw _ _,z,by simp[Mu.mv,Mu.hd,f,p],.sw _ _,nxt key q m d rfl ⟨rfl,k,rfl,rfl,rfl,rfl,rfl⟩,aZ a e,t.heap a,eF,λ_=>rfl⟩
   . have i:(!aw && !K && decide (N≠0))=false:=by simpa using A
     have B:(!aw && !K && !decide (y.N=0))=false:=by
      rw[k]
      by_cases I:N=0
      . simp[I]
      . simp[I]at i ⊢;exact i
     have key:=C.Rs (Fl.of y) b o kind (decide (y.N=0)) K aw sv it B;rw[E8 rfl]at key;obtain⟨R,J,T,U,V⟩:=N7 (Wd:=Wd) (x:=.bool true) key q m d rfl;obtain⟨W,Y,Z⟩:=zx C X (Wd:=Wd) (cs:=cs) f q T U;refine⟨_,j,#[],.rd ⟨aw,sv,it+1⟩,s,.rd _,z,?_,.rd _,⟨rfl,W,(V cs).trans Y,Z⟩,aZ a e,t.heap a,eF,λ_=>rfl⟩
     simp only[Mu.mv,Mu.hd,f,i];simp
include C X in
theorem MM{old:Mu.Wd}{l:Mu.Lo}(f:ShM b o w s)(V:Mu.loc (.sw old l))(h:mO P n b o kind (.sw old l) cs g):kP P n b o kind Wd cs g w main (.sw old l) s:=by
 obtain⟨c,y,fr,W,⟨rfl,E,F,G,H,I,J⟩,m,i,d,rfl⟩:=h;obtain⟨L,K,S,N⟩:=old;obtain⟨aw,sv,it⟩:=l;simp only at E F G H I J i d;subst F;subst G;subst H;subst I;subst J;have j:it<4:=V.2.2.2.2.2;have M:(SW P n b o kind it).1.kind≠.early:=by simp[SW,cu]
 have a:∀q:Bool,∀x,SR y (.word true q false 0) x->x=.int .i32 (enc true q false N):=λq x Y=>by have:=Y.1;rw[E,Int.add_zero]at this;exact this
 by_cases p:s.w=⟨true,false,false,N⟩
 . have O:=f.cw
   rw[p]at O;obtain⟨r,k,t,u,v⟩:=N7 (Wd:=Wd) (x:=.bool true) (C.Me (Fl.of y) b o kind true it) m i d rfl;obtain⟨z,A,B⟩:=zx C X (Wd:=Wd) (cs:=cs) j m t u;refine⟨_,_,_,.rd ⟨true,false,it+1⟩,{s with w:=⟨true,true,false,N⟩},.rd _,fT i (C.o8 b o kind it) M X.jI (a false) (a true) O (f.fz o),by simp[Mu.mv,p],.rd _,⟨rfl,z,(v cs).trans A,B⟩,ug rfl,f.aP ⟨true,true,false,N⟩,jM (.inl rfl),λ_=>rfl⟩
 . have D:¬enc s.w.L s.w.K s.w.S s.w.N=enc true false false N:=λe=>p (by
    obtain⟨Q,R,T,U⟩:=E6.1 e;obtain⟨⟨L,K,S,Z⟩,ms⟩:=s;simp only at Q R T U;subst Q;subst R;subst T;subst U;rfl)
   obtain⟨r,k,t,u,v⟩:=N7 (Wd:=Wd) (x:=.bool false) (C.Me (Fl.of y) b o kind false it) m i d rfl;obtain⟨z,A,B⟩:=zx C X (Wd:=Wd) (cs:=cs) j m t u;exact⟨_,_,_,.rd ⟨false,false,it+1⟩,s,.rd _,gE i (C.o8 b o kind it) M X.jI (a false) (a true) f.cw (f.fz o) D,by simp[Mu.mv,p],.rd _,⟨rfl,z,(v cs).trans A,B⟩,aZ rfl,f,E1 (.inl rfl),λ_=>rfl⟩
end
section
variable{P:Program}{n:xy}(C:eY P n)(X:eZ P n){b o:Nat}{kind:CallKind}{Wd:World->Prop}{cs:List Frame}{g:Goroutine}{w:World}{main:Bool}{s:Mu.Sh}
theorem Oa{a c:Mu.Wd}:a=c↔enc a.L a.K a.S a.N=enc c.L c.K c.S c.N:=by obtain⟨L,K,S,N⟩:=a;obtain⟨b,d,e,f⟩:=c;rw[E6];simp
include C X in
theorem I3{old:Mu.Wd}{l:Mu.Lo}(f:ShM b o w s)(F:Mu.loc (.jI old l))(h:mO P n b o kind (.jI old l) cs g):kP P n b o kind Wd cs g w main (.jI old l) s:=by
 obtain⟨c,y,fr,u,⟨rfl,v⟩,t,j,a,rfl⟩:=h;obtain⟨L,K,S,N⟩:=old;obtain⟨aw,sv,it⟩:=l;simp only at v j a
 have k:(aw && !K)=false:=by
  cases aw with
  |false=>rfl
  |true=>have:=F.1 rfl;simp at this;simp[this]
 have B:(Bh P n b o kind L K S aw sv it).1.kind≠.early:=by simp[Bh,cu]
 have hold:∀x,SR y (.word L K S 0) x->x=.int .i32 (enc L K S N):=λx z=>by have:=z.1;rw[v,Int.add_zero]at this;exact this
 have i:∀x,SR y (MG L K S aw sv) x->x=.int .i32 (enc (Mu.nY ⟨L,K,S,N⟩ ⟨aw,sv,it⟩).L (Mu.nY ⟨L,K,S,N⟩ ⟨aw,sv,it⟩).K (Mu.nY ⟨L,K,S,N⟩ ⟨aw,sv,it⟩).S (Mu.nY ⟨L,K,S,N⟩ ⟨aw,sv,it⟩).N):=λx z=>by have:=z.1;rw[v]at this;rw[this];simp only[Mu.nY];congr 2;split<;>simp
 by_cases p:s.w=⟨L,K,S,N⟩
 . have D:=f.cw
   rw[p]at D;have m:=fT (main:=main) (cs:=u++cs) j (C.Qs b o kind L K S aw sv it) B X.jI hold i D (f.fz o)
   by_cases d:(L||S)=true
   . have q:((.fA sv:Mu.Pc),({s with w:=Mu.nY ⟨L,K,S,N⟩ ⟨aw,sv,it⟩}:Mu.Sh))∈Mu.mv (.jI ⟨L,K,S,N⟩ ⟨aw,sv,it⟩) s:=by
      simp only[Mu.mv,k,Bool.false_eq_true,if_false,p,if_true,d,List.mem_singleton]
     by_cases r:y.ws=0
     . have key:=C.Rx (Fl.of y) b o kind L K S aw sv it d
       rw[N8 (by simpa using r)]at key
       exact⟨_,_,_,_,_,.t1 sv,m,q,.t1 _,nxt key t j a rfl rfl,ug rfl,f.aP _,jM (.inl rfl),λ_=>rfl⟩
     . have key:=C.Ry (Fl.of y) b o kind L K S aw sv it d
       rw[N8 (by simpa using r)]at key
       exact⟨_,_,_,_,_,.fA sv,m,q,.fA _,nxt key t j a rfl rfl,ug rfl,f.aP _,jM (.inl rfl),λ_=>rfl⟩
   . have E:(L||S)=false:=by simpa using d
     have G:L=false:=by cases L<;>simp_all
     have H:S=false:=by cases S<;>simp_all
     subst G;subst H;refine⟨_,_,_,.held,{s with w:=Mu.nY ⟨false,K,false,N⟩ ⟨aw,sv,it⟩},.le,m,?_,.held,nxt (C.O7 (Fl.of y) b o kind K aw sv it) t j a rfl (.inr rfl),ug rfl,f.aP _,jM (.inl rfl),λ_=>rfl⟩
     simp only[Mu.mv,k,Bool.false_eq_true,if_false,p,if_true,Bool.or_self,List.mem_singleton]
 . have A:¬enc s.w.L s.w.K s.w.S s.w.N=enc L K S N:=λe=>p (Oa.2 e)
   refine⟨_,_,_,.rd ⟨aw,sv,it⟩,s,.rd _,gE j (C.Qs b o kind L K S aw sv it) B X.jI hold i f.cw (f.fz o) A,?_,.rd _,nxt (C.zu (Fl.of y) b o kind L K S aw sv it) t j a rfl (.inr (.inr rfl)),aZ rfl,f,E1 (.inl rfl),λ_=>rfl⟩
   simp only[Mu.mv,k,Bool.false_eq_true,if_false,p,List.mem_singleton]
include C X in
theorem F8{sv:Bool}(f:ShM b o w s)(k:s.ms≠0)(h:mO P n b o kind (.fA sv) cs g):kP P n b o kind Wd cs g w main (.fA sv) s:=by
 obtain⟨c,y,fr,i,rfl,l,j,d,rfl⟩:=h;have a:=qQ (main:=main) (cs:=i++cs) (w:=w) (n:=(s.ms:Int)) j (C.Qt b o kind sv) (by simp[PK,cu]) X.Dd f.cs (by omega) (f.fz _);have e:((s.ms:Int)-1)=((s.ms-1:Nat):Int):=by omega
 rw[e]at a;cases sv with
 |true=>exact⟨_,_,_,.up true,{s with ms:=s.ms-1},.up true,a,by simp[Mu.mv,k],.up _,nxt (C.Rz (Fl.of y) b o kind) l j d rfl rfl,MJ rfl,f.Df _,uB,λ_=>rfl⟩
 |false=>exact⟨_,_,_,.tq,{s with ms:=s.ms-1},.tq,a,by simp[Mu.mv,k],.tq,nxt (C.RA (Fl.of y) b o kind) l j d rfl rfl,MJ rfl,f.Df _,uB,λ_=>rfl⟩
include C X in
theorem Bl{sv:Bool}(d:ShM b o w s)(e:s.ms=0)(h:mO P n b o kind (.fA sv) cs g):stepG P main g w=.go {g with status:=.blocked} w #[]:=by obtain⟨c,y,fr,f,rfl,k,i,j,rfl⟩:=h;have a:=d.cs;rw[e]at a;exact yk i (C.Qt b o kind sv) X.Dd a
include C X in
theorem MN(k:ShM b o w s)(h:mO P n b o kind .tq cs g):kP P n b o kind Wd cs g w main .tq s:=by
 obtain⟨c,y,fr,d,rfl,l,j,e,rfl⟩:=h;have f:=yl (P:=P) (main:=main) (cs:=d++cs) (w:=w) j (C.Tn b o kind) (by simp[TQ,cu]) X.nano X.IX;have i:=j.re (y':={y with tn:=((w.os.mono+w.tick:Nat):Int)}) (.inl rfl) (.inl rfl) (.inl rfl) (.inr rfl);have a:=e.fF (y':={y with tn:=((w.os.mono+w.tick:Nat):Int)}) (by simpa[TQ,cu]using C.p2 b o kind);have key:=C.rU (Fl.of {y with tn:=((w.os.mono+w.tick:Nat):Int)}) b o kind (decide (IntKind.i64.wrap (((w.os.mono+w.tick:Nat):Int)-y.ws)>1000000));rw[RH rfl]at key;refine⟨_,_,_,.up (decide (IntKind.i64.wrap (((w.os.mono+w.tick:Nat):Int)-y.ws)>1000000)),s,.up _,f,?_,.up _,nxt (y:={y with tn:=((w.os.mono+w.tick:Nat):Int)}) key l i a rfl rfl,aZ rfl ⟨⟨w.tick,rfl⟩,rfl⟩,k.heap rfl,eF,λ_=>rfl⟩;cases decide (IntKind.i64.wrap (((w.os.mono+w.tick:Nat):Int)-y.ws)>1000000)<;>simp[Mu.mv]
include C X in
theorem MO{sv:Bool}(m:ShM b o w s)(hb:s.w.N<=1000)(x:∀q s',(q,s')∈Mu.mv (.up sv) s->Mu.loc q)(h:mO P n b o kind (.up sv) cs g):kP P n b o kind Wd cs g w main (.up sv) s:=by
 obtain⟨c,y,fr,p,rfl,B,z,r,rfl⟩:=h;have f:({y with N:=(s.w.N:Int)}:Sy).ok:=⟨⟨by simp,by show(s.w.N:Int)<=1000;omega⟩,B.2⟩
 have i:=z.re (y':={y with N:=(s.w.N:Int)}) (.inr rfl) (.inl rfl) (.inl rfl) (.inl rfl)
 have e:=r.fF (y':={y with N:=(s.w.N:Int)}) (by simpa[UP,cu]using C.p2 b o kind)
 have j:=oQ (main:=main) (cs:=p++cs) z (C.Qu b o kind sv) X.RE X.nS m.cw
 by_cases k:s.w.S=true
 . have t:(s.w.L||s.w.K||decide (s.w.N=0))=false:=by
    cases D:(s.w.L||s.w.K||decide (s.w.N=0))with
    |false=>rfl
    |true=>exact(x .bad s (by simp[Mu.mv,k,D])).elim
   have a:((.add s.w sv:Mu.Pc),s)∈Mu.mv (.up sv) s:=by simp[Mu.mv,k,t]
   simp only[Bool.or_eq_false_iff,decide_eq_false_iff_not]at t;obtain⟨⟨E,F⟩,u⟩:=t;have key:=C.MH (Fl.of {y with N:=(s.w.N:Int)}) b o kind sv (decide (s.w.N=1))
   rw[O8 (by show decide ((s.w.N:Int)=0)=false;simpa using u) (by show decide ((s.w.N:Int)=1)=decide (s.w.N=1);rw[Bool.eq_iff_iff,decide_eq_true_iff,decide_eq_true_iff];omega)]at key
   have v:SR {y with N:=(s.w.N:Int)} (.word false false true 0) (.int .i32 (enc s.w.L s.w.K s.w.S s.w.N)):=by rw[E,F,k];exact oT rfl
   exact⟨_,w,#[],_,s,.add s.w sv,j,a,.add _ _,nxt (y:={y with N:=(s.w.N:Int)}) key f i e v rfl,aZ rfl,m,eF,λ_=>rfl⟩
 . have d:s.w.S=false:=by simpa using k
   have a:(Mu.nx s.w ⟨true,sv,0⟩,s)∈Mu.mv (.up sv) s:=by simp[Mu.mv,d]
   have v:SR {y with N:=(s.w.N:Int)} (.word s.w.L s.w.K false 0) (.int .i32 (enc s.w.L s.w.K s.w.S s.w.N)):=by rw[d];exact oT rfl
   obtain⟨G,A,H,I,J⟩:=RF (Wd:=Wd) (C.xz (Fl.of {y with N:=(s.w.N:Int)}) b o kind s.w.L s.w.K sv) f i e v
   obtain⟨M,O,Q⟩:=E9 C (Wd:=Wd) (cs:=cs) (old:=s.w) (l:=⟨true,sv,0⟩) f rfl (by rw[d];exact H) (by rw[d];exact I) (x _ _ a)
   exact⟨_,w,#[],_,s,Qv s.w ⟨true,sv,0⟩,j,a,N9 _ _,⟨rfl,M,(J cs).trans O,Q⟩,aZ rfl,m,eF,λ_=>rfl⟩
include C X in
theorem I4{old:Mu.Wd}{sv:Bool}(d:ShM b o w s)(hb:s.w.N<=1000)(k:s.w.L=false)(l:s.w.S=true)(r:s.w.N≠0)(h:mO P n b o kind (.add old sv) cs g):kP P n b o kind Wd cs g w main (.add old sv) s:=by
 obtain⟨c,y,fr,f,rfl,m,j,i,rfl⟩:=h;have a:=n8 (main:=main) (cs:=f++cs) (w:=w) j (C.RD b o kind _) (by simp[AD,cu]) X.add (λx h=>h) d.cw (d.fz _)
 have e:IntKind.i32.wrap (enc s.w.L s.w.K s.w.S s.w.N+(if !sv||decide (old.N=1)then -11 else -7))=enc true s.w.K (s.w.S && !(!sv||decide (old.N=1))) (s.w.N-1:Nat):=by
  rw[k,l];have p:((s.w.N-1:Nat):Int)=(s.w.N:Int)-1:=by omega
  rw[p];generalize (!sv||decide (old.N=1))=x;have q:=kN (L:=false) (K:=s.w.K) (S:=true) (N:=(s.w.N:Int));rw[ia (by split<;>omega) (by split<;>omega)];unfold enc;cases x<;>cases s.w.K<;>simp[Bool.toNat]<;>omega
 rw[e]at a;exact⟨_,_,_,.held,{s with w:={s.w with L:=true,S:=s.w.S && !(!sv||decide (old.N=1)),N:=s.w.N-1}},.le,a,by simp[Mu.mv],.held,nxt (C.uy (Fl.of y) b o kind _) m j i trivial (.inr rfl),ug rfl,d.aP {s.w with L:=true,S:=s.w.S && !(!sv||decide (old.N=1)),N:=s.w.N-1},jM (.inl rfl),λ_=>rfl⟩
include C X in
theorem F9(t:ShM b o w s)(hb:s.w.N<=1000)(q:s.w.L=true)(h:mO P n b o kind .held cs g):kP P n b o kind Wd cs g w main .held s:=by
 obtain⟨c,y,fr,u,rfl,B,A,v,rfl⟩:=h;have k:({y with N:=(s.w.N:Int)}:Sy).ok:=⟨⟨by simp,by show(s.w.N:Int)<=1000;omega⟩,B.2⟩
 have l:=A.re (y':={y with N:=(s.w.N:Int)}) (.inr rfl) (.inl rfl) (.inl rfl) (.inl rfl)
 have d:=v.fF (y':={y with N:=(s.w.N:Int)}) (by simpa[qe,nI]using(C.p3 b o kind).1)
 have i:=n8 (main:=main) (cs:=u++cs) (w:=w) A (C.TN b o kind) (by simp[qe,nI]) X.add (λx h=>h) t.cw (t.fz _)
 have e:IntKind.i32.wrap (enc s.w.L s.w.K s.w.S s.w.N+-1)=enc false s.w.K s.w.S s.w.N:=by
  rw[q];have D:=kN (L:=true) (K:=s.w.K) (S:=s.w.S) (N:=(s.w.N:Int));rw[ia (by omega) (by omega)]
  unfold enc;simp[Bool.toNat];omega
 rw[e]at i;have m:=t.aP {s.w with L:=false}
 have p:SR {y with N:=(s.w.N:Int)} (.word false s.w.K s.w.S 0) (.int .i32 (enc false s.w.K s.w.S s.w.N)):=oT rfl
 by_cases r:s.w.S=true
 . have key:=C.UQ (Fl.of {y with N:=(s.w.N:Int)}) b o kind (decide ((s.w.N:Int)=0)) s.w.K
   rw[r]at p;exact⟨_,_,_,.give,{s with w:={s.w with L:=false}},.give,i,by simp[Mu.mv,q,r,Mu.Wd.zero],.give,nxt (y:={y with N:=(s.w.N:Int)}) key k l d (by rw[r];exact p) (.inr rfl),ug rfl,m,jM (.inl rfl),λ_=>rfl⟩
 . have f:s.w.S=false:=by simpa using r
   by_cases z:(decide ((s.w.N:Int)=0)||s.w.K)=true
   . have key:=C.u5 (Fl.of {y with N:=(s.w.N:Int)}) b o kind (decide ((s.w.N:Int)=0)) s.w.K z
     refine⟨_,_,_,.out,{s with w:={s.w with L:=false}},.ue,i,?_,.out,nxt (y:={y with N:=(s.w.N:Int)}) key k l d (by rw[f]at p ⊢;exact p) rfl,ug rfl,m,jM (.inl rfl),λ_=>rfl⟩
     have a:(decide (s.w.N=0)||s.w.K)=true:=by simpa using z
     simp only[Mu.mv,q,Bool.true_eq_false,if_false,List.mem_singleton,Prod.mk.injEq,and_true];split
     . rfl
     . simp only
   . have a:(decide ((s.w.N:Int)=0)||s.w.K)=false:=by simpa using z
     simp only[Bool.or_eq_false_iff,decide_eq_false_iff_not]at a;have j:s.w.N≠0:=by have:=a.1;omega
     have key:=C.US (Fl.of {y with N:=(s.w.N:Int)}) b o kind
     rw[E8 (by show decide ((s.w.N:Int)=0)=false;simpa using j)]at key
     rw[a.2,f]at p;refine⟨_,_,_,.ir {s.w with L:=false},{s with w:={s.w with L:=false}},.ir _,i,?_,.ir _,nxt (y:={y with N:=(s.w.N:Int)}) key k l d (by rw[a.2,f];exact p) ⟨rfl,rfl,rfl,a.2,f,j⟩,ug rfl,m,jM (.inl rfl),λ_=>rfl⟩
     have E:({s.w with L:=false}:Mu.Wd)≠Mu.Wd.zero:=λe=>j (by have:=congrArg Mu.Wd.N e;exact this)
     simp[Mu.mv,q,f,j,a.2,Mu.Wd.zero]
include C X in
theorem Ga{old:Mu.Wd}(d:ShM b o w s)(h:mO P n b o kind (.ir old) cs g):kP P n b o kind Wd cs g w main (.ir old) s:=by
 obtain⟨c,y,fr,A,⟨rfl,k,q,r,t,l⟩,u,i,f,rfl⟩:=h;obtain⟨L,K,S,N⟩:=old;simp only at k q r t l;subst q;subst r;subst t;have v:(UC P n b o kind).1.kind≠.early:=by simp[UC,tw]
 have hold:∀x,SR y wf x->x=.int .i32 (enc false false false N):=λx m=>by have:=m.1;rw[k,Int.add_zero]at this;exact this
 have a:∀x,SR y (.word false true false (-1)) x->x=.int .i32 (enc false true false (N-1:Nat)):=λx m=>by have:=m.1;rw[k]at this;rw[this];congr 2;omega
 by_cases j:s.w=⟨false,false,false,N⟩
 . have z:=d.cw
   rw[j]at z;exact⟨_,_,_,.give,{s with w:=⟨false,true,false,N-1⟩},.give,fT i (C.TO b o kind) v X.jI hold a z (d.fz o),by simp[Mu.mv,j],.give,nxt (C.UT (Fl.of y) b o kind) u i f rfl (.inl rfl),ug rfl,d.aP ⟨false,true,false,N-1⟩,jM (.inl rfl),λ_=>rfl⟩
 . have p:¬enc s.w.L s.w.K s.w.S s.w.N=enc false false false N:=λe=>j (Oa.2 e)
   exact⟨_,_,_,.ub,s,.ub,gE i (C.TO b o kind) v X.jI hold a d.cw (d.fz o) p,by simp[Mu.mv,j],.ub,nxt (C.UU (Fl.of y) b o kind) u i f rfl rfl,aZ rfl,d,E1 (.inl rfl),λ_=>rfl⟩
include C X in
theorem I5(k:ShM b o w s)(hb:s.w.N<=1000)(h:mO P n b o kind .ub cs g):kP P n b o kind Wd cs g w main .ub s:=by
 obtain⟨c,y,fr,l,rfl,z,x,m,rfl⟩:=h;have e:({y with N:=(s.w.N:Int)}:Sy).ok:=⟨⟨by simp,by show(s.w.N:Int)<=1000;omega⟩,z.2⟩
 have f:=x.re (y':={y with N:=(s.w.N:Int)}) (.inr rfl) (.inl rfl) (.inl rfl) (.inl rfl)
 have d:=m.fF (y':={y with N:=(s.w.N:Int)}) (by simpa[Mc,tw]using C.p4 b o kind)
 have i:=oQ (main:=main) (cs:=l++cs) x (C.U8 b o kind) X.RE X.nV k.cw;have p:SR {y with N:=(s.w.N:Int)} (.word s.w.L s.w.K s.w.S 0) (.int .i32 (enc s.w.L s.w.K s.w.S s.w.N)):=oT rfl
 by_cases q:(decide ((s.w.N:Int)=0)||s.w.L||s.w.K||s.w.S)=true
 . have key:=C.u7 (Fl.of {y with N:=(s.w.N:Int)}) b o kind (decide ((s.w.N:Int)=0)) s.w.L s.w.K s.w.S q
   have a:(decide (s.w.N=0)||s.w.L||s.w.K||s.w.S)=true:=by simpa using q
   exact⟨_,w,#[],.out,s,.ue,i,by simp only[Mu.mv,a,if_true,List.mem_singleton],.out,nxt (y:={y with N:=(s.w.N:Int)}) key e f d p rfl,aZ rfl,k,eF,λ_=>rfl⟩
 . have a:(decide ((s.w.N:Int)=0)||s.w.L||s.w.K||s.w.S)=false:=by simpa using q
   have r:(decide (s.w.N=0)||s.w.L||s.w.K||s.w.S)=false:=by rw[<-a];simp
   simp only[Bool.or_eq_false_iff,decide_eq_false_iff_not]at a;obtain⟨⟨⟨A,t⟩,u⟩,v⟩:=a;have j:s.w.N≠0:=by omega
   have key:=C.UW (Fl.of {y with N:=(s.w.N:Int)}) b o kind
   rw[E8 (by show decide ((s.w.N:Int)=0)=false;simpa using j)]at key
   rw[t,u,v]at p;exact⟨_,w,#[],.ir s.w,s,.ir _,i,by simp only[Mu.mv,r,Bool.false_eq_true,if_false,List.mem_singleton],.ir _,nxt (y:={y with N:=(s.w.N:Int)}) key e f d (by rw[t,u,v];exact p) ⟨rfl,rfl,t,u,v,j⟩,aZ rfl,k,eF,λ_=>rfl⟩
include C X in
theorem Gb(d:ShM b o w s)(m:s.ms<=1000)(h:mO P n b o kind .give cs g):kP P n b o kind Wd cs g w main .give s:=by
 obtain⟨c,y,fr,f,l,k,j,i,rfl⟩:=h;have e:IntKind.u32.wrap ((s.ms:Int)+1)=((s.ms+1:Nat):Int):=by rw[IntKind.wrap_u32];omega
 rcases l with rfl|rfl
 . have a:=m5 (main:=main) (cs:=f++cs) (w:=w) j (C.TP b o kind) (by simp[G7,tw]) X.m6 d.cs (d.fz _)
   rw[e]at a;exact⟨_,_,_,.out,{s with ms:=s.ms+1},.ue,a,by simp[Mu.mv],.out,nxt (C.u8 (Fl.of y) b o kind) k j i rfl rfl,MJ rfl,d.Df _,uB,λ_=>rfl⟩
 . have a:=m5 (main:=main) (cs:=f++cs) (w:=w) j (C.TR b o kind) (by simp[G9,tw]) X.m6 d.cs (d.fz _)
   rw[e]at a;exact⟨_,_,_,.out,{s with ms:=s.ms+1},.ue,a,by simp[Mu.mv],.out,nxt (C.u9 (Fl.of y) b o kind) k j i rfl rfl,MJ rfl,d.Df _,uB,λ_=>rfl⟩
end
end Go.bu

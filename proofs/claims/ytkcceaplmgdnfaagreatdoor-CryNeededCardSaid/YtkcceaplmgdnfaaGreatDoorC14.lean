import Derived.Test.YtkcceaplmgdnfaaGreatDoorC13
set_option linter.all false
namespace Go.bQ
open Go.Conc
inductive To:Mu.Pc->sE->Prop
 |out:To .out .ue
 |rd (l:Mu.Lo):To (.rd l) (.rd l)
 |sq (old:Mu.Wd) (l:Mu.Lo):To (.sq old l) (.sq old l)
 |sw (old:Mu.Wd) (l:Mu.Lo):To (.sw old l) (.sw old l)
 |ko (old:Mu.Wd) (l:Mu.Lo):To (.ko old l) (.ko old l)
 |t1 (sv:Bool):To (.gE sv) (.t1 sv)
 |gE (sv:Bool):To (.gE sv) (.gE sv)
 |tq:To .tq .tq
 |up (sv:Bool):To (.up sv) (.up sv)
 |add (old:Mu.Wd) (sv:Bool):To (.add old sv) (.add old sv)
 |held:To .held .le
 |ja (old:Mu.Wd):To (.ja old) (.ja old)
 |vC:To .vC .vC
 |give:To .give .give
def lK(P:acD)(n:yV)(b o:Nat)(kind:acv)(Wd:abZ)(cs:acb)(g:aco)(w:World)(main:Bool)(pc:Mu.Pc)(s:Mu.Sh):Prop:=∃c a es q e f,stepG P main g w=.go c a es/\(q,e)∈Mu.mv pc s/\To q f/\Next P n b o kind Wd cs f c/\MW b o w a/\ShM b o a e/\EvM b o es/\∀d,deafBehind d es=d
theorem bf{b o:Nat}{w w':World}(h:w'.heap=w.heap)(a:mn w.os w'.os/\w'.output=w.output:=by exact⟨mn.refl _,rfl⟩):MW b o w w':=⟨a,.inl h⟩
theorem vE{b o:Nat}{w:World}{v:Value}(h:flat v=true):MW b o w (w.setCell ⟨b,o,none⟩ v):=⟨⟨.refl _,rfl⟩,.inr ⟨o,v,.inl rfl,h,rfl⟩⟩
theorem Ow{b o:Nat}{w:World}{v:Value}(h:flat v=true):MW b o w (w.setCell ⟨b,o+1,none⟩ v):=⟨⟨.refl _,rfl⟩,.inr ⟨o+1,v,.inr rfl,h,rfl⟩⟩
theorem GF{L K S a b c:Bool}{N d:Nat}:enc L K S N=enc a b c d↔(L=a/\K=b/\S=c/\N=d):=by
 unfold enc;constructor
 . intro h
   cases L<;>cases K<;>cases S<;>cases a<;>cases b<;>cases c<;>simp[Bool.toNat]at h ⊢<;>omega
 simp_all
section
variable{P:acD}{n:yV}(C:gn P n)(X:gq P n){b o:Nat}{kind:acv}{Wd:abZ}{cs:acb}{g:aco}{w:World}{main:Bool}{s:Mu.Sh}
theorem GG{w:Mu.Wd}:w=Mu.Wd.zero↔(enc w.L w.K w.S w.N=0):=by
 obtain⟨L,K,S,N⟩:=w;rw[xg (by simp)];simp[Mu.Wd.zero]
include C X in
theorem HP(d:ShM b o w s)(h:nT P n b o kind .iq cs g):lK P n b o kind Wd cs g w main .iq s:=by
 obtain⟨c,y,fr,A,rfl,l,j,f,rfl⟩:=h;have q:(tZ P n b o kind).1.kind≠.early:=by simp[tZ,mD]
 by_cases k:s.w=Mu.Wd.zero
 . have m:enc s.w.L s.w.K s.w.S s.w.N=0:=GG.1 k
   have r:=d.cw;rw[m]at r;refine⟨_,_,_,.held,{s with w:={Mu.Wd.zero with L:=true}},.le,hQ j (C.o2 b o kind) q X.ko (v:=0) (n:=1) (λx h=>h) (λx h=>h) r (d.fz o),by simp[Mu.mv,k],.held,nxt (C.e2 _ b o kind) l j f rfl (.inl rfl),vE rfl,?_,kA (.inl rfl),λ_=>rfl⟩;have:=d.aT {Mu.Wd.zero with L:=true};exact this
 . have m:¬enc s.w.L s.w.K s.w.S s.w.N=0:=λe=>k (GG.2 e)
   refine⟨_,_,_,.rd ⟨false,false,0⟩,s,.rd ⟨false,false,0⟩,iC j (C.o2 b o kind) q X.ko (old:=0) (n:=1) (λx h=>h) (λx h=>h) d.cw (d.fz o) m,by simp[Mu.mv,k],.rd _,⟨rfl,?_⟩,bf rfl,d,Gz (.inl rfl),λ_=>rfl⟩;obtain⟨p,i,B,D,E⟩:=PZ (Wd:=Wd) (x:=.bool false) (C.e3 _ b o kind) l j f rfl;refine⟨_,E cs,QU P n b o kind false false 0,{y with ws:=0},p,i,.inl rfl,l,?_,?_,rfl⟩
   . have a:=B.re (y':={y with ws:=0}) (.inl rfl) (.inl rfl) (.inr rfl) (.inl rfl)
     refine⟨a.fn,a.todo,a.defers,a.mode,a.kind,a.ro,a.size.trans rfl,λt=>?_⟩;have u:=a.env t;by_cases z:t=2
     . subst z;exact u
     . have e:(QU P n b o kind false false 0).1.env=(Vg P n b o kind).1.env.set 2 .HL:=rfl
       rw[e,zA,aak (za z),<-List.getD_eq_getElem?_getD];exact u
   . exact D.gL (by simpa[Vg,cL]using C.p2 b o kind)
theorem qv{y:Sy}{L K S:Bool}{N:Nat}(h:y.N=N):SR y (.word L K S 0) (.int .i32 (enc L K S N)):=by
 refine⟨?_,?_,by decide⟩
 . simp_all
 omega
theorem GH{y:Sy}{x:Bool}(h:decide (y.N=0)=x):{Fl.of y with n0:=x}=Fl.of y:=by subst h;rfl
theorem QX{y:Sy}{x z:Bool}(h:decide (y.N=0)=x)(a:decide (y.N=1)=z):{Fl.of y with n0:=x,n1:=z}=Fl.of y:=by subst h;subst a;rfl
theorem P1{y:Sy}{x:Bool}(h:decide (y.ws=0)=x):{Fl.of y with wz:=x}=Fl.of y:=by subst h;rfl
theorem TF{y:Sy}{x:Bool}(h:decide (IntKind.i64.wrap (y.tn-y.ws)>1000000)=x):{Fl.of y with tb:=x}=Fl.of y:=by subst h;rfl
def Sn(old:Mu.Wd)(l:Mu.Lo):sE:=if old.L && !old.S then .sq old l else .ko old l
theorem P4(old:Mu.Wd)(l:Mu.Lo):To (Mu.nx old l) (Sn old l):=by
 unfold Mu.nx Sn;split
 . exact .sq _ _
 . exact .ko _ _
include C in
theorem GJ{y:Sy}{old:Mu.Wd}{l:Mu.Lo}{fr:Frame}{frs:acb}(e:y.ok)(m:y.N=old.N)(p:FR y (HD P n b o kind old.L old.K old.S l.aw l.sv l.it).1 fr)(d:l8 y (HD P n b o kind old.L old.K old.S l.aw l.sv l.it).2 frs)(f:Mu.loc (Mu.nx old l)):
 ∃q,sB P Wd (G fr (frs++cs)) q/\nT P n b o kind (Sn old l) cs q:=by
 obtain⟨L,K,S,N⟩:=old;obtain⟨aw,sv,it⟩:=l;unfold Sn;unfold Mu.nx at f;by_cases h:(L && !S)=true
 . simp only[h,if_true]at f ⊢
   simp only[zj,aaN]at h;obtain⟨rfl,rfl⟩:=h;obtain⟨c,a,g,i,j⟩:=TE (Wd:=Wd) (C.e8 (Fl.of y) b o kind K aw sv it) e p d;exact⟨_,j cs,_,y,c,a,⟨rfl,m,rfl,rfl⟩,e,g,i,rfl⟩
 . have r:(L && !S)=false:=by simpa using h
   rw[if_neg h]at f ⊢
   have k:(aw && !K)=false:=by
    cases aw with
    |false=>rfl
    |true=>have:=f.1 rfl;simp at this;simp[this]
   obtain⟨c,a,g,i,j⟩:=TE (Wd:=Wd) (C.e9 (Fl.of y) b o kind L K S aw sv it r k) e p d;exact⟨_,j cs,_,y,c,a,⟨rfl,m⟩,e,g,i,rfl⟩
include C X in
theorem Ox{l:Mu.Lo}(j:ShM b o w s)(hb:s.w.N<=1000)(p:Mu.loc (Mu.nx s.w l))(h:nT P n b o kind (.rd l) cs g):lK P n b o kind Wd cs g w main (.rd l) s:=by
 obtain⟨c,y,fr,e,q,r,k,f,rfl⟩:=h;have a:({y with N:=(s.w.N:Int)}:Sy).ok:=⟨⟨by simp,by show(s.w.N:Int)<=1000;omega⟩,r.2⟩
 have key:qL c.1=some (n.tI,pt b o)->c.1.fn=n.QS->(c.1.env.all (λv=>!Gw v)=true)->c.2=Vf P n b o kind->pI P (Fl.of {y with N:=(s.w.N:Int)}) [0,2,3,4,5,6] c (.word s.w.L s.w.K s.w.S 0)=some (HD P n b o kind s.w.L s.w.K s.w.S l.aw l.sv l.it) ->
  lK P n b o kind Wd cs (G fr (e++cs)) w main (.rd l) s:=λt u x z A=>by
  have i:=k.re (y':={y with N:=(s.w.N:Int)}) (.inr x) (.inl rfl) (.inl rfl) (.inl rfl);have d:=f.gL (y':={y with N:=(s.w.N:Int)}) (by rw[z];exact C.p2 b o kind);obtain⟨B,m,D,E,F⟩:=TD (Wd:=Wd) A a i d (qv rfl);obtain⟨H,I,J⟩:=GJ C (Wd:=Wd) (cs:=cs) (old:=s.w) (l:=l) a rfl D E p;exact⟨_,w,#[],_,s,Sn s.w l,qt k t X.TC (by rw[u];exact X.nS) j.cw,by simp[Mu.mv],P4 _ _,⟨rfl,H,(F cs).trans I,J⟩,bf rfl,j,fJ,λ_=>rfl⟩
 rcases q with rfl|rfl|rfl
 . exact key (C.WT ..) rfl rfl rfl (C.WJ ..)
 . exact key (C.WU ..) rfl rfl rfl (C.QW ..)
 . exact key (C.WV ..) rfl rfl rfl (C.WK ..)
include C X in
theorem Bm{y:Sy}{aw sv:Bool}{it:Nat}{fr:Frame}{frs:acb}(f:it<4)(g:y.ok)(e:FR y (DS P n b o kind aw sv it).1 fr)(d:l8 y (DS P n b o kind aw sv it).2 frs):
 ∃c,sB P Wd (G fr (frs++cs)) c/\nT P n b o kind (.rd ⟨aw,sv,it+1⟩) cs c:=by
 have a:rJ P Wd (G fr (frs++cs)) (G (fr.finish (.tuple #[])) (frs++cs)):=⟨rfl,λmain w _=>tW e (C.o9 b o kind aw sv it) (by simp[DS,cL]) X.tY⟩
 have key:aP P (Fl.of y) [0,2,3,4,5,47] (DS P n b o kind aw sv it) un=some (Gu P n b o kind aw sv (it+1:Nat)):=by
  have:it=0\/it=1\/it=2\/it=3:=by omega
  rcases this with rfl|rfl|rfl|rfl
  . exact C.ET ..
  . exact C.EU ..
  . exact C.Tw ..
  . exact C.Tx ..
 obtain⟨_,c,h,i⟩:=nxt (P:=P) (n:=n) (b:=b) (o:=o) (kind:=kind) (Wd:=Wd) (cs:=cs) (x:=.tuple #[]) (p:=.rd ⟨aw,sv,it+1⟩) key g e d rfl (.inr (.inl rfl));exact⟨c,a.zK.trans h,i⟩
include C X in
theorem Oy{old:Mu.Wd}{l:Mu.Lo}(t:ShM b o w s)(M:Mu.loc (.sq old l))(h:nT P n b o kind (.sq old l) cs g):lK P n b o kind Wd cs g w main (.sq old l) s:=by
 obtain⟨c,y,fr,u,⟨rfl,k,D,E⟩,q,m,d,rfl⟩:=h;obtain⟨L,K,S,N⟩:=old;obtain⟨aw,sv,it⟩:=l;simp only at k D E m d;subst D;subst E;obtain⟨F,G,O,_,_⟩:=M;simp only at F G O
 have v:(aw && !K)=false:=by
  cases aw with
  |false=>rfl
  |true=>simp[F rfl]
 obtain⟨r,j,z,Q,H⟩:=HM (P:=P) (main:=main) (cs:=u++cs) (w:=w) m (C.o7 b o kind K aw sv it) (by simp[SQ,cL]) X.HN
 have a:j.heap=w.heap:=by rcases H with rfl|rfl<;>rfl
 have e:mn w.os j.os/\j.output=w.output:=by rcases H with rfl|rfl<;>exact⟨.refl _,rfl⟩
 cases r with
 |false=>refine⟨_,j,#[],.ko ⟨true,K,false,N⟩ ⟨aw,sv,it⟩,s,.ko _ _,z,by simp[Mu.mv,Mu.hd],.ko _ _,nxt (C.bG (Fl.of y) b o kind K aw sv it v) q m d rfl ⟨rfl,k⟩,bf a e,t.heap a,fJ,λ_=>rfl⟩
 | true=>
   have f:it<4:=by have:=Q rfl;omega
   by_cases A:(!aw && !K && decide (N≠0))=true
   . simp only[zj,aaN,decide_eq_true_eq]at A
     obtain⟨⟨rfl,rfl⟩,p⟩:=A;have:sv=false:=by cases sv with|false=>rfl|true=>exact absurd (G rfl) (by simp)
     subst this;have key:=C.bK (Fl.of y) b o kind it;rw[GH (by rw[k];simpa using p)]at key
     exact⟨_,j,#[],.sw ⟨true,false,false,N⟩ ⟨false,false,it⟩,s,.sw _ _,z,by simp[Mu.mv,Mu.hd,f,p],.sw _ _,nxt key q m d rfl ⟨rfl,k,rfl,rfl,rfl,rfl,rfl⟩,bf a e,t.heap a,fJ,λ_=>rfl⟩
   . have i:(!aw && !K && decide (N≠0))=false:=by simpa using A
     have B:(!aw && !K && !decide (y.N=0))=false:=by
      rw[k]
      by_cases I:N=0
      . simp[I]
      . simp[I]at i ⊢;exact i
     have key:=C.Tv (Fl.of y) b o kind (decide (y.N=0)) K aw sv it B;rw[GH rfl]at key;obtain⟨R,J,T,U,V⟩:=PZ (Wd:=Wd) (x:=.bool true) key q m d rfl;obtain⟨W,Y,Z⟩:=Bm C X (Wd:=Wd) (cs:=cs) f q T U;refine⟨_,j,#[],.rd ⟨aw,sv,it+1⟩,s,.rd _,z,?_,.rd _,⟨rfl,W,(V cs).trans Y,Z⟩,bf a e,t.heap a,fJ,λ_=>rfl⟩
     simp only[Mu.mv,Mu.hd,f,i];simp
include C X in
theorem Oz{old:Mu.Wd}{l:Mu.Lo}(f:ShM b o w s)(V:Mu.loc (.sw old l))(h:nT P n b o kind (.sw old l) cs g):lK P n b o kind Wd cs g w main (.sw old l) s:=by
 obtain⟨c,y,fr,W,⟨rfl,E,F,G,H,I,J⟩,m,i,d,rfl⟩:=h;obtain⟨L,K,S,N⟩:=old;obtain⟨aw,sv,it⟩:=l;simp only at E F G H I J i d;subst F;subst G;subst H;subst I;subst J;have j:it<4:=V.2.2.2.2.2;have M:(SW P n b o kind it).1.kind≠.early:=by simp[SW,cL]
 have a:∀q:Bool,∀x,SR y (.word true q false 0) x->x=.int .i32 (enc true q false N):=λq x Y=>by have:=Y.1;rw[E,abr]at this;exact this
 by_cases p:s.w=⟨true,false,false,N⟩
 . have O:=f.cw
   rw[p]at O;obtain⟨r,k,t,u,v⟩:=PZ (Wd:=Wd) (x:=.bool true) (C.cD (Fl.of y) b o kind true it) m i d rfl;obtain⟨z,A,B⟩:=Bm C X (Wd:=Wd) (cs:=cs) j m t u;refine⟨_,_,_,.rd ⟨true,false,it+1⟩,{s with w:=⟨true,true,false,N⟩},.rd _,hQ i (C.o8 b o kind it) M X.ko (a false) (a true) O (f.fz o),by simp[Mu.mv,p],.rd _,⟨rfl,z,(v cs).trans A,B⟩,vE rfl,f.aT ⟨true,true,false,N⟩,kA (.inl rfl),λ_=>rfl⟩
 . have D:¬enc s.w.L s.w.K s.w.S s.w.N=enc true false false N:=λe=>p (by
    obtain⟨Q,R,T,U⟩:=GF.1 e;obtain⟨⟨L,K,S,Z⟩,ms⟩:=s;simp only at Q R T U;subst Q;subst R;subst T;subst U;rfl)
   obtain⟨r,k,t,u,v⟩:=PZ (Wd:=Wd) (x:=.bool false) (C.cD (Fl.of y) b o kind false it) m i d rfl;obtain⟨z,A,B⟩:=Bm C X (Wd:=Wd) (cs:=cs) j m t u;exact⟨_,_,_,.rd ⟨false,false,it+1⟩,s,.rd _,iC i (C.o8 b o kind it) M X.ko (a false) (a true) f.cw (f.fz o) D,by simp[Mu.mv,p],.rd _,⟨rfl,z,(v cs).trans A,B⟩,bf rfl,f,Gz (.inl rfl),λ_=>rfl⟩
end
section
variable{P:acD}{n:yV}(C:gn P n)(X:gq P n){b o:Nat}{kind:acv}{Wd:abZ}{cs:acb}{g:aco}{w:World}{main:Bool}{s:Mu.Sh}
theorem P5{a c:Mu.Wd}:a=c↔enc a.L a.K a.S a.N=enc c.L c.K c.S c.N:=by obtain⟨L,K,S,N⟩:=a;obtain⟨b,d,e,f⟩:=c;rw[GF];simp
include C X in
theorem KM{old:Mu.Wd}{l:Mu.Lo}(f:ShM b o w s)(F:Mu.loc (.ko old l))(h:nT P n b o kind (.ko old l) cs g):lK P n b o kind Wd cs g w main (.ko old l) s:=by
 obtain⟨c,y,fr,u,⟨rfl,v⟩,t,j,a,rfl⟩:=h;obtain⟨L,K,S,N⟩:=old;obtain⟨aw,sv,it⟩:=l;simp only at v j a
 have k:(aw && !K)=false:=by
  cases aw with
  |false=>rfl
  |true=>have:=F.1 rfl;simp at this;simp[this]
 have B:(CJ P n b o kind L K S aw sv it).1.kind≠.early:=by simp[CJ,cL]
 have hold:∀x,SR y (.word L K S 0) x->x=.int .i32 (enc L K S N):=λx z=>by have:=z.1;rw[v,abr]at this;exact this
 have i:∀x,SR y (Ot L K S aw sv) x->x=.int .i32 (enc (Mu.pF ⟨L,K,S,N⟩ ⟨aw,sv,it⟩).L (Mu.pF ⟨L,K,S,N⟩ ⟨aw,sv,it⟩).K (Mu.pF ⟨L,K,S,N⟩ ⟨aw,sv,it⟩).S (Mu.pF ⟨L,K,S,N⟩ ⟨aw,sv,it⟩).N):=λx z=>by have:=z.1;rw[v]at this;rw[this];simp only[Mu.pF];congr 2;split<;>simp
 by_cases p:s.w=⟨L,K,S,N⟩
 . have D:=f.cw
   rw[p]at D;have m:=hQ (main:=main) (cs:=u++cs) j (C.VE b o kind L K S aw sv it) B X.ko hold i D (f.fz o)
   by_cases d:(L||S)=true
   . have q:((.gE sv:Mu.Pc),({s with w:=Mu.pF ⟨L,K,S,N⟩ ⟨aw,sv,it⟩}:Mu.Sh))∈Mu.mv (.ko ⟨L,K,S,N⟩ ⟨aw,sv,it⟩) s:=by
      simp only[Mu.mv,k,zR,if_false,p,if_true,d,lb]
     by_cases r:y.ws=0
     . have key:=C.Ty (Fl.of y) b o kind L K S aw sv it d
       rw[P1 (by simpa using r)]at key
       exact⟨_,_,_,_,_,.t1 sv,m,q,.t1 _,nxt key t j a rfl rfl,vE rfl,f.aT _,kA (.inl rfl),λ_=>rfl⟩
     . have key:=C.Tz (Fl.of y) b o kind L K S aw sv it d
       rw[P1 (by simpa using r)]at key
       exact⟨_,_,_,_,_,.gE sv,m,q,.gE _,nxt key t j a rfl rfl,vE rfl,f.aT _,kA (.inl rfl),λ_=>rfl⟩
   . have E:(L||S)=false:=by simpa using d
     have G:L=false:=by cases L<;>simp_all
     have H:S=false:=by cases S<;>simp_all
     subst G;subst H;refine⟨_,_,_,.held,{s with w:=Mu.pF ⟨false,K,false,N⟩ ⟨aw,sv,it⟩},.le,m,?_,.held,nxt (C.JL (Fl.of y) b o kind K aw sv it) t j a rfl (.inr rfl),vE rfl,f.aT _,kA (.inl rfl),λ_=>rfl⟩
     simp only[Mu.mv,k,zR,if_false,p,if_true,Bool.or_self,lb]
 . have A:¬enc s.w.L s.w.K s.w.S s.w.N=enc L K S N:=λe=>p (P5.2 e)
   refine⟨_,_,_,.rd ⟨aw,sv,it⟩,s,.rd _,iC j (C.VE b o kind L K S aw sv it) B X.ko hold i f.cw (f.fz o) A,?_,.rd _,nxt (C.Bi (Fl.of y) b o kind L K S aw sv it) t j a rfl (.inr (.inr rfl)),bf rfl,f,Gz (.inl rfl),λ_=>rfl⟩
   simp only[Mu.mv,k,zR,if_false,p,lb]
include C X in
theorem HQ{sv:Bool}(f:ShM b o w s)(k:s.ms≠0)(h:nT P n b o kind (.gE sv) cs g):lK P n b o kind Wd cs g w main (.gE sv) s:=by
 obtain⟨c,y,fr,i,rfl,l,j,d,rfl⟩:=h;have a:=sD (main:=main) (cs:=i++cs) (w:=w) (n:=(s.ms:Int)) j (C.VF b o kind sv) (by simp[PK,cL]) X.ER f.cs (by omega) (f.fz _);have e:((s.ms:Int)-1)=((s.ms-1:Nat):Int):=by omega
 rw[e]at a;cases sv with
 |true=>exact⟨_,_,_,.up true,{s with ms:=s.ms-1},.up true,a,by simp[Mu.mv,k],.up _,nxt (C.TA (Fl.of y) b o kind) l j d rfl rfl,Ow rfl,f.EV _,vQ,λ_=>rfl⟩
 |false=>exact⟨_,_,_,.tq,{s with ms:=s.ms-1},.tq,a,by simp[Mu.mv,k],.tq,nxt (C.TB (Fl.of y) b o kind) l j d rfl rfl,Ow rfl,f.EV _,vQ,λ_=>rfl⟩
include C X in
theorem CP{sv:Bool}(d:ShM b o w s)(e:s.ms=0)(h:nT P n b o kind (.gE sv) cs g):stepG P main g w=.go {g with status:=.blocked} w #[]:=by obtain⟨c,y,fr,f,rfl,k,i,j,rfl⟩:=h;have a:=d.cs;rw[e]at a;exact zP i (C.VF b o kind sv) X.ER a
include C X in
theorem OA(k:ShM b o w s)(h:nT P n b o kind .tq cs g):lK P n b o kind Wd cs g w main .tq s:=by
 obtain⟨c,y,fr,d,rfl,l,j,e,rfl⟩:=h;have f:=zQ (P:=P) (main:=main) (cs:=d++cs) (w:=w) j (C.WX b o kind) (by simp[TQ,cL]) X.nano X.KC;have i:=j.re (y':={y with tn:=((w.os.mono+w.tick:Nat):Int)}) (.inl rfl) (.inl rfl) (.inl rfl) (.inr rfl);have a:=e.gL (y':={y with tn:=((w.os.mono+w.tick:Nat):Int)}) (by simpa[TQ,cL]using C.p2 b o kind);have key:=C.tF (Fl.of {y with tn:=((w.os.mono+w.tick:Nat):Int)}) b o kind (decide (IntKind.i64.wrap (((w.os.mono+w.tick:Nat):Int)-y.ws)>1000000));rw[TF rfl]at key;refine⟨_,_,_,.up (decide (IntKind.i64.wrap (((w.os.mono+w.tick:Nat):Int)-y.ws)>1000000)),s,.up _,f,?_,.up _,nxt (y:={y with tn:=((w.os.mono+w.tick:Nat):Int)}) key l i a rfl rfl,bf rfl ⟨⟨w.tick,rfl⟩,rfl⟩,k.heap rfl,fJ,λ_=>rfl⟩;cases decide (IntKind.i64.wrap (((w.os.mono+w.tick:Nat):Int)-y.ws)>1000000)<;>simp[Mu.mv]
include C X in
theorem OB{sv:Bool}(m:ShM b o w s)(hb:s.w.N<=1000)(x:∀q s',(q,s')∈Mu.mv (.up sv) s->Mu.loc q)(h:nT P n b o kind (.up sv) cs g):lK P n b o kind Wd cs g w main (.up sv) s:=by
 obtain⟨c,y,fr,p,rfl,B,z,r,rfl⟩:=h;have f:({y with N:=(s.w.N:Int)}:Sy).ok:=⟨⟨by simp,by show(s.w.N:Int)<=1000;omega⟩,B.2⟩
 have i:=z.re (y':={y with N:=(s.w.N:Int)}) (.inr rfl) (.inl rfl) (.inl rfl) (.inl rfl)
 have e:=r.gL (y':={y with N:=(s.w.N:Int)}) (by simpa[UP,cL]using C.p2 b o kind)
 have j:=qt (main:=main) (cs:=p++cs) z (C.WZ b o kind sv) X.TC X.nS m.cw
 by_cases k:s.w.S=true
 . have t:(s.w.L||s.w.K||decide (s.w.N=0))=false:=by
    cases D:(s.w.L||s.w.K||decide (s.w.N=0))with
    |false=>rfl
    |true=>exact(x .bad s (by simp[Mu.mv,k,D])).elim
   have a:((.add s.w sv:Mu.Pc),s)∈Mu.mv (.up sv) s:=by simp[Mu.mv,k,t]
   simp only[aaW,decide_eq_false_iff_not]at t;obtain⟨⟨E,F⟩,u⟩:=t;have key:=C.Ou (Fl.of {y with N:=(s.w.N:Int)}) b o kind sv (decide (s.w.N=1))
   rw[QX (by show decide ((s.w.N:Int)=0)=false;simpa using u) (by show decide ((s.w.N:Int)=1)=decide (s.w.N=1);rw[abt,decide_eq_true_iff,decide_eq_true_iff];omega)]at key
   have v:SR {y with N:=(s.w.N:Int)} (.word false false true 0) (.int .i32 (enc s.w.L s.w.K s.w.S s.w.N)):=by rw[E,F,k];exact qv rfl
   exact⟨_,w,#[],_,s,.add s.w sv,j,a,.add _ _,nxt (y:={y with N:=(s.w.N:Int)}) key f i e v rfl,bf rfl,m,fJ,λ_=>rfl⟩
 . have d:s.w.S=false:=by simpa using k
   have a:(Mu.nx s.w ⟨true,sv,0⟩,s)∈Mu.mv (.up sv) s:=by simp[Mu.mv,d]
   have v:SR {y with N:=(s.w.N:Int)} (.word s.w.L s.w.K false 0) (.int .i32 (enc s.w.L s.w.K s.w.S s.w.N)):=by rw[d];exact qv rfl
   obtain⟨G,A,H,I,J⟩:=TD (Wd:=Wd) (C.yW (Fl.of {y with N:=(s.w.N:Int)}) b o kind s.w.L s.w.K sv) f i e v
   obtain⟨M,O,Q⟩:=GJ C (Wd:=Wd) (cs:=cs) (old:=s.w) (l:=⟨true,sv,0⟩) f rfl (by rw[d];exact H) (by rw[d];exact I) (x _ _ a)
   exact⟨_,w,#[],_,s,Sn s.w ⟨true,sv,0⟩,j,a,P4 _ _,⟨rfl,M,(J cs).trans O,Q⟩,bf rfl,m,fJ,λ_=>rfl⟩
include C X in
theorem KN{old:Mu.Wd}{sv:Bool}(d:ShM b o w s)(hb:s.w.N<=1000)(k:s.w.L=false)(l:s.w.S=true)(r:s.w.N≠0)(h:nT P n b o kind (.add old sv) cs g):lK P n b o kind Wd cs g w main (.add old sv) s:=by
 obtain⟨c,y,fr,f,rfl,m,j,i,rfl⟩:=h;have a:=pH (main:=main) (cs:=f++cs) (w:=w) j (C.W2 b o kind _) (by simp[AD,cL]) X.add (λx h=>h) d.cw (d.fz _)
 have e:IntKind.i32.wrap (enc s.w.L s.w.K s.w.S s.w.N+(if !sv||decide (old.N=1)then -11 else -7))=enc true s.w.K (s.w.S && !(!sv||decide (old.N=1))) (s.w.N-1:Nat):=by
  rw[k,l];have p:((s.w.N-1:Nat):Int)=(s.w.N:Int)-1:=by omega
  rw[p];generalize (!sv||decide (old.N=1))=x;have q:=lI (L:=false) (K:=s.w.K) (S:=true) (N:=(s.w.N:Int));rw[iU (by split<;>omega) (by split<;>omega)];unfold enc;cases x<;>cases s.w.K<;>simp[Bool.toNat]<;>omega
 rw[e]at a;exact⟨_,_,_,.held,{s with w:={s.w with L:=true,S:=s.w.S && !(!sv||decide (old.N=1)),N:=s.w.N-1}},.le,a,by simp[Mu.mv],.held,nxt (C.vO (Fl.of y) b o kind _) m j i trivial (.inr rfl),vE rfl,d.aT {s.w with L:=true,S:=s.w.S && !(!sv||decide (old.N=1)),N:=s.w.N-1},kA (.inl rfl),λ_=>rfl⟩
include C X in
theorem HR(t:ShM b o w s)(hb:s.w.N<=1000)(q:s.w.L=true)(h:nT P n b o kind .held cs g):lK P n b o kind Wd cs g w main .held s:=by
 obtain⟨c,y,fr,u,rfl,B,A,v,rfl⟩:=h;have k:({y with N:=(s.w.N:Int)}:Sy).ok:=⟨⟨by simp,by show(s.w.N:Int)<=1000;omega⟩,B.2⟩
 have l:=A.re (y':={y with N:=(s.w.N:Int)}) (.inr rfl) (.inl rfl) (.inl rfl) (.inl rfl)
 have d:=v.gL (y':={y with N:=(s.w.N:Int)}) (by simpa[rK,oX]using(C.p3 b o kind).1)
 have i:=pH (main:=main) (cs:=u++cs) (w:=w) A (C.VH b o kind) (by simp[rK,oX]) X.add (λx h=>h) t.cw (t.fz _)
 have e:IntKind.i32.wrap (enc s.w.L s.w.K s.w.S s.w.N+-1)=enc false s.w.K s.w.S s.w.N:=by
  rw[q];have D:=lI (L:=true) (K:=s.w.K) (S:=s.w.S) (N:=(s.w.N:Int));rw[iU (by omega) (by omega)]
  unfold enc;simp[Bool.toNat];omega
 rw[e]at i;have m:=t.aT {s.w with L:=false}
 have p:SR {y with N:=(s.w.N:Int)} (.word false s.w.K s.w.S 0) (.int .i32 (enc false s.w.K s.w.S s.w.N)):=qv rfl
 by_cases r:s.w.S=true
 . have key:=C.WL (Fl.of {y with N:=(s.w.N:Int)}) b o kind (decide ((s.w.N:Int)=0)) s.w.K
   rw[r]at p;exact⟨_,_,_,.give,{s with w:={s.w with L:=false}},.give,i,by simp[Mu.mv,q,r,Mu.Wd.zero],.give,nxt (y:={y with N:=(s.w.N:Int)}) key k l d (by rw[r];exact p) (.inr rfl),vE rfl,m,kA (.inl rfl),λ_=>rfl⟩
 . have f:s.w.S=false:=by simpa using r
   by_cases z:(decide ((s.w.N:Int)=0)||s.w.K)=true
   . have key:=C.u5 (Fl.of {y with N:=(s.w.N:Int)}) b o kind (decide ((s.w.N:Int)=0)) s.w.K z
     refine⟨_,_,_,.out,{s with w:={s.w with L:=false}},.ue,i,?_,.out,nxt (y:={y with N:=(s.w.N:Int)}) key k l d (by rw[f]at p ⊢;exact p) rfl,vE rfl,m,kA (.inl rfl),λ_=>rfl⟩
     have a:(decide (s.w.N=0)||s.w.K)=true:=by simpa using z
     simp only[Mu.mv,q,aaK,if_false,lb,zG,and_true];split
     . rfl
     . simp only
   . have a:(decide ((s.w.N:Int)=0)||s.w.K)=false:=by simpa using z
     simp only[aaW,decide_eq_false_iff_not]at a;have j:s.w.N≠0:=by have:=a.1;omega
     have key:=C.WM (Fl.of {y with N:=(s.w.N:Int)}) b o kind
     rw[GH (by show decide ((s.w.N:Int)=0)=false;simpa using j)]at key
     rw[a.2,f]at p;refine⟨_,_,_,.ja {s.w with L:=false},{s with w:={s.w with L:=false}},.ja _,i,?_,.ja _,nxt (y:={y with N:=(s.w.N:Int)}) key k l d (by rw[a.2,f];exact p) ⟨rfl,rfl,rfl,a.2,f,j⟩,vE rfl,m,kA (.inl rfl),λ_=>rfl⟩
     have E:({s.w with L:=false}:Mu.Wd)≠Mu.Wd.zero:=λe=>j (by have:=congrArg Mu.Wd.N e;exact this)
     simp[Mu.mv,q,f,j,a.2,Mu.Wd.zero]
include C X in
theorem HS{old:Mu.Wd}(d:ShM b o w s)(h:nT P n b o kind (.ja old) cs g):lK P n b o kind Wd cs g w main (.ja old) s:=by
 obtain⟨c,y,fr,A,⟨rfl,k,q,r,t,l⟩,u,i,f,rfl⟩:=h;obtain⟨L,K,S,N⟩:=old;simp only at k q r t l;subst q;subst r;subst t;have v:(UC P n b o kind).1.kind≠.early:=by simp[UC,va]
 have hold:∀x,SR y wf x->x=.int .i32 (enc false false false N):=λx m=>by have:=m.1;rw[k,abr]at this;exact this
 have a:∀x,SR y (.word false true false (-1)) x->x=.int .i32 (enc false true false (N-1:Nat)):=λx m=>by have:=m.1;rw[k]at this;rw[this];congr 2;omega
 by_cases j:s.w=⟨false,false,false,N⟩
 . have z:=d.cw
   rw[j]at z;exact⟨_,_,_,.give,{s with w:=⟨false,true,false,N-1⟩},.give,hQ i (C.VI b o kind) v X.ko hold a z (d.fz o),by simp[Mu.mv,j],.give,nxt (C.WN (Fl.of y) b o kind) u i f rfl (.inl rfl),vE rfl,d.aT ⟨false,true,false,N-1⟩,kA (.inl rfl),λ_=>rfl⟩
 . have p:¬enc s.w.L s.w.K s.w.S s.w.N=enc false false false N:=λe=>j (P5.2 e)
   exact⟨_,_,_,.vC,s,.vC,iC i (C.VI b o kind) v X.ko hold a d.cw (d.fz o) p,by simp[Mu.mv,j],.vC,nxt (C.WO (Fl.of y) b o kind) u i f rfl rfl,bf rfl,d,Gz (.inl rfl),λ_=>rfl⟩
include C X in
theorem KO(k:ShM b o w s)(hb:s.w.N<=1000)(h:nT P n b o kind .vC cs g):lK P n b o kind Wd cs g w main .vC s:=by
 obtain⟨c,y,fr,l,rfl,z,x,m,rfl⟩:=h;have e:({y with N:=(s.w.N:Int)}:Sy).ok:=⟨⟨by simp,by show(s.w.N:Int)<=1000;omega⟩,z.2⟩
 have f:=x.re (y':={y with N:=(s.w.N:Int)}) (.inr rfl) (.inl rfl) (.inl rfl) (.inl rfl)
 have d:=m.gL (y':={y with N:=(s.w.N:Int)}) (by simpa[N2,va]using C.p4 b o kind)
 have i:=qt (main:=main) (cs:=l++cs) x (C.Xc b o kind) X.TC X.nV k.cw;have p:SR {y with N:=(s.w.N:Int)} (.word s.w.L s.w.K s.w.S 0) (.int .i32 (enc s.w.L s.w.K s.w.S s.w.N)):=qv rfl
 by_cases q:(decide ((s.w.N:Int)=0)||s.w.L||s.w.K||s.w.S)=true
 . have key:=C.u7 (Fl.of {y with N:=(s.w.N:Int)}) b o kind (decide ((s.w.N:Int)=0)) s.w.L s.w.K s.w.S q
   have a:(decide (s.w.N=0)||s.w.L||s.w.K||s.w.S)=true:=by simpa using q
   exact⟨_,w,#[],.out,s,.ue,i,by simp only[Mu.mv,a,if_true,lb],.out,nxt (y:={y with N:=(s.w.N:Int)}) key e f d p rfl,bf rfl,k,fJ,λ_=>rfl⟩
 . have a:(decide ((s.w.N:Int)=0)||s.w.L||s.w.K||s.w.S)=false:=by simpa using q
   have r:(decide (s.w.N=0)||s.w.L||s.w.K||s.w.S)=false:=by rw[<-a];simp
   simp only[aaW,decide_eq_false_iff_not]at a;obtain⟨⟨⟨A,t⟩,u⟩,v⟩:=a;have j:s.w.N≠0:=by omega
   have key:=C.WQ (Fl.of {y with N:=(s.w.N:Int)}) b o kind
   rw[GH (by show decide ((s.w.N:Int)=0)=false;simpa using j)]at key
   rw[t,u,v]at p;exact⟨_,w,#[],.ja s.w,s,.ja _,i,by simp only[Mu.mv,r,zR,if_false,lb],.ja _,nxt (y:={y with N:=(s.w.N:Int)}) key e f d (by rw[t,u,v];exact p) ⟨rfl,rfl,t,u,v,j⟩,bf rfl,k,fJ,λ_=>rfl⟩
include C X in
theorem HT(d:ShM b o w s)(m:s.ms<=1000)(h:nT P n b o kind .give cs g):lK P n b o kind Wd cs g w main .give s:=by
 obtain⟨c,y,fr,f,l,k,j,i,rfl⟩:=h;have e:IntKind.u32.wrap ((s.ms:Int)+1)=((s.ms+1:Nat):Int):=by rw[IntKind.wrap_u32];omega
 rcases l with rfl|rfl
 . have a:=og (main:=main) (cs:=f++cs) (w:=w) j (C.VJ b o kind) (by simp[G7,va]) X.oh d.cs (d.fz _)
   rw[e]at a;exact⟨_,_,_,.out,{s with ms:=s.ms+1},.ue,a,by simp[Mu.mv],.out,nxt (C.u8 (Fl.of y) b o kind) k j i rfl rfl,Ow rfl,d.EV _,vQ,λ_=>rfl⟩
 . have a:=og (main:=main) (cs:=f++cs) (w:=w) j (C.VK b o kind) (by simp[G9,va]) X.oh d.cs (d.fz _)
   rw[e]at a;exact⟨_,_,_,.out,{s with ms:=s.ms+1},.ue,a,by simp[Mu.mv],.out,nxt (C.u9 (Fl.of y) b o kind) k j i rfl rfl,Ow rfl,d.EV _,vQ,λ_=>rfl⟩
end

import Derived.Test.YtldmpfccgajobaaGreatDoorL1
set_option linter.all false
namespace Go.Proofs.YtldmpfccgajobaaGreatDoor
open Go.aR Go.Conc
set_option maxHeartbeats 2000000
set_option maxRecDepth 4000
variable{m:Mo}{σ:aa}{KF:dF->aa->Prop}
theorem xV(T:m.solo=true){f:Fr}{n:gq}{x y:Int}{K:List Int}(hf:f.Fits)(hm:n.marks.length<1152921504606846976)(hn:K.length<1152921504606846976)(h:KF (.val (bool true)) σ):gS Tryz.prog lay m 8 [az f,aS n,int x,int y,ints K] σ KF:=by
 refine gS.start lay [] Vl 5 Tryz.func8 rfl rfl (by rfl) (by kernel_rfl) ?_
 simp[Tryz.f8];refine ai Tryz.func10 rfl rfl (r9 hf λv hv=>?_)
 refine ab.run lay [] ?_;simp;cases v with
 |true=>simp;refine ai Tryz.func11 rfl rfl (dq T ?_);refine ab.run lay [] ?_;simp;exact .done h
 |false=>
 by_cases g0:(20:Int)<n.marks.length
 . simp[g0]
   refine ai Tryz.func11 rfl rfl (dq T ?_);refine ab.run lay [] ?_;simp;exact .done h
 obtain⟨ad,_⟩:=hv rfl;have U:n.marks.length<=20:=by omega
 simp[g0];refine ai Tryz.func13 rfl rfl (nQ λc b8 hc hb O=>?_)
 refine aI.go lay [] ?_;simp;refine ai Tryz.func12 rfl rfl (lY (by omega) hn hb (by obtain⟨_,_,_,q⟩:=hb;rw[q];simp) λf1 seen al av _ ax h5 hd=>?_)
 have M:=lZ ad av ax h5 U;have hlen:[f,f1,seen,cW seen n].length=4:=rfl;generalize [f,f1,seen,cW seen n]=L at M hlen ⊢
 have ay:σ.Le al:=λy x hy=>by
  have y1:y≠c:=λe=>by subst e;rw[hc]at hy;cases hy
  rw[hd.2 y y1,O y y1];exact hy
 refine aI.go lay [] ?_;simp;refine ab.run lay [] ?_;simp;refine ab.weaken (σ:=σ) ?_ ay;refine ab.loop L.length (λi s=>∃env,s=⟨env,σ,[],.no⟩/\env 2=int x/\env 3=int y/\env 11=gO L/\env 12=int i) ⟨_,rfl,by simp,by simp,by simp,by simp⟩ ?_
 rintro c0 i _ hi ⟨env,rfl,p,r,aV,bh⟩ ih
 rcases Nat.lt_or_ge i L.length with g1|g1
 . have D:(i:Int)<L.length:=by omega
   have f1:-9223372036854775808<=(i:Int)+1/\(i:Int)+1<=9223372036854775807:=by omega
   obtain⟨g,S⟩:∃g,g=L[i]:=⟨_,rfl⟩;have P:=M g (by rw[S];exact List.getElem_mem g1)
   have C:=P.fits;have b9:=P.ao;have b1:∀z:Int,(z !=z)=false:=λz=>by simp
   refine ab.run lay [] ?_;simp[p,r,aV,bh,g1,D,<-S];refine ai Tryz.func14 rfl rfl (P.own ?_);refine ab.runN lay [] 2 ?_;simp;refine bT.intro λd b0=>?_
   simp[p,r,aV,bh];refine ab.bD 13 (b:=d) (az g) (by simp) (by simp) rfl ?_
   rw[mS b0];refine ab.run lay [] ?_;simp[p,r,aV,bh];obtain⟨cnt,b7⟩:∃cnt,cnt=min g.ao.length 5:=⟨_,rfl⟩
   refine ab.loop cnt (λk s=>∃env B a b X Y,s=⟨env,B,[],.no⟩/\env 2=int x/\env 3=int y/\env 11=gO L/\env 12=int i/\env 13=.cp (az g) 0/\env 14=a/\env 15=b/\env 16=int k/\BN σ B a b (X.map int) (Y.map int)/\X.length=Y.length/\X.length<=1+21*k)
    ⟨_,σ,.sl 1 [int x] .exact,.sl 1 [int y] .exact,[x],[y],rfl,by simp[p],by simp[r],by simp[aV],by simp[bh],by simp,by simp,by simp,by simp,⟨Tok.exact σ 1 [int x],Tok.exact σ 1 [int y],λc h=>by cases h⟩,rfl,by simp⟩ ?_
   clear p r aV bh
   rintro c1 k _ hk ⟨env,B,a,b,X,Y,rfl,p,r,aV,bh,j,bU,ck,hQ,u,E,V⟩ Q
   rcases Nat.lt_or_ge k cnt with g2|g2
   . have F:(k:Int)<g.ao.length:=by omega
     have N:(k:Int)<5:=by omega
     have Z:-9223372036854775808<=(k:Int)+1/\(k:Int)+1<=9223372036854775807:=by omega
     refine ab.run lay [] ?_;simp[p,r,aV,bh,j,bU,ck,hQ,F,N]
     refine ab.loop (k+1) (λl s=>∃env B a b X Y,s=⟨env,B,[],.no⟩/\env 2=int x/\env 3=int y/\env 11=gO L/\env 12=int i/\env 13=.cp (az g) 0/\env 14=a/\env 15=b/\env 16=int k/\env 17=int l/\BN σ B a b (X.map int) (Y.map int)/\X.length=Y.length/\X.length<=1+21*k+l)
      ⟨_,B,a,b,X,Y,rfl,by simp[p],by simp[r],by simp[aV],by simp[bh],by simp[j],by simp[bU],by simp[ck],by simp[hQ],by simp,u,E,by omega⟩ ?_
     clear p r aV bh j bU ck hQ u E V X Y a b B
     rintro c2 l _ hl ⟨env,B,a,b,X,Y,rfl,p,r,aV,bh,j,bU,ck,hQ,A,u,E,V⟩ b2
     have t:=u.fst.cells;have o:=u.snd.cells
     rcases Nat.lt_or_ge l (k+1)with g3|g3
     . have p3:(l:Int)<=k:=by omega
       have f3:-9223372036854775808<=(l:Int)+1/\(l:Int)+1<=9223372036854775807:=by omega
       refine ab.run lay [] ?_;simp[p,r,aV,bh,j,bU,ck,hQ,A,t.1,t.2,o.1,o.2,p3];refine aF lay rfl rfl rfl bC rfl bC rfl oo (by decide) (by simp;omega) (σ0:=B.off a) (es:=X.map int) (xs:=[int k]) (by simpa using u.fst.here.1) (.inr ⟨_,by simp;rfl⟩) λa1 b3 a7=>?_
       have G:=u.grow a7;have J:=a7.cells;refine ab.run lay [] ?_;simp[ck,A,J.1,J.2,o.1,o.2];refine aF lay rfl rfl rfl bC rfl bC rfl oo (by decide) (by simp;omega) (σ0:=b3.off b) (es:=Y.map int) (xs:=[int l]) (by simpa using G.snd.here.1) (.inr ⟨_,by simp;rfl⟩) λb1 b4 a8=>?_
       have R:=(G.symm.grow a8).symm;have a9:=a8.cells;refine ab.run lay [] ?_;simp[p,r,aV,bh,j,bU,ck,hQ,A,t.1,t.2,o.1,o.2,J.1,J.2,a9.1,a9.2,f3.1,f3.2]
       exact b2 _ g3 ⟨_,b4,a1,b1,X++[(k:Int)],Y++[(l:Int)],rfl,by simp[p,r,aV,bh,j,bU,ck,hQ,A,t.1,t.2,o.1,o.2],by simp[p,r,aV,bh,j,bU,ck,hQ,A,t.1,t.2,o.1,o.2],by simp[p,r,aV,bh,j,bU,ck,hQ,A,t.1,t.2,o.1,o.2],by simp[p,r,aV,bh,j,bU,ck,hQ,A,t.1,t.2,o.1,o.2],by simp[p,r,aV,bh,j,bU,ck,hQ,A,t.1,t.2,o.1,o.2],by simp,by simp,by simp[p,r,aV,bh,j,bU,ck,hQ,A,t.1,t.2,o.1,o.2],by simp,by simpa using R,by simp[E],by simp;omega⟩
     . have p3:¬(l:Int)<=k:=by omega
       refine ab.run lay [] ?_;simp[p,r,aV,bh,j,bU,ck,hQ,A,t.1,t.2,o.1,o.2,p3,Z.1,Z.2]
       exact Q _ g2 ⟨_,B,a,b,X,Y,rfl,by simp[p,r,aV,bh,j,bU,ck,hQ,A,t.1,t.2,o.1,o.2],by simp[p,r,aV,bh,j,bU,ck,hQ,A,t.1,t.2,o.1,o.2],by simp[p,r,aV,bh,j,bU,ck,hQ,A,t.1,t.2,o.1,o.2],by simp[p,r,aV,bh,j,bU,ck,hQ,A,t.1,t.2,o.1,o.2],by simp[p,r,aV,bh,j,bU,ck,hQ,A,t.1,t.2,o.1,o.2],by simp[p,r,aV,bh,j,bU,ck,hQ,A,t.1,t.2,o.1,o.2],by simp[p,r,aV,bh,j,bU,ck,hQ,A,t.1,t.2,o.1,o.2],by simp,u,E,by omega⟩
   . have bq:k=cnt:=by omega
     refine ab.yD 14 (a':=ints X) (by rw[bU];exact u.fst.W) ?_
     refine ab.yD 15 (a':=ints Y) (by simp[ck];exact u.snd.W) ?_
     refine ab.weaken (σ:=σ) ?_ u.fst.1;apply pG (I:=λenv B=>σ=B/\env 2=int x/\env 3=int y/\env 11=gO L/\env 12=int i/\env 13=.cp (az g) 0/\env 14=ints X/\env 15=ints Y/\env 18=int 0)
     . intro H
       by_cases F:(k:Int)<g.ao.length
       . have N:¬(k:Int)<5:=by omega
         refine ab.run lay [] ?_;simp[p,r,aV,bh,j,bU,ck,hQ,F,N];exact H _ _ ⟨rfl,by simp[p,r,aV,bh,j,bU,ck,hQ],by simp[p,r,aV,bh,j,bU,ck,hQ],by simp[p,r,aV,bh,j,bU,ck,hQ],by simp[p,r,aV,bh,j,bU,ck,hQ],by simp[p,r,aV,bh,j,bU,ck,hQ],by simp,by simp,by simp⟩
       . refine ab.run lay [] ?_
         simp[p,r,aV,bh,j,bU,ck,hQ,F];exact H _ _ ⟨rfl,by simp[p,r,aV,bh,j,bU,ck,hQ],by simp[p,r,aV,bh,j,bU,ck,hQ],by simp[p,r,aV,bh,j,bU,ck,hQ],by simp[p,r,aV,bh,j,bU,ck,hQ],by simp[p,r,aV,bh,j,bU,ck,hQ],by simp,by simp,by simp⟩
     clear p r aV bh j bU ck hQ
     rintro env _ ⟨rfl,p,r,aV,bh,j,bU,ck,jM⟩
     refine ab.loop X.length (λk s=>∃env,s=⟨env,σ,[],.no⟩/\env 2=int x/\env 3=int y/\env 11=gO L/\env 12=int i/\env 13=.cp (az g) 0/\env 14=ints X/\env 15=ints Y/\env 18=int k)
      ⟨_,rfl,p,r,aV,bh,j,bU,ck,jM⟩ ?_
     clear p r aV bh j bU ck jM
     rintro c2 k _ hk ⟨env,rfl,p,r,aV,bh,j,bU,ck,jM⟩ Q
     rcases Nat.lt_or_ge k X.length with g3|g3
     . have F:(k:Int)<X.length:=by omega
       have mE:k<Y.length:=by omega
       have N:(k:Int)<Y.length:=by omega
       have Z:-9223372036854775808<=(k:Int)+1/\(k:Int)+1<=9223372036854775807:=by omega
       refine ab.run lay [] ?_;simp[p,r,aV,bh,j,bU,ck,jM,F,N,g3,mE];refine ai Tryz.func48 rfl rfl (Gm T C ?_);obtain⟨v,hv⟩:∃v,v=rm g X[k]:=⟨_,rfl⟩;rw[<-hv];refine aI.go lay [] ?_;simp[p,r,aV,bh,j,bU,ck,jM];refine ab.run lay [] ?_;simp[p,r,aV,bh,j,bU,ck,jM,F,N,g3,mE,g1,D,<-S];refine ai Tryz.func49 rfl rfl (Gl C ?_);rw[<-hv];refine aI.go lay [] ?_;simp[p,r,aV,bh,j,bU,ck,jM];refine ab.run lay [] ?_;simp[p,r,aV,bh,j,bU,ck,jM,F,N,g3,mE,g1,D,<-S]
       refine ai Tryz.func50 rfl rfl (Gn T C ?_);have b5:=Dz (x:=X[k]) (y:=Y[k]) C;obtain⟨w,hw⟩:∃w,w=qO g X[k] Y[k]:=⟨_,rfl⟩;rw[<-hw]at b5 ⊢;refine aI.go lay [] ?_;simp[p,r,aV,bh,j,bU,ck,jM];refine ab.run lay [] ?_;simp[p,r,aV,bh,j,bU,ck,jM,F,N,g3,mE,g1,D,<-S];refine ai Tryz.func51 rfl rfl (Dy C ?_);rw[<-hw];refine aI.go lay [] ?_;simp[p,r,aV,bh,j,bU,ck,jM];refine ab.run lay [] ?_;simp[p,r,aV,bh,j,bU,ck,jM,b1];refine ai Tryz.func21 rfl rfl (fa (by omega) (by omega) ?_)
       rw[decide_eq_true rfl];refine ab.run lay [] ?_;simp[p,r,aV,bh,j,bU,ck,jM,Z.1,Z.2];exact Q _ g3 ⟨_,rfl,by simp[p,r,aV,bh,j,bU,ck,jM],by simp[p,r,aV,bh,j,bU,ck,jM],by simp[p,r,aV,bh,j,bU,ck,jM],by simp[p,r,aV,bh,j,bU,ck,jM],by simp[p,r,aV,bh,j,bU,ck,jM],by simp[p,r,aV,bh,j,bU,ck,jM],by simp[p,r,aV,bh,j,bU,ck,jM],by simp⟩
     . have F:¬(k:Int)<X.length:=by omega
       refine ab.run lay [] ?_;simp[p,r,aV,bh,j,bU,ck,jM,F,g1,D,<-S];refine ai Tryz.func22 rfl rfl (fN C ?_);refine aI.go lay [] ?_;simp[p,r,aV,bh,j,bU,ck,jM];refine ab.run lay [] ?_;simp[p,r,aV,bh,j,bU,ck,jM,f1.1,f1.2];exact ih _ g1 ⟨_,rfl,by simp[p,r,aV,bh,j,bU,ck,jM],by simp[p,r,aV,bh,j,bU,ck,jM],by simp[p,r,aV,bh,j,bU,ck,jM],by simp⟩
 . have b6:i=L.length:=by omega
   subst b6;refine ab.run lay [] ?_;simp[p,r,aV,bh];refine ai Tryz.func11 rfl rfl (dq T ?_);refine ab.run lay [] ?_;simp[p,r,aV,bh];exact .done h
end Go.Proofs.YtldmpfccgajobaaGreatDoor

import Derived.Test.YtkcceaplmgdnfaaGreatDoorC32
set_option linter.all false
set_option maxHeartbeats 1000000
set_option maxRecDepth 4000
namespace Go.Proofs.YtkcceaplmgdnfaaGreatDoor
open Go.Proofs.Tryz (prog)
section
open Go.bQ Go.Conc
variable{m:Mo}{σ:aa}{KF:abT}
theorem dX{a lo hi:Int}(h:KF (.val (bool (bD a lo hi))) σ):aA prog m 71 [int a,int lo,int hi] σ KF:=by
 refine fs [] 3 Tryz.func71 rfl rfl (by rfl) (by kernel_rfl) ?_;simp[Tryz.f71];unfold bD at h;by_cases g:lo<=a
 . simp[g]
   refine .done ?_
   simp_all
 . simp[g]
   refine .done ?_
   simp_all
theorem qa{x:Int}(h:KF (.val (ints (aB x))) σ):aA prog m 60 [u8 x] σ KF:=by
 refine fs [] 1 Tryz.func60 rfl rfl (by rfl) (by kernel_rfl) ?_;simp[Tryz.f60];refine ab.loop 6 (λk s=>∃env b,s=⟨env,b,[],.no⟩/\env 0=u8 x/\env 5=int k/\Tok σ b (env 3) 1 ((((List.range k).map λn:Nat=>(n:Int)).filter λn=>fM x n).map int)) ⟨_,_,rfl,by simp,by simp,.nil σ 1⟩ ?_;rintro l k _ o ⟨env,b,rfl,d,c,a⟩ f;rcases ZU k 6 with g1|g1
 . have e:(k:Int)<6:=by omega
   have p:(((List.range k).map λn:Nat=>(n:Int)).filter λn=>fM x n).length<=k:=by grind
   have q:(((List.range (k+1)).map λn:Nat=>(n:Int)).filter λn=>fM x n)=(((List.range k).map λn:Nat=>(n:Int)).filter λn=>fM x n)++if fM x k then[(k:Int)]else[]:=by
    rw[ZN,ZI,aar]
    grind
   refine rn ?_;simp[d,c,e,uv];have g:fM x k=(Dx (x.fdiv (2 ^ min k IntKind.u8.bits)) 1==1):=by simp[fM]
   rw[<-g];cases hb:fM x k
   . simp[c]
     refine⟨by omega,f _ g1 ⟨_,_,rfl,by simp[d],by simp,?_⟩⟩
     simp_all
   . simp
     refine aK lay rfl rfl rfl dh rfl dh rfl qM (by decide) (by grind) (σ0:=σ) (es:=(((List.range k).map λn:Nat=>(n:Int)).filter λn=>fM x n).map int) (xs:=[int k]) (by simp_all) (.inr ⟨_,rfl⟩) λr i j=>?_
     refine rn ?_;simp[c];refine⟨by omega,f _ g1 ⟨_,_,rfl,by simp[d],by simp,?_⟩⟩
     simp_all
 . have:k=6:=by omega
   subst this;refine rn ?_;simp[c];exact .n8 a.W (.less a.1 (.done h))
abbrev np(n:Nat):acp:=(List.range n).map λn:Nat=>(n:Int)
theorem uG{n:Nat}(j:n<=1000)(h:KF (.val (ints (np n))) σ):aA prog m 49 [int n] σ KF:=by
 refine fs [] 1 Tryz.func49 rfl rfl (by rfl) (by kernel_rfl) ?_;simp[Tryz.f49];refine ab.loop n (λk s=>∃env b,s=⟨env,b,[],.no⟩/\env 5=int n/\env 6=int k/\Tok σ b (env 3) 1 ((np k).map int)) ⟨_,_,rfl,by simp,by simp,.nil σ 1⟩ ?_;rintro l k _ o ⟨env,b,rfl,c,d,a⟩ g;rcases ZU k n with g1|g1
 . have e:(k:Int)<n:=by omega
   have f1:-9223372036854775808<=(k:Int)+1/\(k:Int)+1<=9223372036854775807:=by omega
   refine rn ?_;simp[c,d,e];refine aK lay rfl rfl rfl dh rfl dh rfl qM (by decide) (by grind) (σ0:=σ) (es:=(np k).map int) (xs:=[int k]) (by simp_all) (.inr ⟨_,rfl⟩) λp i f=>?_
   refine rn ?_;simp[d];refine⟨by omega,g _ g1 ⟨_,_,rfl,by simp[c],by simp,?_⟩⟩;rw[show np (k+1)=np k++[(k:Int)]by unfold np;rw[ZN,ZI];rfl,ZI];exact f
 . have:k=n:=by omega
   subst this;refine rn ?_;simp[c,d];exact .n8 a.W (.less a.1 (.done h))
theorem Nn(h:KF (.val (.agg [u8 1,u8 2,u8 4])) σ):aA prog m 101 [] σ KF:=by
 refine aA.Fi lay [] [] 3 0 Tryz.func101 rfl rfl (by rfl) (by kernel_rfl) ?_;simp[Tryz.f101];refine bR.intro λc a=>?_
 simp;change ab _ _ _ _ _ _ _ _ _;refine ab.runN lay [] 3 ?_;simp;change ab _ _ _ _ _ _ _ _ _;refine ab.op rfl (bX rfl) (by simp) (λc=>by simp) (pQ lay rfl Uk rfl LH (l:=[u8 1,u8 2,u8 4]) (by simp) rfl ?_);refine rn ?_;simp;refine .less ?_ (.done h);exact aa.fj (aa.le_refl _) a
theorem FY{n:Int}{t:Nat}(a:t=if n=1 then 125 else if n=3 then 284 else 195)(h:KF (.val (.lZ t (.agg []))) σ):aA prog m 149 [int n] σ KF:=by
 subst a;refine fs [] 1 Tryz.func149 rfl rfl (by rfl) (by kernel_rfl) ?_;simp[Tryz.f149];by_cases g:n=1
 . subst g
   simp;exact .done h
 . by_cases b:n=3
   . subst b
     simp;exact .done h
   . have c:(n==1)=false:=by grind
     have d:(n==3)=false:=by simp_all
     simp[c,d];refine .done ?_
     simp_all
abbrev yo(l:List Jq):acC:=l.map (·.lost)
theorem No{l:List Jq}(p:l.length<=1000)(h:KF (.val (jw (yo l))) σ):aA prog m 76 [kM l] σ KF:=by
 refine fs [] 1 Tryz.func76 rfl rfl (by rfl) (by kernel_rfl) ?_;simp[Tryz.f76];refine ab.loop l.length (λk s=>∃env c,s=⟨env,c,[],.no⟩/\env 6=kM l/\env 7=int l.length/\env 8=int k/\Tok σ c (env 3) 6 ((yo (l.take k)).map br)) ⟨_,_,rfl,by simp,by simp,by simp,.nil σ 6⟩ ?_;rintro q k _ r ⟨env,c,rfl,j,e,f,a⟩ n;rcases ZU k l.length with g1|g1
 . have g:(k:Int)<l.length:=by omega
   refine ab.runN lay [] 17 ?_;simp[j,e,f,g1,g];refine bR.intro λd hd=>?_
   simp;change ab _ _ _ _ _ _ _ _ _;refine ab.runN lay [] 1 ?_;simp;change ab _ _ _ _ _ _ _ _ _;refine ab.bC 5 (b:=d) (fW l[k]) (aa.ak _ _ _) (by simp) rfl ?_;rw[fe hd];refine rn ?_;simp;refine aK lay rfl rfl rfl na rfl na rfl ze (by decide) (by grind) (σ0:=σ) (es:=(yo (l.take k)).map br) (xs:=[br l[k].lost]) (by simp_all) (.inr ⟨_,rfl⟩) λt o i=>?_
   refine rn ?_;simp[f];refine⟨by omega,n _ g1 ⟨_,_,rfl,by simp[j],by simp[e],by simp,?_⟩⟩;rw[show(yo (l.take (k+1))).map br=(yo (l.take k)).map br++[br l[k].lost]by unfold yo;rw[zs g1,ZI,ZI];rfl];exact i
 . have:k=l.length:=by omega
   subst this;refine rn ?_;simp[e,f];rw[ZG]at a;exact .n8 a.W (.less a.1 (.done h))
theorem zn{l:acC}(f:l.length<=1000)(h:∀a σ',Tok σ σ' a 6 (l.map br)->KF (.val a) σ'):aA prog m 115 [jw l] σ KF:=by
 refine fs [] 1 Tryz.func115 rfl rfl (by rfl) (by kernel_rfl) ?_;simp[Tryz.f115];refine A7 (es:=l.map br) (sp:=.any) (kk:=6) lay rfl na rfl rfl (by simp) (.inl rfl) (λb=>?_) ?_
 . have:l=[]:=by simp_all
   subst this;have c:(BinOp.eql==BinOp.eql)=true:=rfl;refine rn ?_;simp;exact .done (h _ _ (.nil σ 6))
 . have c:(BinOp.eql==BinOp.neq)=false:=rfl
   refine rn ?_;simp[c];refine aK lay rfl rfl rfl na rfl na rfl ze (by decide) (by grind) (σ0:=σ) (es:=[]) (xs:=l.map br) ⟨aa.le_refl _,.inr (.inl (by simp))⟩ (.inr ⟨_,rfl⟩) λg d e=>?_
   refine rn ?_;simp;exact .done (h _ _ (by simp_all))
theorem Eb{f:Fr}{l:acC}(u:f.aD.length+l.length<=1000)(h:KF (.val (dB {f with aD:=f.aD++l})) σ):aA prog m 75 [dB f,jw l] σ KF:=by
 refine aA.start lay [2] [] 2 Tryz.func75 rfl rfl (by rfl) (by kernel_rfl) ?_;simp[Tryz.f75];refine bR.intro λb hb=>?_
 simp;refine bR.intro λd hd=>?_
 obtain⟨o,j,hd⟩:=aa.aN hd;simp[j,aa.ai];refine cf Tryz.func115 rfl (zn (by omega) λa p q=>?_);refine ab.run lay [2] ?_;simp;refine aK lay rfl rfl rfl na rfl na rfl ze (by decide) (by grind) (es:=f.aD.map br) (xs:=l.map br) q (.inr ⟨_,rfl⟩) λa' i g=>?_
 rw[<-List.map_append]at g;generalize f.aD++l=L at h g;refine ab.Ew 9 (a':=jw L) (by simpa using g.W) ?_;have r:i b=some (.cells (G8 f)):=g.1 _ _ (by simp[j,aa.ai]);have s:i d=some (.cells [.lit (.slice none 0 0),.lit (.slice none 0 0),int 0,int 0,int 0,int 0]):=g.1 _ _ (by simp);refine ab.run lay [2] ?_;simp[r,s,o,aa.ai];refine .less (λc x t=>?_) (.done h);have k:c≠b:=λe=>by simp_all
 have n:c≠d:=λe=>by simp_all
 rw[aa.ai _ _ n,aa.ai _ _ k];exact g.1 _ _ (by rw[aa.ai _ _ n,aa.ai _ _ k];exact t)
theorem yp(h:KF (.val (int 0)) σ):aA prog m 69 [.lit .nilIface] σ KF:=by
 refine fs [] 1 Tryz.func69 rfl rfl (by rfl) (by kernel_rfl) ?_;simp[Tryz.f69];refine bR.intro λb hb=>?_
 simp;refine cf Tryz.func111 rfl (UJ ?_);refine rn ?_;simp;exact .less (by repeat (first|exact aa.le_refl _|assumption|refine aa.fj ?_ (by assumption)|refine aa.lD ?_ (by assumption))) (.done h)
theorem ry{f:Fr}(a:f.Fits)(b:check f=0)(h:KF (.val (.lit .nilIface)) σ):aA prog m 70 [dB f] σ KF:=by
 refine fs [] 1 Tryz.func70 rfl rfl (by rfl) (by kernel_rfl) ?_;simp[Tryz.f70];refine cf Tryz.func112 rfl (Dz a ?_);refine rn ?_;simp[b];exact .done h
def oP(t:Int)(x:Way):Int:=if bD x.a 0 (t-1)=false then 3 else if bD x.b 0 (t-1)=false then 3 else if x.a=x.b then 8 else if bD x.cz 1 12=false then 1 else if bD x.aR 0 72=false then 1 else if bD x.eS 0 72=false then 1 else if x.aR>x.eS then 5 else 0
theorem BY{x:Way}{t:Int}(i:0<=t/\t<=100)(h:KF (.val (int (oP t x))) σ):aA prog m 72 [jH x,int t] σ KF:=by
 unfold oP at h;refine fs [] 2 Tryz.func72 rfl rfl (by rfl) (by kernel_rfl) ?_;simp[Tryz.f72];refine⟨by omega,?_⟩;refine cf Tryz.func71 rfl (dX ?_);refine rn ?_;simp;refine uX.intro (λa=>?_) (λa=>?_)<;>(try simp[-Int.not_lt,-Int.not_le,-Nat.not_lt,-Nat.not_le]at a)<;>(try simp[a]at h)<;>(try simp[a])<;>(try exact .done h);refine⟨by omega,?_⟩;refine cf Tryz.func71 rfl (dX ?_);refine rn ?_;simp;refine aG.intro (λb=>?_) (λb=>?_)<;>(try simp[-Int.not_lt,-Int.not_le,-Nat.not_lt,-Nat.not_le]at b)<;>(try simp[b]at h)<;>(try simp[b])<;>(try exact .done h);refine aG.intro (λc=>?_) (λc=>?_)<;>(try simp[-Int.not_lt,-Int.not_le,-Nat.not_lt,-Nat.not_le]at c)<;>(try simp[c]at h)<;>(try simp[c])<;>(try exact .done h)
 refine cf Tryz.func71 rfl (dX ?_);refine rn ?_;simp;refine uX.intro (λd=>?_) (λd=>?_)<;>(try simp[-Int.not_lt,-Int.not_le,-Nat.not_lt,-Nat.not_le]at d)<;>(try simp[d]at h)<;>(try simp[d])<;>(try exact .done h);refine cf Tryz.func71 rfl (dX ?_);refine rn ?_;simp;refine uX.intro (λe=>?_) (λe=>?_)<;>(try simp[-Int.not_lt,-Int.not_le,-Nat.not_lt,-Nat.not_le]at e)<;>(try simp[e]at h)<;>(try simp[e])<;>(try exact .done h);refine cf Tryz.func71 rfl (dX ?_);refine rn ?_;simp;refine aG.intro (λf=>?_) (λf=>?_)<;>(try simp[-Int.not_lt,-Int.not_le,-Nat.not_lt,-Nat.not_le]at f)<;>(try simp[f]at h)<;>(try simp[f])<;>(try exact .done h);refine aG.intro (λg=>?_) (λg=>?_)<;>(try simp[-Int.not_lt,-Int.not_le,-Nat.not_lt,-Nat.not_le]at g)<;>(try simp[g]at h)<;>(try simp[g])<;>(try exact .done h)
def dY{α:Type}(g:α->Int):List α->Int
 |[]=>0
 |x::l=>if g x=0 then dY g l else g x
theorem Ax{α:Type}(g:α->Int)(l:List α)(i:Nat)(h:i<l.length):dY g (l.drop i)=if g l[i]=0 then dY g (l.drop (i+1))else g l[i]:=by rw[ZW h,dY]
abbrev lone(f:Fr)(e:mN):Fr:={f with aD:=[e]}
abbrev gT(w:cH):Fr:={w.fair with aD:=w.fair.aD++yo w.az}
def vJ(w:cH)(c:Jq):Int:=if bD c.town 0 (w.ba-1)=false then 3 else if bD c.hour 0 72=false then 1 else if c.hour<c.lost.hour then 5 else 0
def jA(w:cH):Int:=if bD w.ba 1 4=false then 1 else if(6:Int)<w.ways.length then 6 else if dY (oP w.ba) w.ways≠0 then dY (oP w.ba) w.ways else if(3:Int)<w.az.length then 6 else if dY (vJ w) w.az≠0 then dY (vJ w) w.az
 else if(6:Int)<(w.fair.aD.length:Int)+w.az.length then 6 else if gz (gT w)=0 then 9 else 0
structure cH.qP(w:cH):Prop where
 fits:w.fair.Fits
 Cd:check w.fair=0
 SC:∀c∈w.az,(lone w.fair c.lost).Fits/\check (lone w.fair c.lost)=0
 ways:w.ways.length<1152921504606846976
 az:w.az.length<1152921504606846976
theorem Ry{es:acw}{sp:cT}{l:acw}:(AV.agg (.sl 6 es sp::l)).W (.agg (.sl 6 es .any::l)):=pS rfl λi x y b a=>by
 cases i with
 |zero=>simp at b a;subst b;subst a;exact ik _ _ _
 |succ i=>simp at b a;rw[b]at a;cases a;exact .refl _
theorem BZ{w:cH}{c:Jq}(j:0<=w.ba/\w.ba<=100)(f:(lone w.fair c.lost).Fits)(g:check (lone w.fair c.lost)=0)(h:KF (.val (int (vJ w c))) σ):aA prog m 73 [eo w,fW c] σ KF:=by
 unfold vJ at h;have i:Wl [AV.agg [.sl 6 [br c.lost] .exact,rows w.fair.roads,int w.fair.aR,int w.fair.eS,int w.fair.cQ,int w.fair.aX]] [dB (lone w.fair c.lost)]:=.cons Ry .nil;refine aA.thaw ?_;refine fs [] 2 Tryz.func73 rfl rfl (by rfl) (by kernel_rfl) ?_;simp[Tryz.f73];refine bR.intro λb hb=>?_
 simp;refine cu Tryz.func70 rfl rfl i (ry f g ?_);refine rn ?_;simp;refine cf Tryz.func69 rfl (yp ?_);refine rn ?_;simp
 replace h:=ny.less (aa.fj (b:=b) (x:=.cells [.sl 6 [br c.lost] .exact,rows w.fair.roads,int w.fair.aR,int w.fair.eS,int w.fair.cQ,int w.fair.aX]) (aa.le_refl _) hb) (.done h)
 refine⟨by omega,?_⟩;refine cf Tryz.func71 rfl (dX ?_);refine rn ?_;simp;refine aG.intro (λa=>?_) (λa=>?_)<;>(try simp[-Int.not_lt,-Int.not_le,-Nat.not_lt,-Nat.not_le]at a)<;>(try simp[a]at h)<;>(try simp[a])<;>(try exact .done h);refine cf Tryz.func71 rfl (dX ?_);refine rn ?_;simp;refine aG.intro (λd=>?_) (λd=>?_)<;>(try simp[-Int.not_lt,-Int.not_le,-Nat.not_lt,-Nat.not_le]at d)<;>(try simp[d]at h)<;>(try simp[d])<;>(try exact .done h);refine aG.intro (λe=>?_) (λe=>?_)<;>(try simp[-Int.not_lt,-Int.not_le,-Nat.not_lt,-Nat.not_le]at e)<;>(try simp[e]at h)<;>(try simp[e])<;>(try exact .done h)
theorem gV{w:cH}(b:w.qP)(f:w.fair.aD.length+w.az.length<=6):(gT w).Good:=by
 have a:=Fr.qO b.fits b.Cd;refine⟨⟨?_,a.fits.roads,a.fits.row,λe he=>?_⟩,a.fr,a.to,a.le,a.cQ,a.aX,?_,λe he=>?_,a.JN⟩
 . grind
 . rcases List.mem_append.1 he with he|he
   . exact a.fits.marks e he
   . obtain⟨c,d,rfl⟩:=List.mem_map.1 he
     exact(b.SC c d).1.marks _ (List.mem_singleton.2 rfl)
 . simp_all
 . rcases List.mem_append.1 he with he|he
   . exact a.te e he
   . obtain⟨c,d,rfl⟩:=List.mem_map.1 he
     exact(Fr.qO (b.SC c d).1 (b.SC c d).2).te _ (List.mem_singleton.2 rfl)
theorem FZ{w:cH}(D:m.solo=true)(e:w.qP)(h:KF (.val (int (jA w))) σ):aA prog m 33 [eo w] σ KF:=by
 have E:=e.ways;have F:=e.az;unfold jA at h;refine fs Wa 1 Tryz.func33 rfl rfl (by rfl) (by kernel_rfl) ?_;simp[Tryz.f33];refine cf Tryz.func70 rfl (ry e.fits e.Cd ?_);refine rn ?_;simp;refine cf Tryz.func69 rfl (yp ?_);refine rn ?_;simp;refine cf Tryz.func71 rfl (dX ?_);refine rn ?_;simp;refine aG.intro (λp=>?_) (λp=>?_)<;>(try simp[-Int.not_lt,-Int.not_le,-Nat.not_lt,-Nat.not_le]at p)<;>(try simp[p]at h)<;>(try simp[p])<;>(try exact .done h);have I:=dC p;refine aG.intro (λv=>?_) (λv=>?_)<;>(try simp[-Int.not_lt,-Int.not_le,-Nat.not_lt,-Nat.not_le]at v)<;>(try simp[v]at h)<;>(try simp[v])<;>(try exact .done h);refine ab.loop w.ways.length (λk s=>∃env,s=⟨env,σ,[],.no⟩/\env 1=.cp (eo w) 0/\env 28=uF w.ways/\env 29=int w.ways.length/\env 30=int k/\dY (oP w.ba) w.ways=dY (oP w.ba) (w.ways.drop k)) ⟨_,rfl,by simp⟩ ?_;rintro G k _ H ⟨env,rfl,c,q,r,g,a⟩ C
 refine ab.runN lay [] 17 ?_;simp[r,g];refine aG.intro (λx=>?_) (λx=>?_)<;>(try simp[-Int.not_lt,-Int.not_le,-Nat.not_lt,-Nat.not_le]at x)<;>(try simp[c,q,g,x])
 . rw[Ax _ _ k x]at a
   refine bR.intro λd hd=>?_
   simp;change ab _ _ _ _ _ _ _ _ _;refine ab.runN lay [] 1 ?_;simp;change ab _ _ _ _ _ _ _ _ _;refine ab.bC 5 (b:=d) (jH w.ways[k]) (aa.ak _ _ _) (by simp) rfl ?_;rw[fe hd];refine rn ?_;simp[c];refine cf Tryz.func72 rfl (BY (by omega) ?_);refine rn ?_;simp;refine aG.intro (λj=>?_) (λj=>?_)<;>(try simp[-Int.not_lt,-Int.not_le,-Nat.not_lt,-Nat.not_le]at j)<;>(try simp[g,j])
   . rw[if_neg j]at a
     simp[a,j]at h;exact .done h
   . rw[if_pos j]at a
     refine⟨by omega,C _ (by omega) ⟨_,rfl,by simp[c],by simp[q],by simp[r],by simp,a⟩⟩
 . have ek:k=w.ways.length:=by omega
   subst ek;rw[aaS]at a;rw[show dY (oP w.ba) []=0 from rfl]at a;simp[a]at h;refine aG.intro (λy=>?_) (λy=>?_)<;>(try simp[-Int.not_lt,-Int.not_le,-Nat.not_lt,-Nat.not_le]at y)<;>(try simp[y]at h)<;>(try simp[y])<;>(try exact .done h)
   . refine rn ?_
     simp;exact .done h
   refine rn ?_;simp[c];refine ab.loop w.az.length (λk s=>∃env,s=⟨env,σ,[],.no⟩/\env 1=.cp (eo w) 0/\env 47=kM w.az/\env 48=int w.az.length/\env 49=int k/\dY (vJ w) w.az=dY (vJ w) (w.az.drop k)) ⟨_,rfl,by simp[c]⟩ ?_;rintro G k _ H ⟨env,rfl,c,t,u,i,a⟩ C;refine ab.runN lay [] 17 ?_;simp[u,i];refine aG.intro (λl=>?_) (λl=>?_)<;>(try simp[-Int.not_lt,-Int.not_le,-Nat.not_lt,-Nat.not_le]at l)<;>(try simp[c,t,i,l])
   . rw[Ax _ _ k l]at a
     refine bR.intro λd hd=>?_
     simp;change ab _ _ _ _ _ _ _ _ _;refine ab.runN lay [] 1 ?_;simp;change ab _ _ _ _ _ _ _ _ _;refine ab.bC 8 (b:=d) (fW w.az[k]) (aa.ak _ _ _) (by simp) rfl ?_;rw[fe hd];refine rn ?_;simp[c];refine cf Tryz.func73 rfl (BZ (by omega) (e.SC _ (zD l)).1 (e.SC _ (zD l)).2 ?_);refine rn ?_;simp;refine aG.intro (λo=>?_) (λo=>?_)<;>(try simp[-Int.not_lt,-Int.not_le,-Nat.not_lt,-Nat.not_le]at o)<;>(try simp[i,o])
     . rw[if_neg o]at a
       simp[a,o]at h;exact .done h
     . rw[if_pos o]at a
       refine⟨by omega,C _ (by omega) ⟨_,rfl,by simp[c],by simp[t],by simp[u],by simp,a⟩⟩
   . have ek:k=w.az.length:=by omega
     subst ek;rw[aaS]at a;rw[show dY (vJ w) []=0 from rfl]at a;simp[a]at h;have J:=(Fr.qO e.fits e.Cd).qB;have f1:-9223372036854775808<=(w.fair.aD.length:Int)+w.az.length/\(w.fair.aD.length:Int)+w.az.length<=9223372036854775807:=by omega
     refine rn ?_;simp[f1.1,f1.2];refine aG.intro (λz=>?_) (λz=>?_)<;>(try simp[-Int.not_lt,-Int.not_le,-Nat.not_lt,-Nat.not_le]at z)<;>(try simp[z]at h)<;>(try simp[c,z])<;>(try exact .done h);have A:=gV e (by omega);refine cf Tryz.func76 rfl (No (by omega) ?_);refine pg ?_;simp;refine cf Tryz.func75 rfl (Eb (by grind) ?_);refine pg ?_;simp;refine cf Tryz.func74 rfl (M4 (f:=gT w) D A.fits A.Cd ⟨Nat.lt_of_le_of_lt (BV A _) (by decide),Nat.lt_of_le_of_lt (BV A _) (by decide)⟩ ?_);refine pg ?_;simp;obtain⟨n,a⟩:∃n,n=gz (gT w):=⟨_,rfl⟩;rw[<-a]at h;change ab _ _ _ _ _ _ _ _ _;simp only[<-a];refine rn ?_;simp;refine aG.intro (λB=>?_) (λB=>?_)<;>(try simp[-Int.not_lt,-Int.not_le,-Nat.not_lt,-Nat.not_le]at B)<;>(try simp[B]at h)<;>(try simp[B])<;>(try exact .done h)
end
section
open Go.bQ Go.Conc
theorem yq{m:ah}{fb mb:Nat}{A:bJ}{j:Nat}{w:cH}{c:Jq}{o p q:AV}{hole:acr}(B:∀i∈hole,9<=i)(C:A.fb=fb/\A.mb=mb/\A.fo=9/\A.nm=nn/\A.ng=ng/\A.dir=true)(hj:j<3)(r:∀x,A.GI x↔x=.map [])(D:w.ways.length<1152921504606846976)(s:∀x∈w.ways,tw w.ba x)(E:1<=w.ba/\w.ba<=4)(F:0<=c.town/\c.town<w.ba)(t:0<=c.hour/\c.hour<=72)
 (G:A.val j=.int .i64 ((qH w.ways w.ba.toNat c.town c.hour).getD 0 0)){body:Code}(hb:Tryz.f90.body=some body):
 ab prog (iu prog A j) 90 25 none Ur [.code body] ⟨dt [.ref A.gb 0,.cp (Pw fb mb w o p q hole 0) 0,.cp (fW c) 0,.cp (int j) 0],jK A.fb,[],.told .deferred [cI prog] m⟩ (Rb prog A j Tryz.f90):=by
 obtain⟨rfl,rfl,a,e,H,d⟩:=C;simp only[Tryz.f90,kn]at hb;subst hb;refine rn ?_;simp;refine ab.defer rfl rfl rfl rfl (by simp) rfl ?_
 refine rn ?_;simp;obtain⟨I,L,M,N,y⟩:=BX (l:=w.ways) (n:=w.ba.toNat) (town:=c.town) (λx g=>(s x g).2.2.1) t
 rw[y]at G;refine cf Tryz.func92 rfl (FX B D s E F t λh k=>?_)
 have J:h A.fb=some .gX:=k _ _ (by simp[jK])
 rw[y];refine rn ?_;simp;have cell:A.cell j=11+j:=by unfold bJ.cell;rw[a]
 have z:=@Fj prog A j d;rw[a,e]at z;refine cf Tryz.func93 rfl (z (by rw[cell];simp<;>omega) J λx v g O=>?_)
 obtain rfl:=(r x).1 g;refine rn ?_;simp;refine ab.defer rfl rfl rfl rfl (by simp) rfl ?_
 have K:(j:Int)<3:=by omega
 have P:j<=2:=by omega
 refine ab.runN lay [] 1 ?_;simp
 change ab _ _ _ _ _ _ _ _ _
 refine ab.draw lay (.take [0,1,2,3,4,5] false (.one 6 (.done))) rfl ?_;refine aM.take lay [] ?_;simp[A9,K];refine aM.one rfl (by kernel_rfl) rfl (by simp) ?_
 refine Io lay (b:=A.fb) (off:=11+j) (u:=.int .i64 I) (v0:=v) (f:=A.own j v) rfl qM rfl ?_ (by simp) rfl (by simp) (by simp[bJ.own,cell]) ?_
 . simp
   exact qA _ _ _ _
 . refine iM.done ?_
   refine rn ?_;simp;exact⟨rfl,.inl rfl,⟨m,rfl⟩,Pw A.fb A.mb w o p q hole 9,_,.map [],by rw[a];exact qA _ _ _ _,by grind,aa.ak _ _ _,by simp_all,(aa.ai _ _ (za A.d5)).trans (aa.ak _ _ _),(r _).2 rfl,rfl⟩
end
section
open Go.bQ Go.Conc
variable{m:Mo}{σ:aa}{KF:abT}
theorem Np:mc prog nn:=⟨⟨_,_,Tryz.func93,rfl,rfl,rfl⟩,⟨_,_,Tryz.func94,rfl,rfl,rfl⟩⟩
def yr(w:cH):Prop:=w.az.length<=3/\∀c∈w.az,(0<=c.town/\c.town<w.ba)/\0<=c.hour/\c.hour<=72
def Qr(w:cH)(c:Jq):Int:=(qH w.ways w.ba.toNat c.town c.hour).getD 0 0
def il(w:cH)(j:Nat):Int:=match w.az[j]? with|some c=>Qr w c|none=>0
abbrev uH(fb mb:Nat)(w:cH)(o:Nat):AV:=Pw fb mb w (int (il w 0)) (int (il w 1)) (int (il w 2)) [9,10] o
structure Js(σ:aa)(fb mb:Nat)(w:cH)(σ':aa):Prop where
 f0:σ fb=none
 m0:σ mb=none
 ne:fb≠mb
 eq:σ'=(σ.set mb (mY (pz .u8) [])).set fb (.part (bH 9))
def vr(n:Nat):acr:=[9,10]++(List.range n).map (11+·)
abbrev Wj(mb:Nat)(w:cH):acw:=[jw w.fair.aD,rows w.fair.roads,int w.fair.aR,int w.fair.eS,int w.fair.cQ,int w.fair.aX,int w.ba,uF w.ways,kM w.az,.lit (.int .i32 0),.lit (.int .u32 0),int 0,int 0,int 0,.map mb]
abbrev Rz(fb mb:Nat)(w:cH)(o:Nat):AV:=Pw fb mb w (int 0) (int 0) (int 0) (vr w.az.length) o
def SD(n:Nat):Nat->abV:=λi=>if i=9 then some (.int .i32 0)else if i=10 then some (.int .u32 0)else if 11<=i/\i<11+n then some (.int .i64 0)else none
theorem nN{n i:Nat}:i∈vr n↔i=9\/i=10\/11<=i/\i<11+n:=by
 unfold vr;rw[aaG,abd];constructor
 . grind
 . rintro(h|h|h)
   . simp_all
   . simp_all
   . exact .inr ⟨i-11,List.mem_range.2 (by omega),by omega⟩
theorem Nq{n i:Nat}(h:i∈vr n):9<=i:=by have:=nN.1 h;omega
theorem RA{n mb:Nat}{w:cH}(h:n<=3)(i:Nat)(v:Value)(a:SD n i=some v):(Wj mb w)[i]?=some (.lit v):=by
 unfold SD at a;split at a
 . simp_all
 split at a
 . simp_all
 split at a
 . next e=>
   cases a;have:i=11\/i=12\/i=13:=by omega
   rcases this with rfl|rfl|rfl<;>rfl
 . cases a
theorem Nr(n i:Nat):SD n i=none↔i∉vr n:=by
 rw[nN];unfold SD
 grind
theorem tz{w:cH}(hs:m.solo=true)(hl:w.ways.length<1152921504606846976)(hw:∀x∈w.ways,tw w.ba x)(hn:1<=w.ba/\w.ba<=4)(hc:yr w)(hK:∀σ' fb mb,Js σ fb mb w σ'->KF (.val (uH fb mb w 0)) σ'):aA prog m 48 [eo w] σ KF:=by
 have h3:=hc.1;refine aA.start lay [10] [] 1 Tryz.func48 rfl rfl (by rfl) (by kernel_rfl) ?_;simp[Tryz.f48];refine uZ (pz .u8) rfl λmb Ce=>?_
 refine ab.run lay [10] ?_;simp[aJ];refine bR.intro λfb S=>?_
 simp;obtain⟨fm,mf,I⟩:=aa.aN S;refine bR.intro λbw B=>?_
 obtain⟨wf,T,B⟩:=aa.aN B;obtain⟨wm,mw,B⟩:=aa.aN B;simp;refine bR.intro λgb o=>?_
 obtain⟨gw,wg,o⟩:=aa.aN o;obtain⟨gf,U,o⟩:=aa.aN o;obtain⟨gm,mg,o⟩:=aa.aN o;simp[wf,T,wm,mw,gw,wg,gf,U,gm,mg,fm,mf,aa.ai];refine ab.part fb (Wj mb w) (vr w.az.length) (SD w.az.length) (bw:=bw) (l1:=[.ref fb 0]) (l2:=[Rz fb mb w 0]) (by simp[aa.ai,T,U]) (RA h3) (Nr w.az.length) (λt=>.inl rfl) wf (by simp[aa.ai,wg]) rfl (λi a a' W h2=>?_) ?_
 . match i with
   |0=>simp at W h2;subst W;subst h2;exact .inr ⟨0,rfl,rfl⟩
   |i+1=>simp at W
 refine ab.bC 3 (b:=bw) (Rz fb mb w 0) (aa.ak _ _ _) (by simp) rfl ?_;refine ab.jL (λe σ'=>(e 3=.cp (Rz fb mb w 0) 0/\e 4=.ref gb 0/\e 15=kM w.az/\e 16=int w.az.length/\e 17=int 0)/\σ' fb=some (.part (SD w.az.length))/\σ' gb=some (.cells [.lit (.int .u64 0),.lit (.int .u32 0)])/\σ' mb=some (mY (pz .u8) [])/\∀c x,σ c=some x->c≠fb/\c≠mb/\c≠gb/\σ' c=some x) ⟨by simp,by simp[aa.del,aa.set,T],by simp[aa.del,aa.set,gw,gf],by simp[aa.del,aa.set,mw,mf,mg],λc x C=>?_⟩ ?_
 . have D:c≠fb:=λe=>by simp_all
   have E:c≠mb:=λe=>by simp_all
   have P:c≠gb:=λe=>by simp_all
   have X:c≠bw:=λe=>by simp_all
   exact⟨D,E,P,by simp[aa.del,aa.set,D,E,P,X,C]⟩
 rintro env al ⟨⟨g,h,Bi,xj,d⟩,F,s2,s3,H⟩;refine ab.Uc hs (n:=w.az.length) (fo:=9) (GI:=λx=>x=.map []) (λj=>.int .i64 (il w j)) Qn Qo Al Am Np (by omega) U fm gm s2 F rfl rfl (λj Q q=>(Nr _ _).1 q (nN.2 (.inr (.inr (by omega))))) s3 rfl rfl rfl ?_;rintro A ⟨J,rfl,Y,rfl,rfl,K,p,y,L,G⟩ Fin kd Z k0 M;refine ab.jL (λe σ'=>(e 3=.cp (Rz A.fb A.mb w 0) 0/\e 4=.ref A.gb 0/\e 15=kM w.az/\e 16=int w.az.length/\e 17=int 0)/\σ' A.fb=some .gX/\∀c x,σ c=some x->c≠A.fb/\c≠A.mb/\σ' c=some x) ⟨⟨g,h,Bi,xj,d⟩,aa.ak _ _ _,λc x C=>?_⟩ ?_
 . obtain⟨D,E,P,X⟩:=H c x C
   exact⟨D,E,by simp[aa.del,aa.set,D,E,P,X]⟩
 rintro env av ⟨⟨g,h,Bi,xj,d⟩,F,H⟩;refine ab.Ub (λk s=>∃e σ',s=⟨e,σ',[],.told kd Z k0⟩/\(e 3=.cp (Rz A.fb A.mb w 0) 0/\e 4=.ref A.gb 0/\e 15=kM w.az/\e 16=int w.az.length/\e 17=int k)/\σ' A.fb=some .gX/\∀c x,σ c=some x->c≠A.fb/\c≠A.mb/\σ' c=some x) ⟨_,_,rfl,⟨g,h,Bi,xj,d⟩,F,H⟩ ?_ ?_
 . rintro r k _ hk ⟨env,σ',rfl,⟨g,h,Bi,xj,d⟩,F,H⟩ ih
   rw[J]at hk;have z:k<w.az.length:=by omega
   have f:(k:Int)<w.az.length:=by omega
   refine ab.runN lay [] 17 ?_;simp[g,h,Bi,xj,d,z,f];refine bR.intro λD ax=>?_
   simp[g,h,Bi,xj,d,z,f];refine bR.intro λE N=>?_
   obtain⟨n1,n2,N⟩:=aa.aN N;simp[g,h,Bi,xj,d,z,f,n1,n2,aa.ai];change ab _ _ _ _ _ _ _ _ _;refine ab.runN lay [] 4 ?_;simp[g,h,Bi,xj,d,z,f,n1,n2,aa.ai];change ab _ _ _ _ _ _ _ _ _;refine ab.bC 6 (b:=E) (fW w.az[k]) (aa.ak _ _ _) (by simp) rfl ?_;refine ab.bC 5 (b:=D) (int k) (by simp[aa.del,aa.set,n1,n2]) (by simp) rfl ?_;refine ab.Lt rfl (by rw[p];rfl) rfl (by simp) (by rw[p];exact Tryz.func89) rfl rfl (by simp[g,h,Bi,xj,d,z,f]) ?_;refine ab.runN lay [] 4 ?_;simp[g,h,Bi,xj,d,z,f];change ab _ _ _ _ _ _ _ _ _;have Q:A.n-(r+1)=k:=by omega
   have b1:A.fb≠D:=λe=>by simp_all
   have b2:A.fb≠E:=λe=>by simp_all
   have O:=hc.2 _ (zD z);refine ab.PO y (hold':=Ur) (first:=[]) (cap:=[.ref A.gb 0,.cp (Rz A.fb A.mb w 0) 0,.cp (fW w.az[k]) 0,.cp (int k) 0]) rfl rfl rfl (by simp) (by simp[g,h,Bi,xj,d,z,f]) Tryz.func90 rfl rfl (by show(4:Nat)<=25;decide) (by simp[aa.del,aa.set,b1,b2,F]) (by kernel_rfl) (by rw[p];exact Tryz.func91) rfl rfl (by rw[K];exact Tryz.func94) rfl rfl (λk1=>?_) ?_
   . rw[Q]
     exact yq (λi hi=>Nq hi) ⟨rfl,rfl,Y,K,p,y⟩ (by omega) (λx=>by rw[L]) hl hw hn O.1 O.2 (by rw[G];simp[il,z,Qr]) rfl
   have f1:-9223372036854775808<=(k:Int)+1/\(k:Int)+1<=9223372036854775807:=by omega
   refine ab.run lay [10] ?_;simp[g,h,Bi,xj,d,z,f,f1.1,f1.2];refine ih _ ⟨_,_,rfl,by simp[g,h,Bi,xj,d,z,f],by simp[aa.del,aa.set,b1,b2,F],λc x C=>?_⟩;obtain⟨x1,x2,x3⟩:=H c x C;have y1:c≠D:=λe=>by grind
   have y2:c≠E:=λe=>by grind
   exact⟨x1,x2,by simp[aa.del,aa.set,y1,y2,x3]⟩
 . rintro _ ⟨env,σ',rfl,⟨g,h,Bi,xj,d⟩,F,H⟩
   rw[J]at d;refine ab.runN lay [] 9 ?_;simp[g,h,Bi,xj,d];change ab _ _ _ _ _ _ _ _ _;refine ab.LB y ((bQ.bc (env.upd 18 (bool false)) (some 25) (.cB [])).upd 3 (.cp (uH A.fb A.mb w 0) 0)) rfl (by rw[p];rfl) rfl (by simp) (by rw[p];exact Tryz.func95) rfl rfl (by simp_all) F rfl M (λkk a7 t v R=>?_) λa ha=>?_
   . change V kk v (bQ.bc (env.upd 18 (bool false)) (some 25) (.cB []) t)at R
     by_cases e:t=3
     . subst e
       rw[show(bQ.bc (env.upd 18 (bool false)) (some 25) (.cB [])) 3=.cp (Rz A.fb A.mb w 0) 0 by simp[g]]at R;rw[show((bQ.bc (env.upd 18 (bool false)) (some 25) (.cB [])).upd 3 (.cp (uH A.fb A.mb w 0) 0)) 3=.cp (uH A.fb A.mb w 0) 0 by simp];refine V.YR rfl rfl (λu=>O7 (l:=Wj A.mb w) (hole:=vr w.az.length) rfl λj Q ay=>?_) R;by_cases hm:j∈vr w.az.length
       . have aC:11<=j/\j<11+w.az.length:=by
          have:=nN.1 hm
          simp_all
         refine .inr ⟨.int .i64 (il w (j-11)),?_,rfl,?_⟩
         . have:=a7 (j-11) (by omega)
           rwa [G,show A.cell (j-11)=j by unfold bJ.cell;omega]at this
         . have:j=11\/j=12\/j=13:=by omega
           rcases this with rfl|rfl|rfl<;>rfl
       . refine .inl ⟨hm,?_⟩
         have aE:j<15:=Q;have hz:∀i,w.az.length<=i->int (il w i)=int 0:=λi hi=>by rw[il,aaj hi]
         have aL:¬(11<=j/\j<11+w.az.length):=λq=>hm (nN.2 (.inr (.inr q)))
         by_cases a8:j=11
         . subst a8;simp[hz 0 (by omega)]
         by_cases a9:j=12
         . subst a9;simp[hz 1 (by omega)]
         by_cases ad:j=13
         . subst ad;simp[hz 2 (by omega)]
         have:j=0\/j=1\/j=2\/j=3\/j=4\/j=5\/j=6\/j=7\/j=8\/j=9\/j=10\/j=14:=by omega
         rcases this with rfl|rfl|rfl|rfl|rfl|rfl|rfl|rfl|rfl|rfl|rfl|rfl<;>rfl
     . simpa[Env.upd,e]using R
   . rw[L]at ha
     subst ha;refine ab.run lay [10] ?_;simp[g,h,Bi,xj,d];refine .less (σ':=(σ.set A.mb (mY (pz .u8) [])).set A.fb (.part (bH 9))) ?_ (.done (hK _ _ _ ⟨I,Ce,fm,rfl⟩));intro c x C;by_cases c1:c=A.fb
     . simp_all
     by_cases c2:c=A.mb
     . subst c2
       rw[aa.ai _ _ c1,aa.ak]at C;rw[aa.ai _ _ c1,aa.ak];exact C
     rw[aa.ai _ _ c1,aa.ai _ _ c2]at C ⊢
     simp_all
def fA(w:cH)(cz a az:acp):Int:=if jA w=0 then(if cz.all (bD · 0 72)=false then 1 else if a.all (bD · 0 (w.fair.aD.length-1))=false then 3 else if az.all (bD · 0 (w.az.length-1))=false then 3 else 0)else jA w
theorem mT{α:Type}(g:α->Int):∀{l:List α},dY g l=0->∀x∈l,g x=0
 |[],_,x,hx=>by simp at hx
 | a ::l,h,x,hx=>by
   unfold dY at h;split at h
   . next e=>
     rcases List.mem_cons.1 hx with rfl|hx
     . exact e
     . exact mT g h x hx
   omega
theorem Jt{t:Int}{x:Way}(h:oP t x=0):tw t x:=by
 unfold oP at h;split at h
 . cases h
 next a=>
 split at h
 . cases h
 next b=>
 split at h
 . cases h
 split at h
 . cases h
 next c=>
 split at h
 . cases h
 next d=>
 split at h
 . cases h
 next e=>
 have f:=dC (by simpa using a);have g:=dC (by simpa using b);have i:=dC (by simpa using c);have j:=dC (by simpa using d);have k:=dC (by simpa using e);unfold tw;omega
structure cH.Valid(w:cH):Prop where
 ys:w.qP
 ba:1<=w.ba/\w.ba<=4
 cS:∀x∈w.ways,tw w.ba x
 YE:w.ways.length<=6
 Ec:yr w
 late:∀c∈w.az,c.lost.hour<=c.hour
 qB:w.fair.aD.length+w.az.length<=6
 some:aH (gT w) []≠[]
theorem cH.valid{w:cH}(d:w.qP)(h:jA w=0):w.Valid:=by
 unfold jA at h;split at h
 . cases h
 next f=>
 split at h
 . cases h
 next o=>
 split at h
 . omega
 next p=>
 split at h
 . cases h
 next q=>
 split at h
 . omega
 next g=>
 split at h
 . cases h
 next r=>
 split at h
 . cases h
 next i=>
 have j:=dC (a:=w.ba) (by simpa using f)
 have e:w.fair.aD.length+w.az.length<=6:=by omega
 have b:∀c∈w.az,((0<=c.town/\c.town<w.ba)/\0<=c.hour/\c.hour<=72)/\c.lost.hour<=c.hour:=λc b=>by
  have:=mT _ (by simpa using g) c b
  unfold vJ at this;split at this
  . cases this
  next k=>
  split at this
  . cases this
  next l=>
  split at this
  . cases this
  next s=>
  have t:=dC (by simpa using k)
  have u:=dC (by simpa using l)
  omega
 have m:=gV d e;have v:gz (gT w)≠0:=i;refine⟨d,j,λx n=>Jt (mT _ (by omega) x n),by omega,⟨by omega,λc h=>(b c h).1⟩,λc h=>(b c h).2,e,(uB m).1 ?_⟩
 have:0<=gz (gT w):=by unfold gz;omega
 omega
theorem F0(p:Int->Bool)(l:acp){i:Nat}(h:i<l.length):(l.drop i).all p=(p l[i] && (l.drop (i+1)).all p):=by rw[ZW h,ZY]
theorem nO{w:cH}(A:m.solo=true)(y:w.qP){cz a az:acp}(D:cz.length<1000000/\a.length<1000000/\az.length<1000000)
 (g:fA w cz a az≠0->KF (.val (.cB [.lit (.pointer none),int (fA w cz a az)])) σ)
 (r:fA w cz a az=0->∀σ' fb mb,Js σ fb mb w σ'->KF (.val (.cB [uH fb mb w 0,int 0])) σ'):aA prog m 41 [eo w,ints cz,ints a,ints az] σ KF:=by
 unfold fA at g r;refine fs [] 4 Tryz.func41 rfl rfl (by rfl) (by kernel_rfl) ?_;simp[Tryz.f41];refine cf Tryz.func33 rfl (FZ A y ?_);refine rn ?_;simp;refine aG.intro (λt=>?_) (λt=>?_)<;>(try simp[-Int.not_lt,-Int.not_le,-Nat.not_lt,-Nat.not_le]at t)<;>(try simp[t])
 . simp[t]at g
   exact .done g
 have v:=cH.valid y t;have z:=y.ways;have E:=v.qB;simp only[t,if_true]at g r;refine ab.loop cz.length (λk s=>∃env,s=⟨env,σ,[],.no⟩/\env 2=ints a/\env 3=ints az/\env 4=.cp (eo w) 0/\env 22=ints cz/\env 23=int cz.length/\env 24=int k/\cz.all (bD · 0 72)=(cz.drop k).all (bD · 0 72)) ⟨_,rfl,by simp⟩ ?_;rintro F k _ x ⟨env,rfl,B,C,q,vP,JM,HO,b⟩ u;refine rn ?_;simp[JM,HO];refine aG.intro (λf=>?_) (λf=>?_)<;>(try simp[-Int.not_lt,-Int.not_le,-Nat.not_lt,-Nat.not_le]at f)<;>(try simp[B,C,vP,HO,f])
 . rw[F0 _ _ f]at b
   refine cf Tryz.func71 rfl (dX ?_);refine rn ?_;simp;refine aG.intro (λd=>?_) (λd=>?_)<;>(try simp[-Int.not_lt,-Int.not_le,-Nat.not_lt,-Nat.not_le]at d)<;>(try simp[HO,d])
   . rw[d,Bool.true_and]at b
     refine⟨by omega,u _ (by omega) ⟨_,rfl,by simp[B],by simp[C],by simp[q],by simp[vP],by simp[JM],by simp,b⟩⟩
   . simp[b,d]at g
     exact .done g
 have ek:k=cz.length:=by omega
 subst ek;rw[aaS,List.all_nil]at b;simp only[b,aaK,if_false]at g r;refine ab.uu ?_;refine rn ?_;simp;refine ab.loop a.length (λk s=>∃env,s=⟨env,σ,[],.no⟩/\env 4=.cp (eo w) 0/\env 34=.sl 1 [ints a,ints az] .exact/\env 35=int 2/\env 36=int 0/\env 13=int 0/\env 41=ints a/\env 42=int a.length/\env 43=int k/\a.all (bD · 0 (w.fair.aD.length-1))=(a.drop k).all (bD · 0 (w.fair.aD.length-1))) ⟨_,rfl,by simp[q]⟩ ?_;rintro G k _ x ⟨env,rfl,q,i,h,j,n,o,p,e,b⟩ u;refine ab.runN lay [] 25 ?_;simp[p,e];refine aG.intro (λf=>?_) (λf=>?_)<;>(try simp[-Int.not_lt,-Int.not_le,-Nat.not_lt,-Nat.not_le]at f)<;>(try simp[q,j,o,e,f])
 . rw[F0 _ _ f]at b
   refine ab.op rfl (bX rfl) (by simp) (λc=>by simp) (pQ lay rfl Qj rfl qM (l:=[int w.fair.aD.length,int w.az.length]) (by simp) (by simp[kI,aJ]) ?_);refine rn ?_;simp[n];refine⟨by omega,?_⟩;refine cf Tryz.func71 rfl (dX ?_);refine rn ?_;simp;refine aG.intro (λd=>?_) (λd=>?_)<;>(try simp[-Int.not_lt,-Int.not_le,-Nat.not_lt,-Nat.not_le]at d)<;>(try simp[e,d])
   . rw[d,Bool.true_and]at b
     refine⟨by omega,u _ (by omega) ⟨_,rfl,by simp[q],by simp[i],by simp[h],by simp[j],by simp[n],by simp[o],by simp[p],by simp,b⟩⟩
   . rw[d,Bool.false_and]at b
     simp only[b,if_true]at g;exact .done (g (by decide))
 have ek:k=a.length:=by omega
 subst ek;rw[aaS,List.all_nil]at b;simp only[b,aaK,if_false]at g r;refine ab.again (by kernel_rfl) ?_;refine rn ?_;simp[i,h];refine ab.loop az.length (λk s=>∃env,s=⟨env,σ,[],.no⟩/\env 4=.cp (eo w) 0/\env 34=.sl 1 [ints a,ints az] .exact/\env 35=int 2/\env 36=int 1/\env 13=int 1/\env 41=ints az/\env 42=int az.length/\env 43=int k/\az.all (bD · 0 (w.az.length-1))=(az.drop k).all (bD · 0 (w.az.length-1))) ⟨_,rfl,by simp[q,i,h]⟩ ?_;rintro H k _ x ⟨env,rfl,q,i,h,j,n,o,p,e,b⟩ u;refine ab.runN lay [] 25 ?_;simp[p,e];refine aG.intro (λf=>?_) (λf=>?_)<;>(try simp[-Int.not_lt,-Int.not_le,-Nat.not_lt,-Nat.not_le]at f)<;>(try simp[q,j,o,e,f])
 . rw[F0 _ _ f]at b
   refine ab.op rfl (bX rfl) (by simp) (λc=>by simp) (pQ lay rfl Qj rfl qM (l:=[int w.fair.aD.length,int w.az.length]) (by simp) (by simp[kI,aJ]) ?_);refine rn ?_;simp[n];refine⟨by omega,?_⟩;refine cf Tryz.func71 rfl (dX ?_);refine rn ?_;simp;refine aG.intro (λd=>?_) (λd=>?_)<;>(try simp[-Int.not_lt,-Int.not_le,-Nat.not_lt,-Nat.not_le]at d)<;>(try simp[e,d])
   . rw[d,Bool.true_and]at b
     refine⟨by omega,u _ (by omega) ⟨_,rfl,by simp[q],by simp[i],by simp[h],by simp[j],by simp[n],by simp[o],by simp[p],by simp,b⟩⟩
   . rw[d,Bool.false_and]at b
     simp only[b,if_true]at g;exact .done (g (by decide))
 have ek:k=az.length:=by omega
 subst ek;rw[aaS,List.all_nil]at b;simp only[b,aaK,if_false]at g r;refine ab.again (by kernel_rfl) ?_;refine rn ?_;simp[q,h];refine cf Tryz.func48 rfl (tz A z v.cS v.ba v.Ec λσ' fb mb x=>?_);refine rn ?_;simp;exact .done (r trivial σ' fb mb x)
end
open Go Go.bQ Go.Conc
open Go.Extern
variable{m:Mo}{σ:aa}{KF:abT}
abbrev UW(t:Nat):Value:=.pointer (some ⟨1,t,none⟩)
abbrev UX(t:Nat):AV:=.lZ 224 (.agg [.lit (UW t)])
theorem vt{P:acD}{t f:Nat}{name:String}{a a':AV}(h:∀k v,V k v a->∃r,eQ P (Go.method (P.types.size+Made.depth) t v name)=some (f,r)/\V k r a'):oc P t name f a a':=λk O v K g b c=>by obtain⟨r,d,e⟩:=h k v b;exact oB _ d (c r e)
theorem Ju{t f:Nat}{name:String}(h:∀h,eQ prog (Go.method (prog.types.size+Made.depth) 224 (.agg #[h]) name)=some (f,.agg #[h])):oc prog 224 name f (.agg [.lit (UW t)]) (.agg [.lit (UW t)]):=vt λk v a=>by
 obtain⟨x,rfl,_⟩:=Fq.1 a
 simp_all
theorem RB(k:ah)(t:Nat):V k (.iface 224 (.agg #[UW t])) (UX t):=Qh.2 ⟨_,rfl,Fq.2 ⟨_,rfl,.lit _⟩⟩
abbrev Ay:AV:=.lZ 105 (.agg [])
theorem Ns(h:KF (.val (bool false)) σ):aA prog m 56 [.lit .nilIface,Ay] σ KF:=by
 refine fs [] 2 Tryz.func56 rfl rfl (by rfl) (by kernel_rfl) ?_;simp[Tryz.f56];refine gJ lay rfl G5 rfl (.inl ⟨rfl,rfl⟩) (.inl ⟨rfl,rfl⟩) ?_;refine rn ?_;simp;refine oC (vx:=.nilIface) (vy:=.iface 105 (.agg #[])) (r:=.bool false) rfl (λk v a=>by simpa using Af.1 a) (λk v a=>V.Pa (by simpa using a)) (by kernel_rfl) ?_;refine rn ?_;simp;exact .done h
theorem Nt(h:Value):eQ prog (Go.method (prog.types.size+Made.depth) 224 (.agg #[h])  "Comparable")=some (237,.agg #[h]):=by kernel_rfl
theorem Px(h:KF (.val (bool true)) σ):aA prog m 98 [Ay,Ay,bool true] σ KF:=by
 refine fs [] 3 Tryz.func98 rfl rfl (by rfl) (by kernel_rfl) ?_;simp[Tryz.f98];refine ab.uu ?_;refine rn ?_;simp;refine oC (vx:=.iface 105 (.agg #[])) (vy:=.iface 105 (.agg #[])) (r:=.bool true) rfl (λk v a=>V.Pa (by simpa using a)) (λk v a=>V.Pa (by simpa using a)) (by kernel_rfl) ?_;refine rn ?_;simp;exact .done h
theorem Hj(h:KF (.val (bool true)) σ):aA prog m 56 [Ay,Ay] σ KF:=by
 refine fs [] 2 Tryz.func56 rfl rfl (by rfl) (by kernel_rfl) ?_;simp[Tryz.f56];refine gJ lay rfl G5 rfl (.inr ⟨⟨_,_,rfl⟩,rfl⟩) (.inl ⟨rfl,rfl⟩) ?_;refine rn ?_;simp;refine gJ lay rfl G5 rfl (.inr ⟨⟨_,_,rfl⟩,rfl⟩) (.inl ⟨rfl,rfl⟩) ?_;refine rn ?_;simp;refine bZ.ext Tryz.func97 rfl rfl (by kernel_rfl) (e:=ReflectliteType.typeOf) (by kernel_rfl) (vl.pure (v:=.iface 224 (.agg #[UW 105])) (a:=UX 105) (λk f d=>?_) (λk=>RB k _) ?_)
 . obtain⟨v,b,c⟩:=d.one
   subst b;rw[V.Pa c]
   kernel_rfl
 refine rn ?_;simp;refine ab.O9 rfl rfl (bX rfl) (by simp) rfl (Ju Nt) Tryz.func237 rfl rfl (by kernel_rfl) (e:=ReflectliteType.method λt=>do Rtype.noPackHeld  "Comparable" t;pure (.bool (<-typeInfo t).comparable)) (by kernel_rfl) (vl.pure (v:=.bool true) (a:=bool true) (λk f d=>?_) (λk=>.lit _) ?_)
 . obtain⟨v,b,c⟩:=d.one
   subst b;obtain⟨u,rfl,g⟩:=Fq.1 c;rw[Af.1 g]
   kernel_rfl
 refine rn ?_;simp;refine cf Tryz.func98 rfl (Px ?_);refine rn ?_;simp;exact .done h
theorem vu{w:cH}{fb mb c:Nat}(b:c<3)(h:if 72<il w c then KF (.val (.cB [int 0,Ay])) σ else KF (.val (.cB [int (il w c),.lit .nilIface])) σ):aA prog m 55 [uH fb mb w 0,int c] σ KF:=by
 have:c=0\/c=1\/c=2:=by omega
 rcases this with rfl|rfl|rfl
 all_goals
  refine fs [] 2 Tryz.func55 rfl rfl (by rfl) (by kernel_rfl) ?_;simp[Tryz.f55];refine aG.intro (λa=>?_) (λa=>?_)<;>(try simp[-Int.not_lt,-Int.not_le]at a)<;>(try simp[a]at h)<;>(try simp[a])<;>(try exact .done h)
 all_goals exact .done h
def pE(w:cH)(h:Int)(i:Int):Bool:=decide ((aQ w.fair i).hour<=h)
def pC(w:cH)(h:Int)(i:Int):Bool:=decide (il w i.toNat<=72) && decide (il w i.toNat<=h)
def lY(w:cH)(h:Int):acp:=(np w.fair.aD.length).filter (pE w h)
def nj(w:cH)(h:Int):acp:=(np w.az.length).filter (pC w h)
abbrev RD(w:cH)(h:Int):AV:=.agg [u8 (aY (lY w h)),u8 (aY (nj w h))]
theorem yt(k:Nat)(p:Int->Bool):(np (k+1)).filter p=(np k).filter p++if p k then[(k:Int)]else[]:=by
 unfold np;rw[ZN,ZI,aar]
 grind
theorem nk(l:acp)(n:Int):aY (l++[n])=bU (aY l) n:=by
 unfold aY
 simp_all
namespace CK
abbrev Wk:ace:=[⟨6,.take [0,1,2,3,4,5] true (.one 6 (.done))⟩,⟨13,.take [0,3,6] false (.both 1 (.one 2 (.take [4,5] true (.one 7 (.done)))) (.one 2 (.take [1,4,5] true (.one 7 (.done)))))⟩]
theorem Jv{w:cH}{fb mb:Nat}{h:Int}(H:w.fair.aD.length<=6)(I:w.az.length<=3)(z:KF (.val (RD w h)) σ):aA prog m 59 [uH fb mb w 0,int h] σ KF:=by
 refine fs Wk 2 Tryz.func59 rfl rfl (by rfl) (by kernel_rfl) ?_
 simp[Tryz.f59];refine bR.intro λb hb=>?_
 simp;refine bR.intro λd hd=>?_
 obtain⟨J,A,hd⟩:=aa.aN hd;simp;refine ab.loop w.fair.aD.length (λk s=>∃env,s=⟨env,(σ.set b (.cells [u8 0,u8 0])).set d (.cells [u8 (aY ((np k).filter (pE w h))),u8 0]),[],.no⟩/\env 0=uH fb mb w 0/\env 1=int h/\env 4=.ref b 0/\env 5=.ref d 0/\env 16=jw w.fair.aD/\env 17=int w.fair.aD.length/\env 18=int k) ⟨_,rfl,by simp⟩ ?_
 rintro K k _ B ⟨env,rfl,i,j,n,g,xj,o,tF⟩ p
 refine ab.runN lay [] 17 ?_;simp[o,tF];apply aG.intro<;>intro r<;>simp at r<;>simp[i,xj,tF,r]
 . have C:aQ w.fair k=w.fair.aD[k]:=by simp[aQ,r]
   refine bR.intro λq D=>?_
   obtain⟨L,M,E⟩:=aa.aN D;obtain⟨N,O,P⟩:=aa.aN E;simp
   change ab _ _ _ _ _ _ _ _ _
   refine ab.runN lay [] 2 ?_;simp
   change ab _ _ _ _ _ _ _ _ _
   refine ab.bC 7 (b:=q) (br w.fair.aD[k]) (aa.ak _ _ _) (by simp) rfl ?_
   rw[fe (by omega)]
   refine rn ?_;simp[j];have a:=yt k (pE w h);have t:pE w h k=decide (w.fair.aD[k].hour<=h):=by unfold pE;rw[C]
   apply aG.intro<;>intro u<;>simp at u<;>simp[g,tF,u,s8]
   . rw[t,show decide (w.fair.aD[k].hour<=h)=true by grind,if_pos rfl]at a
     refine rn ?_;simp[tF];refine⟨by omega,p _ (by omega) ⟨_,by rw[a,nk];rfl,by simp[i,j,n,g,xj,o]⟩⟩
   . rw[t,show decide (w.fair.aD[k].hour<=h)=false by grind,if_neg (by simp),aab]at a
     refine⟨by omega,p _ (by omega) ⟨_,by rw[a],by simp[i,j,n,g,xj,o]⟩⟩
 have ek:k=w.fair.aD.length:=by omega
 subst ek;rw[show(np w.fair.aD.length).filter (pE w h)=lY w h from rfl]
 refine rn ?_;simp;refine ab.loop w.az.length (λk s=>∃env,s=⟨env,(σ.set b (.cells [u8 0,u8 0])).set d (.cells [u8 (aY (lY w h)),u8 (aY ((np k).filter (pC w h)))]),[],.no⟩/\env 0=uH fb mb w 0/\env 1=int h/\env 4=.ref b 0/\env 5=.ref d 0/\env 39=int w.az.length/\env 40=int k) ⟨_,rfl,by simp[i,j,n,g]⟩ ?_
 rintro v k _ B ⟨env,rfl,i,j,n,g,l,f⟩ p
 refine rn ?_;simp[l,f];apply aG.intro<;>intro r<;>simp at r<;>simp[i,n,g,f,r,A,aa.ai]
 . have a:=yt k (pC w h)
   have t:pC w h k=(decide (il w k<=72) && decide (il w k<=h)):=rfl;refine cf Tryz.func55 rfl (vu (by omega) ?_)
   split
   . next u=>
     refine rn ?_;simp;refine cf Tryz.func56 rfl (Hj ?_);refine rn ?_;simp[f];rw[t,show decide (il w k<=72)=false by simp;omega,Bool.false_and,if_neg (by simp),aab]at a
     refine⟨by omega,p _ (by omega) ⟨_,by rw[a],by simp[i,j,n,g,l]⟩⟩
   . next u=>
     refine rn ?_;simp;refine cf Tryz.func56 rfl (Ns ?_);refine rn ?_;simp[j];rw[t,show decide (il w k<=72)=true by simp;omega,Bool.true_and]at a
     apply aG.intro<;>intro y<;>simp at y<;>simp[g,f,y]
     . rw[show decide (il w k<=h)=true by grind,if_pos rfl]at a
       have:k=0\/k=1\/k=2:=by omega
       refine⟨?_,?_⟩
       all_goals
        refine cf Tryz.func101 rfl (Nn ?_)
        rcases this with rfl|rfl|rfl
       all_goals
        refine pg ?_;simp[s8];refine rn ?_;simp[f]
       all_goals exact p _ (by omega) ⟨_,by rw[a,nk];rfl,by simp[i,j,n,g,l]⟩
     . rw[show decide (il w k<=h)=false by grind,if_neg (by simp),aab]at a
       refine⟨by omega,p _ (by omega) ⟨_,by rw[a],by simp[i,j,n,g,l]⟩⟩
 . have ek:k=w.az.length:=by omega
   subst ek;rw[show(np w.az.length).filter (pC w h)=nj w h from rfl]
   refine .less (λc x F=>?_) (.done z)
   have v:c≠b:=λe=>by grind
   have G:c≠d:=λe=>by grind
   rw[aa.ai _ _ v,aa.ai _ _ G,aa.ai _ _ v];exact F
end CK
theorem qc{b o:Nat}{l:acw}{n:Int}(a:σ b=some (.cells l))(c:l[o]?=some (.lit (.int .u32 n)))(h:KF (.val (bool (n !=0))) σ):aA prog m 178 [.ref b o] σ KF:=by
 refine fs [] 1 Tryz.func178 rfl rfl (by rfl) (by kernel_rfl) ?_;simp[Tryz.f178];refine bZ.ext Tryz.func199 rfl rfl (by kernel_rfl) (e:=Atomic.loadT (.int .u32)) (by kernel_rfl) (Fs (oA b o) a c ?_);refine rn ?_;simp;exact .done h
theorem RE(h:KF (.val (.lit (.int .u32 1))) σ):aA prog m 208 [bool true] σ KF:=by
 refine fs [] 1 Tryz.func208 rfl rfl (by rfl) (by kernel_rfl) ?_;simp[Tryz.f208];exact .done h
theorem B0{b o:Nat}{l:acw}(a:σ b=some (.cells l))(c:o<l.length)(h:KF (.val (.cB [])) (σ.set b (.cells (l.set o (.lit (.int .u32 1)))))):aA prog m 200 [.ref b o,bool true] σ KF:=by
 refine fs Uz 2 Tryz.func200 rfl rfl (by rfl) (by kernel_rfl) ?_;simp[Tryz.f200];refine cf Tryz.func208 rfl (RE ?_);refine pg ?_;simp;refine bZ.ext Tryz.func207 rfl rfl (by kernel_rfl) (e:=Atomic.storeT) (by kernel_rfl) (Dv (oA b o) a c ?_);refine pg ?_;simp;refine rn ?_;simp;exact .done h
theorem Ed{b:Nat}{l:acw}{f:AV}(a:σ b=some (.cells l))(c:l[0]?=some (.lit (.int .u32 1)))(h:KF (.val (.cB [])) σ):aA prog m 146 [.ref b 0,f] σ KF:=by
 refine fs [] 2 Tryz.func146 rfl rfl (by rfl) (by kernel_rfl) ?_;simp[Tryz.f146];refine cf Tryz.func178 rfl (qc a c ?_);refine rn ?_;simp;exact .done h
theorem Ee(d:m.solo=true){b:Nat}{l:acw}{f:AV}(c:σ b=some (.cells l))(p:l[0]?=some (.lit (.int .u32 0)))(e:l[1]?=some (.lit (.int .i32 0)))(g:l[2]?=some (.lit (.int .u32 0)))
 (h:∀K:abT,(∀σ' a,σ' b=some (.cells a)->a[0]?=some (.lit (.int .u32 0))->a[1]?=some (.lit (.int .i32 1))->a[2]?=some (.lit (.int .u32 0))->KF (.val (.cB [])) (σ'.set b (.cells ((a.set 0 (.lit (.int .u32 1))).set 1 (.lit (.int .i32 0)))))->K (.val (.cB [])) σ')->bZ prog m f [] (σ.set b (.cells (l.set 1 (.lit (.int .i32 1))))) K):
 aA prog m 179 [.ref b 0,f] σ KF:=by
 refine fs [] 2 Tryz.func179 rfl rfl (by rfl) (by kernel_rfl) ?_;simp[Tryz.f179];refine cf Tryz.func93 rfl (Fc Al Am Np d (oA b 1) c e g ?_);refine rn ?_;simp;refine ab.defer rfl rfl rfl rfl (by simp) rfl ?_;refine rn ?_;simp;have i:(σ.set b (.cells (l.set 1 (.lit (.int .i32 1))))) b=some (.cells (l.set 1 (.lit (.int .i32 1)))):=aa.ak _ _ _;have j:(l.set 1 (.lit (.int .i32 1)))[0]?=some (.lit (.int .u32 0)):=by simp_all
 refine cf Tryz.func178 rfl (qc i j ?_);refine rn ?_;simp;refine ab.defer rfl rfl rfl rfl (by simp) rfl ?_;refine rn ?_;simp;refine h _ λσ' a k n q r o=>?_
 refine rn ?_;simp;refine qS.func Tryz.func200 rfl rfl (B0 k (List.getElem?_eq_some_iff.1 n).1 ?_);refine qS.func Tryz.func94 rfl rfl (BE Al Am Np d (oA b 1) (aa.ak _ _ _) (by simp_all) (by simp_all) ?_);rw[aa.set_set];exact⟨[],rfl,.done o⟩
theorem B1(e:m.solo=true){b:Nat}{l:acw}{f:AV}(c:σ b=some (.cells l))(d:l[0]?=some (.lit (.int .u32 0)))(g:l[1]?=some (.lit (.int .i32 0)))(h:l[2]?=some (.lit (.int .u32 0)))
 (i:∀K:abT,(∀σ' a,σ' b=some (.cells a)->a[0]?=some (.lit (.int .u32 0))->a[1]?=some (.lit (.int .i32 1))->a[2]?=some (.lit (.int .u32 0))->KF (.val (.cB [])) (σ'.set b (.cells ((a.set 0 (.lit (.int .u32 1))).set 1 (.lit (.int .i32 0)))))->K (.val (.cB [])) σ')->bZ prog m f [] (σ.set b (.cells (l.set 1 (.lit (.int .i32 1))))) K):
 aA prog m 146 [.ref b 0,f] σ KF:=by
 refine aA.thaw ?_;refine fs [] 2 Tryz.func146 rfl rfl (by rfl) (by kernel_rfl) ?_;simp[Tryz.f146];refine cf Tryz.func178 rfl (qc c d ?_);refine rn ?_;simp;refine cf Tryz.func179 rfl (Ee e c d g h λK j=>i K λσ' a k n o p q=>j σ' a k n o p ?_);refine rn ?_;simp;exact .done (.done q)

import Derived.Conc.HoldsTime
import Derived.Test.YtggpckcdfilkoaaGreatDoorC14
set_option linter.all false
namespace Go.bu
section
open Go.Conc
open Go.ConcN (sumTo upd sumTo_upd upd_ne upd_same)
def wF:Mo:=⟨true,true,λ_ _ _ _=>False⟩
section
variable{P:Rg}(L:lz P){m:Mo}{f:FuncId}{fn:Func}
def P4{P}(L:lz P)(rs:List ResultVar)(KF:YC):Ci
 |.leave none,s=>s.rc=.no/\s.D=[]/\∃l,jy L s.env s.σ rs=some l/\KF (.val (oneOf l)) s.σ
 |.leave (some .ret),s=>s.rc=.no/\s.D=[]/\∃l,jy L s.env s.σ rs=some l/\KF (.val (oneOf l)) s.σ
 |.leave _,_=>False
 |.panic _,_=>False
@[simp] theorem ac2{rs KF s}:P4 L rs KF (.leave (some .ret)) s=(s.rc=.no/\s.D=[]/\∃l,jy L s.env s.σ rs=some l/\KF (.val (oneOf l)) s.σ):=propext Zy
@[simp] theorem ac3{rs KF s}:P4 L rs KF (.leave none) s=(s.rc=.no/\s.D=[]/\∃l,jy L s.env s.σ rs=some l/\KF (.val (oneOf l)) s.σ):=propext Zy
@[simp] theorem abu{rs KF s n}:P4 L rs KF (.leave (some (.exit n))) s=False:=propext Zy
@[simp] theorem aah{rs KF s v}:P4 L rs KF (.panic v) s=False:=propext Zy
def ll  P  (L:lz P) (m:Mo) (f:FuncId) (args:We) (σ:af) (KF:YC):Prop:=∃fn body,P.funcs[f]?=some fn/\fn.body=some body/\args.length<=fn.ntmps/\Go P m f fn.ntmps none [.code body] ⟨fR args,σ,[],.no⟩ (P4 L fn.results.toList (tO KF))
def ll.start{args σ KF body}  mu   η   k  (b:P.funcs[f]?=some fn) (hb:fn.body=some body) (d:args.length=k) (c:uO fn k=true) (a:vR η body=true)
 (h:cU L m f fn.ntmps none mu η 1000 [.code body] ⟨fR args,σ,[],.no⟩ (P4 L fn.results.toList (tO KF))):ll P L m f args σ KF:=by
 simp  [uO]at c;exact⟨fn,body,b,hb,aq,Go.cU L mu η 1000 (by simpa[oZ]using a) h⟩
def RJ(P:Rg)(f:FuncId)(r:Nat)(KF:YC)(b:az):ZD:=λk O g=>∃τ todo σ a,g=G ⟨f,τ,todo,[],.returning,.normal,none⟩ []/\b.Le k/\Rel k O σ/\V k (τ.getD r undef) a/\KF (.val a) σ
def ac5{r:Nat}{args cargs σ KF k O}(y:P.funcs[f]?=some fn)(F:fn.results=#[.tmp r])(j:r<fn.ntmps)(h:ll P L m f args σ KF)(g:Vs k cargs args)(q:Rel k O σ):
 T P m (RJ P f r KF k) k O (G (Frame.enter P f cargs.toArray .normal) []):=by
 obtain⟨I,body,t,hb,X,z⟩:=h;rw[y]at t;cases t;have A:(cargs.toArray++Array.replicate (fn.ntmps-cargs.length) undef).size=fn.ntmps:=by simp;rw[g.1];omega
 have e:Frame.enter P f cargs.toArray .normal=⟨f,cargs.toArray++Array.replicate (fn.ntmps-cargs.length) undef,[.code body],[],.run,.normal,none⟩:=by simp[Frame.enter,y,hb]
 rw[e]
 have key:∀res i,tO KF res i->∀c d τ todo n,res=.val n->k.Le c->Rel c d i->V c (τ.getD r undef) n->T P m (RJ P f r KF k) c d (G ⟨f,τ,todo,[],.returning,.normal,none⟩ []):=by
  intro res i J
  induction J with
  |@done res i K=>exact λc d τ todo n e a j g=>.stop ⟨τ,todo,_,n,rfl,a,j,g,e ▸ K⟩
  | freeze b l hb y o _ u=>
    intro c d τ todo n e a j g;cases e;refine T.Hn j hb rfl λM N v Q B=>?_
    exact u M N τ todo _ rfl (a.trans v) (B _ o) am
  |dp R _ u=>intro c d τ todo n e a j g;cases e;exact u c d τ todo _ rfl a j (R _ _ g)
  |less o _ u=>intro c d τ todo n e a j g;exact u c d τ todo n e a (j.le o) g
 refine z _ k O _ [] .normal [] be ⟨A,AI g _,q,trivial,trivial⟩ ⟨λc d τ ξ s todo p a o H Y=>?_,aq⟩
 have x:s.rc=.no/\s.D=[]/\(∃l,jy L s.env s.σ fn.results.toList=some l/\tO KF (.val (oneOf l)) s.σ)/\(p=none\/p=some .ret):=by
  rcases H with⟨_,rfl⟩|⟨_,_,rfl⟩|⟨_,_,_,_,rfl⟩
  . simp_all
  . simp_all
  simp_all
 obtain⟨S,U,⟨l,W,C⟩,Z⟩:=x;have hd:=o.ds;rw[U]at hd;cases ξ with
 |cons _ _=>exact hd.elim
 |nil=>
 rw[S];refine T.fZ (g':=G ⟨f,τ,todo,[],.returning,.normal,none⟩ []) rfl (λw=>?_) ?_
 . rcases H with⟨rfl,rfl⟩|⟨kk,rfl,rfl⟩|⟨_,_,_,_,rfl⟩
   . simp[G,stepG,stepG.exec,oV]
   . simp[G,stepG,stepG.exec,oV]
   grind
 . have E:l=[s.env r]:=by
    simp_all
   subst E;exact key _ _ C c d τ todo _ rfl a o.rel (o.env r (by rw[o.size];omega))
def GF{Q:Machine->Outcome->World->Trace->Prop}:∀  n   m m1   t b ,runNT P n m t=(.next m1,b)->(∃N last o w' a,runNT P (N+1) m1 b=(.ended o w',a)/\runN P N m1=.next last/\step P last=.ended o w'/\Q last o w' a) ->
 ∃N last o w' a,runNT P (N+1) m t=(.ended o w',a)/\runN P N m=.next last/\step P last=.ended o w'/\Q last o w' a
 | 0,m,m1,t,b,h,c=>by
   simp  [runNT,zG]at h
   grind
 | n + 1,m,m1,t,b,h,c=>by
   cases d:stepT P m with
   | mk e ο=>
     cases e with
     |ended o w=>simp only[runNT,d]at h;cases h
     |next f=>rw[runNT_succ_next d]at h;obtain⟨N,last,o,w',a,j,k,g,i⟩:=GF n f m1 _ b h c;exact⟨N+1,last,o,w',a,by grind [runNT_succ_next],by grind [runN_succ_next],g,i⟩
def az.all(w:World):az:=⟨λb i=>w.cell? ⟨b,i,none⟩,λb=>w.shape? b⟩
def T2{r:Nat}(b:P.funcs[f]?=some fn)(hi:P.inits.idxOf? f=none)(a:fn.results=#[.tmp r])  τ   todo   w :stepG P true (G ⟨f,τ,todo,[],.returning,.normal,none⟩ []) w=.ended (.done (τ.getD r undef)) w #[]:=by simp[G,stepG,unwind,b,results,a,doReturn,hi,GStep.after,seen]
def vL(b:Nat)(l:We):af:=λc=>if c=b then some (.stay l)else none
def wE{k b l}(d:∃s,k.sh b=some s)(h:Yy k b l):Rel k au.bot (vL b l):=by
 refine⟨λc a e f=>?_,λc a e _=>?_⟩<;>unfold vL at e<;>split at e
 . cases e;cases f
 . cases e
 . next q=>subst q;exact⟨rfl,d,am⟩
 grind
def zv{r:Nat}{args cargs KF}(p:P.funcs[f]?=some fn)(hi:P.inits.idxOf? f=none)(a:fn.results=#[.tmp r])(t:r<fn.ntmps){σ0}(h:ll P L wF f args σ0 KF){W}(u:Vs (az.all W) cargs args)(c:Rel (az.all W) au.bot σ0):
 ∃ M last o w' e,runNT P (M+1) (solo (G (Frame.enter P f cargs.toArray .normal) []) W) #[]=(.ended o w',e)/\runN P M (solo (G (Frame.enter P f cargs.toArray .normal) []) W)=.next last/\
   step P last=.ended o w'/\Conc.Good P (λv w=>(∃k j σ,V k v j/\KF (.val j) σ)/\vP W w) last o w' e:=by
 have y:=ac5 L   p a t h u c
 have z:iz P W (az.all W) au.bot (G (Frame.enter P f cargs.toArray .normal) []) #[G (Frame.enter P f cargs.toArray .normal) []] W #[]:=by
  refine⟨λ_=>False,λ_=>0,rfl,leavers_one P _,?_,am,am,⟨λb i v _ J=>?_,λb i v h=>h,λb s h=>h,λb o h=>(by cases h),λb n h=>(by cases h),λb g h=>(by cases h)⟩,.refl W,λb x h=>(by cases h)⟩
  . exact⟨past_nil.clean,past_nil.known,past_nil.over,past_nil.hears,ap⟩
  grind [iR,y8]
 obtain⟨M,A,w',B,e,K,N,O,C,⟨na,q,c,E,F,_,_,_,l,_⟩,τ,todo,σ,j,rfl,_,_,H,I⟩:=TN  rfl (λ_ _ _ _ h=>h) y W _ W none #[] z;refine GF M _ _ _ _ C ?_;refine beside_ends   (D:=λ_ _ _=>False) (n:=0) am c E F λQ m=>?_
 obtain⟨d,rfl⟩:=m;exact⟨rfl,_,#[],T2 p hi a _ _ _,ap,am,l.step (.refl _) rfl (AK _) (λ_ _=>rfl)⟩
end
end
open Go.Conc
section
variable{P:Rg}{m:Mo}{φ n:Nat}{ro:Dm}{D:List Fg}{rc:Rec}{K:Ci}{k:AJ}{ο:Cx}{Kp:CU}
def oh.ac6{i ε σ R a}(h:oh P m ο n Kp i ε σ R)(e:∀ε σ,R ε σ->a ε σ):oh P m ο n Kp i ε σ a:=by obtain⟨o,b,c,d⟩:=h;exact⟨o,b,c,d.imp (λh=>⟨h.1,h.2.mono am⟩) am⟩
def fC.inv{Inv:ZB->FI}{R}
 (a:∀done i ε σ,(∀j,oe ο j i=true->j∈done)->i∉done->i<ο.size->Inv done ε σ->oh P m ο n Kp i ε σ (λε σ=>Inv (i::done) ε σ))
 (b:∀done ε σ,(∀i,i<ο.size->i∈done)->Inv done ε σ->R ε σ):
 ∀  l done   ε   σ ,og ο done l->(∀i∈l,i<ο.size)->(∀i,i<ο.size->i∈l\/i∈done)->Inv done ε σ->fC P m ο n Kp l ε σ R
 |[],done,ε,σ,_,_,c,d=>b done ε σ (λi e=>(c i e).resolve_left ap) d
 | i::l,done,ε,σ,⟨f,g,k⟩,p,c,d=>by
   obtain⟨o,q,r,s⟩:=a done i ε σ f g am d;have next:∀ε σ,Inv _ ε σ->fC P m ο n Kp l ε σ R:=λε σ h=>fC.inv a b l _ ε σ k am am h
   exact⟨o,q,r,s.imp (λh=>⟨h.1,h.2.mono am⟩) am⟩
def Any.inv{Inv:ZB->FI}{R ε σ}(c:Inv [] ε σ)
 (a:∀done i ε σ,(∀j,oe ο j i=true->j∈done)->i∉done->i<ο.size->Inv done ε σ->oh P m ο n Kp i ε σ (λε σ=>Inv (i::done) ε σ))
 (b:∀done ε σ,(∀i,i<ο.size->i∈done)->Inv done ε σ->R ε σ):Any P m ο n Kp [] (List.range ο.size) ε σ R:=
 λl d _ e=>fC.inv a b l [] ε σ d am am c
def z9(L:lz P){mu i ε σ R}(h:mD L m mu ο n Kp (.one i .done) ε σ R):oh P m ο n Kp i ε σ R:=by
 have:=AL L  (λh=>.done h) h;exact this.ac6 λε σ h=>h [] [] [] rfl [] trivial KS ap ap
def aa.XV{η id ε σ}(Inv:ZB->FI)(d:P.follows .mixedOrders=true)(e:xh ο=true)(f:Inv [] ε σ)
 (a:∀done i ε σ,(∀j,oe ο j i=true->j∈done)->i∉done->i<ο.size->Inv done ε σ->oh P m ο n (λv σ=>∀ε,K (.panic v) ⟨ε,σ,D,rc⟩) i ε σ (λε σ=>Inv (i::done) ε σ))
 (b:∀done ε σ,(∀i,i<ο.size->i∈done)->Inv done ε σ->aa P m φ n ro η k ⟨ε,σ,D,rc⟩ K):
 aa P m φ n ro η (.code (.region id ο true)::k) ⟨ε,σ,D,rc⟩ K:=λc=>
 Go.draw d e (Any.inv f a λdone ε σ g h=>b done ε σ g h (by simp  [oZ,IN]at c ⊢;grind))
def gK{α β}{f:α->Sem β}{a b}(s:Sem α)(c:bQ P s=some a)(d:bQ P (f a)=some b):bQ P (s >>=f)=some b:=by
 induction s with
 |pure x=>cases c;exact d
 |program g e=>exact e P c
 |_=>cases c
def Aa{t d}(h:P.underlying t=some d):bQ P (underlying t)=some d:=by refine gK _ (a:=P) rfl ?_;rw[h];rfl
def eq_int{d t k a}(h:P.underlying t=some (.int k)):bQ P (Op.equalIn (d+1) t (.int k a) (.int k a))=some true:=by rw[Op.equalIn];refine gK _ (Aa h) ?_;simp[bQ,pure]
def GG{d t fs xs}(e:P.underlying t=some (.struct fs))(j:P.stoodInHeld t=false)(b:∀f∈fs.toList,∃v,bQ P (part f.type xs f.offset)=some v/\bQ P (Op.equalIn d f.type v v)=some true):bQ P (Op.equalIn (d+1) t (.agg xs) (.agg xs))=some true:=by
 rw[Op.equalIn];refine gK _ (Aa e) ?_;refine gK _ (a:=P) rfl ?_;simp only[j,zA,LK];obtain⟨l⟩:=fs;simp only[La];refine gK _ (a:=⟨none,()⟩) ?_ rfl;change ∀f∈l,_ at b;clear e;induction l with
 |nil=>rfl
 | cons f l h=>
   obtain⟨v,i,k⟩:=b f ap;rw[Kn];split
   . refine gK _ (gK _ i (gK _ i (gK _ k rfl))) ?_
     exact h λg c=>b g (by simp[c])
   . exact h λg c=>b g (by simp[c])
end

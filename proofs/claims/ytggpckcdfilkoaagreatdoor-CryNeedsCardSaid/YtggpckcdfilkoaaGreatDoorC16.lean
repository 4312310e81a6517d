import Derived.Test.YtggpckcdfilkoaaGreatDoorProg
import Derived.Test.YtggpckcdfilkoaaGreatDoorC15
set_option linter.all false
set_option maxHeartbeats 1000000
set_option maxRecDepth 100000
namespace Go.Proofs.YtggpckcdfilkoaaGreatDoor
open Go.Proofs.Tryz hiding f0 f1 f10
section
open Go.bu
@[simp] abbrev FA:Value:=.slice none 0 0
@[simp] abbrev ZE:Value:=.int .i64 0
@[simp] abbrev KZ:Value:=.pointer none
@[simp] abbrev Cw:Value:=.nilIface
@[simp] abbrev Im(n:Nat):TI:=⟨.slice n,1,24,.slice none 0 0,[]⟩
@[simp] abbrev Fq(n:Nat):TI:=⟨.pointer n,1,8,.pointer none,[]⟩
@[simp] abbrev Em:TI:=⟨.func,1,8,.nilFunc,[]⟩
@[simp] abbrev M7:TI:=⟨.int .i64,1,8,(.int .i64 0),[]⟩
@[simp] abbrev Q':TI:=⟨.bool,1,1,(.bool false),[]⟩
@[simp] abbrev KH:TI:=⟨.int .u8,1,1,(.int .u8 0),[]⟩
@[simp] abbrev Pf:TI:=⟨.struct,4,24,(.agg #[ZE,ZE,(.bool false),(.int .u8 0)]),[(0,1,2),(1,1,3),(2,1,4),(3,1,6)]⟩
@[simp] abbrev O8:TI:=⟨.string,1,16,(.string ByteArray.empty),[]⟩
@[simp] abbrev MR:TI:=⟨.int .u64,1,8,(.int .u64 0),[]⟩
@[simp] abbrev Pe:TI:=⟨.struct,2,24,(.agg #[(.string ByteArray.empty),(.int .u64 0)]),[(0,1,9),(1,1,12)]⟩
@[simp] abbrev ajI:TI:=Fq 335
@[simp] abbrev ajJ:TI:=Fq 338
@[simp] abbrev ajK:TI:=Fq 346
@[simp] abbrev O7:TI:=⟨.struct,1,8,(.agg #[KZ]),[(0,1,17)]⟩
@[simp] abbrev I5:TI:=⟨.iface,1,16,.nilIface,[]⟩
@[simp] abbrev O6:TI:=⟨.int .i32,1,4,(.int .i32 0),[]⟩
@[simp] abbrev Pz:TI:=Im 34
@[simp] abbrev Pw:TI:=Im 32
@[simp] abbrev O5:TI:=⟨.struct,2,16,(.agg #[ZE,ZE]),[(0,1,3),(1,1,3)]⟩
@[simp] abbrev Pd:TI:=⟨.struct,6,80,(.agg #[FA,FA,ZE,ZE,ZE,ZE]),[(0,1,22),(1,1,23),(2,2,25),(4,1,3),(5,1,3)]⟩
@[simp] abbrev Pv:TI:=Im 38
@[simp] abbrev Pr:TI:=Im 36
@[simp] abbrev Q3:TI:=⟨.struct,9,136,(.agg #[FA,FA,ZE,ZE,ZE,ZE,ZE,FA,FA]),[(0,6,27),(6,1,3),(7,1,28),(8,1,29)]⟩
@[simp] abbrev Pq:TI:=Im 3
@[simp] abbrev OM:TI:=⟨.struct,6,64,(.agg #[ZE,ZE,ZE,FA,ZE,ZE]),[(0,1,3),(1,1,3),(2,1,3),(3,1,32),(4,1,3),(5,1,3)]⟩
@[simp] abbrev OL:TI:=⟨.struct,8,80,(.agg #[ZE,ZE,ZE,FA,ZE,ZE,ZE,ZE]),[(0,6,34),(6,1,3),(7,1,3)]⟩
@[simp] abbrev Po:TI:=⟨.struct,5,40,(.agg #[ZE,ZE,ZE,ZE,ZE]),[(0,1,3),(1,1,3),(2,1,3),(3,2,25)]⟩
@[simp] abbrev ajR:TI:=Fq 75
@[simp] abbrev ajS:TI:=Im 31
@[simp] abbrev Pj:TI:=Im 25
@[simp] abbrev Q2:TI:=⟨.struct,3,40,(.agg #[FA,ZE,(.int .u64 0)]),[(0,1,32),(1,1,3),(2,1,73)]⟩
@[simp] abbrev ajU:TI:=Fq 180
@[simp] abbrev ajV:TI:=⟨.struct,2,2,(.agg #[(.int .u8 0),(.int .u8 0)]),[(0,1,96),(1,1,96)]⟩
@[simp] abbrev Q1:TI:=⟨.struct,9,152,(.agg #[FA,FA,FA,FA,ZE,ZE,ZE,ZE,FA]),[(0,1,32),(1,1,32),(2,6,27),(8,1,23)]⟩
@[simp] abbrev Ht:TI:=⟨.struct,0,0,(.agg #[]),[]⟩
@[simp] abbrev MT:TI:=⟨.struct,2,32,(.agg #[FA,ZE]),[(0,1,32),(1,1,3)]⟩
@[simp] abbrev Ph:TI:=Im 121
@[simp] abbrev ajX:TI:=Fq 31
@[simp] abbrev ajY:TI:=⟨.struct,1,8,(.agg #[.nilFunc]),[(0,1,138)]⟩
@[simp] abbrev Pg:TI:=⟨.array 2 3,2,16,(.agg #[ZE,ZE]),[]⟩
@[simp] abbrev aka:TI:=⟨.struct,1,8,(.agg #[.nilFunc]),[(0,1,79)]⟩
@[simp] abbrev akb:TI:=⟨.int .u32,1,4,(.int .u32 0),[]⟩
@[simp] abbrev akc:TI:=⟨.struct,2,8,(.agg #[(.int .i32 0),(.int .u32 0)]),[(0,1,21),(1,1,172)]⟩
@[simp] abbrev akd:TI:=⟨.struct,2,8,(.agg #[(.int .i32 0),(.int .u32 0)]),[(0,0,171),(0,2,174)]⟩
@[simp] abbrev ake:TI:=⟨.array 3 3,3,24,(.agg #[ZE,ZE,ZE]),[]⟩
@[simp] abbrev akf:TI:=⟨.map 98 221,1,8,(.map none),[]⟩
@[simp] abbrev akg:TI:=⟨.struct,15,176,(.agg #[FA,FA,ZE,ZE,ZE,ZE,ZE,FA,FA,(.int .i32 0),(.int .u32 0),ZE,ZE,ZE,(.map none)]),[(0,9,31),(9,2,176),(11,3,177),(14,1,178)]⟩
@[simp] abbrev Pb:TI:=⟨.array 3 96,3,3,(.agg #[(.int .u8 0),(.int .u8 0),(.int .u8 0)]),[]⟩
@[simp] abbrev Pa:TI:=Im 117
@[simp] abbrev MQ:TI:=⟨.struct,1,8,(.agg #[ZE]),[(0,1,48)]⟩
@[simp] abbrev PZ:TI:=Fq 192
@[simp] abbrev akk:TI:=Fq 255
@[simp] abbrev akl:TI:=⟨.struct,1,8,(.agg #[(.int .u64 0)]),[(0,0,203),(0,0,204),(0,1,73)]⟩
@[simp] abbrev akm:TI:=⟨.struct,2,16,(.agg #[(.int .u64 0),(.int .u32 0)]),[(0,0,171),(0,1,206),(1,1,172)]⟩
@[simp] abbrev akn:TI:=⟨.array 4 3,4,32,(.agg #[ZE,ZE,ZE,ZE]),[]⟩
@[simp] abbrev ako:TI:=⟨.array 3 149,3,48,(.agg #[Cw,Cw,Cw]),[]⟩
@[simp] abbrev Q0:TI:=⟨.struct,1,4,(.agg #[(.int .u32 0)]),[(0,0,203),(0,1,172)]⟩
@[simp] abbrev akp:TI:=⟨.struct,3,12,(.agg #[(.int .u32 0),(.int .i32 0),(.int .u32 0)]),[(0,0,171),(0,1,215),(1,2,176)]⟩
@[simp] abbrev akq:TI:=⟨.array 6 213,18,288,(.agg #[Cw,Cw,Cw,Cw,Cw,Cw,Cw,Cw,Cw,Cw,Cw,Cw,Cw,Cw,Cw,Cw,Cw,Cw]),[]⟩
@[simp] abbrev akr:TI:=⟨.struct,21,304,(.agg #[(.int .u32 0),(.int .i32 0),(.int .u32 0),Cw,Cw,Cw,Cw,Cw,Cw,Cw,Cw,Cw,Cw,Cw,Cw,Cw,Cw,Cw,Cw,Cw,Cw]),[(0,3,217),(3,18,218)]⟩
@[simp] abbrev PY:TI:=Fq 220
@[simp] abbrev akt:TI:=Im 110
@[simp] abbrev aku:TI:=⟨.struct,3,24,(.agg #[KZ,KZ,(.int .u64 0)]),[(0,1,17),(1,1,241),(2,1,242)]⟩
@[simp] abbrev akv:TI:=⟨.map 286 4,1,8,(.map none),[]⟩
@[simp] abbrev akw:TI:=⟨.struct,9,96,(.agg #[FA,FA,ZE,ZE,ZE,ZE,(.int .i32 0),(.int .u32 0),(.map none)]),[(0,6,27),(6,2,176),(8,1,253)]⟩
@[simp] abbrev PX:TI:=⟨.chan 3,1,8,(.chan none),[]⟩
@[simp] abbrev aky:TI:=Fq 208
@[simp] abbrev akz:TI:=Fq 172
@[simp] abbrev akA:TI:=Fq 176
@[simp] abbrev akB:TI:=⟨.struct,1,1,(.agg #[(.int .u8 0)]),[(0,1,5)]⟩
@[simp] abbrev akC:TI:=⟨.array 6 286,6,6,(.agg #[(.int .u8 0),(.int .u8 0),(.int .u8 0),(.int .u8 0),(.int .u8 0),(.int .u8 0)]),[]⟩
@[simp] abbrev akD:TI:=Fq 217
@[simp] abbrev akE:TI:=Fq 307
@[simp] abbrev akF:TI:=⟨.struct,1,8,(.agg #[.nilFunc]),[(0,1,161)]⟩
@[simp] abbrev akG:TI:=Im 278
@[simp] abbrev akH:TI:=Fq 215
@[simp] abbrev akI:TI:=⟨.struct,4,40,(.agg #[KZ,KZ,KZ,(.string ByteArray.empty)]),[(0,1,17),(1,1,17),(2,1,17),(3,1,9)]⟩
@[simp] abbrev akJ:TI:=⟨.array 0 16,0,0,(.agg #[]),[]⟩
@[simp] abbrev akK:TI:=⟨.struct,0,0,(.agg #[]),[(0,0,336)]⟩
@[simp] abbrev akL:TI:=Fq 5
@[simp] abbrev akM:TI:=⟨.struct,11,48,(.agg #[(.int .u64 0),(.int .u64 0),(.int .u32 0),(.int .u8 0),(.int .u8 0),(.int .u8 0),(.int .u8 0),.nilFunc,KZ,(.int .i32 0),(.int .i32 0)]),[(0,1,12),(1,1,12),(2,1,172),(3,1,340),(4,1,5),(5,1,5),(6,1,247),(7,1,341),(8,1,342),(9,1,343),(10,1,344)]⟩
def T3:List (Nat × TI):=[
 (1,Em),(2,M7),(3,M7),(4,Q'),(5,KH),(6,KH),(7,Pf),(8,Pf),(9,O8),(10,O8),(11,O8),(12,MR),(13,Pe),(14,Pe),(15,ajI),(16,ajJ),(17,ajK),(18,O7),(19,O7),(20,I5),(21,O6),(22,Pz),(23,Pw),(24,O5),(25,O5),(26,Pd),(27,Pd),(28,Pv),(29,Pr),(30,Q3),(31,Q3),(32,Pq),(33,OM),(34,OM),(35,OL),(36,OL),(38,Po),(40,Em),(41,ajR),(43,ajS),(47,Pj),(48,M7),(72,Em),(73,MR),(74,Q2),(75,Q2),(79,Em),(83,ajU),(88,Em),(90,Em),(92,Em),(96,KH),(98,ajV),(99,Em),(100,Em),(101,Q1),(102,Q1),(110,I5),(113,Em),(114,Ht),(115,Ht),(117,MT),(119,Em),(121,MT),(122,Ph),(132,Em),(134,Em),(136,ajX),(138,Em),(140,ajY),(141,Em),(142,Em),(149,I5),(150,Ht),(157,Em),(161,Em),(164,MR),(165,Pg),(167,Em),(170,aka),(171,Ht),(172,akb),(174,akc),(176,akd),(177,ake),(178,akf),(180,akg),(182,Em),(183,Pb),(186,I5),(187,Em),(189,Pa),(190,Em),(191,MQ),(192,MQ),(194,PZ),(195,akk),(203,Ht),(204,Ht),(206,akl),(208,akm),(211,akn),(213,ako),(214,Q0),(215,Q0),(217,akp),(218,akq),(220,akr),(221,PY),(223,Ht),(230,O7),(232,I5),(235,I5),(237,I5),(238,akt),(242,MR),(244,aku),(247,KH),(253,akv),(255,akw),(256,PX),(259,aky),(261,M7),(265,akz),(269,akA),(278,I5),(282,I5),(286,akB),(287,akC),(290,Em),(304,akD),(305,Ht),(307,MQ),(309,akE),(311,akF),(312,Ht),(313,Ht),(314,Ht),(315,akG),(320,akH),(335,akI),(336,akJ),(338,akK),(340,KH),(341,Em),(342,akL),(343,O6),(344,O6),(346,akM),(352,KH)]
def aav:(T3.all λx=>x.2.check Tryz.prog x.1)=true:=s8
def Ij(t:Nat):Option TI:=(T3.find? λx=>x.1==t).map (·.2)
def agc(t:Nat)(i:TI)(h:Ij t=some i):i.check Tryz.prog t=true:=by unfold Ij at h;obtain⟨x,a,rfl⟩:=Fh.1 h;have c:=List.find?_some a;have b:=LF.1 aav x (List.mem_of_find?_eq_some a);rw[DW.1 c]at b;exact b
def Ax:lz Tryz.prog:=⟨Ij,agc,s8⟩
def rn{m:Mo}{φ n:Nat}{ro:Dm}{η:YA}{s:St}{K:bu.Exit->St->Prop}{todo:AJ}(h:cU Ax m φ n ro [] η 1000 todo s K):aa Tryz.prog m φ n ro η todo s K:=aa.run Ax [] h
def pg{m:Mo}{ο:Cx}{n:Nat}{Kp:CU}{R:FI}{p:sm}{ε:Env}{σ:af}(h:mD Ax m [] ο n Kp p ε σ R):aR Tryz.prog m ο n Kp p ε σ R:=aR.go Ax [] h
def cf{m:Mo}{f:FuncId}{fn:Func}{args:We}{σ:af}{KF:YC}(a:Tryz.prog.funcs[f]?=some fn)(hb:(fn.body.isSome && !(fn.name== "runtime.NumGoroutine"))=true)(h:ar Tryz.prog m f args σ KF):cQ Tryz.prog m (.fn (.func f) [] []) args σ KF:=by
 simp only[vc,Kr]at hb;exact ai a hb.1 hb.2 h
def O1{m:Mo}{f:FuncId}{fn:Func}{args:We}{σ:af}{KF:YC}(a:Tryz.prog.funcs[f]?=some fn)(h:ar Tryz.prog m f args σ KF)(hb:(fn.body.isSome && !(fn.name== "runtime.NumGoroutine"))=true:=by exact rfl):cQ Tryz.prog m (.fn (.func f) [] []) args σ KF:=cf a hb h
def fs{m:Mo}{f:FuncId}{fn:Func}{args:We}{σ:af}{KF:YC}{body:Code}(η:YA)(b:Tryz.prog.funcs[f]?=some fn)(hb:fn.body=some body)(c:(uO fn args.length&&vR η body)=true)(h:cU Ax m f fn.ntmps none [] η 1000 [.code body] ⟨fR args,σ,[],.no⟩ (L6 Ax m fn.results.toList (tO KF))):ar Tryz.prog m f args σ KF:=by simp only[vc]at c;exact ar.start Ax [] η _ b hb rfl c.1 c.2 h
def S0{m:Mo}{f:FuncId}{fn:Func}{args:We}{σ:af}{KF:YC}{body:Code}(η:YA)(b:Tryz.prog.funcs[f]?=some fn)(h:cU Ax m f fn.ntmps none [] η 1000 [.code body] ⟨fR args,σ,[],.no⟩ (L6 Ax m fn.results.toList (tO KF)))(hb:fn.body=some body:=by exact rfl)(c:(uO fn args.length&&vR η body)=true:=by kernel_rfl):ar Tryz.prog m f args σ KF:=fs η b hb c h
@[simp] def bool:=by
 have h:∀x∈T3,Ax.tt x.1=some x.2:=by
  simp only[T3,List.forall_mem_cons]
  repeat refine⟨rfl,?_⟩
  simp
 simp only[T3,List.forall_mem_cons,List.not_mem_nil,false_imp_iff,implies_true,and_true]at h;exact h
@[simp] theorem nM:Ax.tt 3=some M7:=rfl
@[simp] theorem tt4:Ax.tt 4=some Q':=rfl
@[simp] theorem PJ:Ax.tt 5=some KH:=rfl
@[simp] theorem aff:Ax.tt 20=some I5:=rfl
@[simp] theorem kG:Ax.tt 22=some Pz:=rfl
@[simp] theorem sA:Ax.tt 23=some Pw:=rfl
@[simp] theorem ZX:Ax.tt 25=some O5:=rfl
@[simp] theorem Cr:Ax.tt 28=some Pv:=rfl
@[simp] theorem wI:Ax.tt 29=some Pr:=rfl
@[simp] theorem bX:Ax.tt 32=some Pq:=rfl
@[simp] theorem vb:Ax.tt 34=some OM:=rfl
@[simp] theorem HP:Ax.tt 36=some OL:=rfl
@[simp] theorem Ps:Ax.tt 38=some Po:=rfl
@[simp] theorem Pp:Ax.tt 47=some Pj:=rfl
@[simp] theorem P7:Ax.tt 96=some KH:=rfl
@[simp] theorem zq:Ax.tt 110=some I5:=rfl
@[simp] theorem ac7:Ax.tt 117=some MT:=rfl
@[simp] theorem acC:Ax.tt 121=some MT:=rfl
@[simp] theorem YY:Ax.tt 122=some Ph:=rfl
@[simp] theorem Y8:Ax.tt 149=some I5:=rfl
@[simp] theorem Y9:Ax.tt 165=some Pg:=rfl
@[simp] theorem ac8:Ax.tt 183=some Pb:=rfl
@[simp] theorem Y':Ax.tt 189=some Pa:=rfl
@[simp] theorem ac9:Ax.tt 192=some MQ:=rfl
@[simp] theorem ac':Ax.tt 194=some PZ:=rfl
@[simp] theorem ada:Ax.tt 221=some PY:=rfl
@[simp] theorem On:Ax.tt 256=some PX:=rfl
@[simp] theorem YU:Ax.tt 278=some I5:=rfl
@[simp] theorem adb:Ax.tt 312=some Ht:=rfl
@[simp] theorem ade:Ax.tt 313=some Ht:=rfl
@[simp] theorem adf:Ax.tt 314=some Ht:=rfl
@[simp] def MU:List Nat->sm->sm
 |[],p=>p
 |a::l,p=>.one a (MU l p)
@[simp] def MV(l:List Nat):sm:=.take l true .done
@[simp] def MX:Nat->Nat->List Nat
 |_,0=>[]
 |a,n+1=>a::MX (a+1) n
abbrev afg:YA:=[⟨5,.take [1,2,4,7] false (.both 0 (.both 3 (MU [5,6,8] .done) (MU [5,3,6,8] .done)) (MU [5,0,3,6,8] .done))⟩]
abbrev afh:YA:=[⟨1,.take [0,1,3,4,6,7] false (.both 2 (.both 5 (.both 8 (.both 9 (MU [10,11] .done) (MU [10,9,11] .done)) (MU [10,8,9,11] .done)) (MU [10,5,8,9,11] .done)) (.both 5 (.both 2 (.both 8 (.both 9 (MU [10,11] .done) (MU [10,9,11] .done)) (MU [10,8,9,11] .done)) (MU [10,2,8,9,11] .done)) (MU [10] (.both 2 (MU [5,8,9,11] .done) (MU [5,2,8,9,11] .done)))))⟩,⟨5,.take [0,2,3,4,5,6,7,9,10,11,12,13,14,15,16,17,18,19,20,24] false (.both 1 (MU [8,21,22,23,25] .done) (MU [8] (.both 1 (MU [21,22,23,25] .done) (MU [21] (.both 1 (MU [22,23,25] .done) (MU [22] (.take [1] true (MU [23,25] .done))))))))⟩]
abbrev afi:YA:=[⟨4,MV (MX 0 9)⟩]
abbrev Q5:YA:=[⟨26,.take (MX 0 4) false (MU [4,5,6] (MV (MX 7 5)))⟩]
abbrev afj:YA:=[⟨3,.take [0,1,2] false (.both 3 (MU [4,5,6,7,8,9] .done) (MU [4] (.both 3 (MU [5,6,7,8,9] .done) (MU [5] (.both 3 (MU [6,7,8,9] .done) (MU [6] (.both 3 (MU [7,8,9] .done) (MU [7,3,8,9] .done))))))))⟩]
abbrev afk:YA:=[⟨1,.take [0,1,3,4,5,6,7,8] false (.both 2 (.both 9 (MU [10,11] .done) (MU [10,9,11] .done)) (MU [10,2,9,11] .done))⟩,⟨5,.take [0,2,3,4,5,6,10] false (.both 1 (MU [7,8,9,11] .done) (MU [7] (.both 1 (MU [8,9,11] .done) (MU [8] (.take [1] true (MU [9,11] .done))))))⟩]
abbrev afl:YA:=[⟨3,MV (MX 0 10)⟩,⟨4,.take (MX 0 15) true (MV [15])⟩,⟨6,.take [0,1,2,3,5,6,7,11,12] false (.take [4,8,9,10] true (MU [13] .done))⟩]
abbrev afm:YA:=[⟨6,MV (MX 0 9)⟩]
abbrev afn:YA:=[⟨6,.take (MX 0 10) false (MU [10] (MV [11]))⟩]
abbrev afo:YA:=[⟨15,.take (MX 0 6) false (MU [6] (MV [7]))⟩]
abbrev adh:YA:=[⟨19,.take [0,2,3,4,6,7,11] false (.both 1 (.both 5 (MU [8,9] (.take [10] true (MU [12] .done))) (MU [8,5,9] (.take [10] true (MU [12] .done)))) (.both 5 (.both 1 (MU [8,9] (.take [10] true (MU [12] .done))) (MU [8] (.both 1 (MU [9] (.take [10] true (MU [12] .done))) (MU [9] (.take [1,10] true (MU [12] .done)))))) (MU [8] (.both 1 (MU [5,9] (.take [10] true (MU [12] .done))) (MU [5] (.both 1 (MU [9] (.take [10] true (MU [12] .done))) (MU [9] (.take [1,10] true (MU [12] .done)))))))))⟩]
abbrev adi:YA:=[⟨4,.take (MX 0 8) false (MU [8] (MV [9]))⟩]
abbrev Za:YA:=[⟨12,.take [0,1,3,4,6,9,11] false (.both 2 (.both 5 (MU [7,8,10,12,13] (MV [14])) (MU [7,5,8,10,12,13] (MV [14]))) (MU [7,2,5,8,10,12,13] (MV [14])))⟩]
abbrev adj:YA:=[⟨22,MV (MX 0 30)⟩,⟨27,MV (MX 0 23)⟩]
abbrev adk:YA:=[⟨12,MV (MX 0 16)⟩]
abbrev Zb:YA:=[⟨4,.take (MX 0 6) false (MU [6] .done)⟩]
abbrev adl:YA:=[⟨16,.take [0,1,2,4,5,6,8,9,12] false (.both 3 (MU [7,10,11,13] .done) (MU [7] (.both 3 (MU [10,11,13] .done) (MU [10] (.take [3] true (MU [11,13] .done))))))⟩]
abbrev adm:YA:=[⟨1,.take (MX 0 5) false (.both 5 (MU [6,7] .done) (MU [6,5,7] .done))⟩,⟨4,.take (MX 0 6) true (MU [6] .done)⟩]
abbrev adn:YA:=[⟨7,.take [0,2,6] false (.both 1 (MU [3,4,5,7] .done) (MU [3] (.both 1 (MU [4,5,7] .done) (MU [4] (.take [1] true (MU [5,7] .done))))))⟩,⟨15,.take [0,2,5,6,8,11,12,13] false (.both 1 (.take [3,4,14] false (MU [7] (.take [9,10,16] false (MU [15,17] .done)))) (MU [7] (.take [9,10,16] false (.take [1,3,4,14] true (MU [15,17] .done)))))⟩,⟨21,.take [0,2,3,7] false (.both 1 (MU [4,5,6,8] .done) (MU [4] (.both 1 (MU [5,6,8] .done) (MU [5] (.take [1] true (MU [6,8] .done))))))⟩]
abbrev ado:YA:=[⟨24,MV (MX 0 25)⟩,⟨29,MV (MX 0 23)⟩]
abbrev Zc:YA:=[⟨5,.take [0,1,3] false (.both 2 (.both 4 (MU [5,6,7] (MV [8])) (MU [5,4,6,7] (MV [8]))) (MU [5,2,4,6,7] (MV [8])))⟩,⟨11,.take [0,1,2] false (MU [3,4] .done)⟩]
abbrev adp:YA:=[⟨0,.take [0,1,3,4,6,7] false (.both 2 (.both 5 (.take [11] false (.both 8 (.take [12] false (MU [9,10] .done)) (MU [9,8] (.take [12] false (MU [10] .done))))) (MU [9,5] (.take [11] false (MU [8] (.take [12] false (MU [10] .done)))))) (MU [9,2,5] (.take [11] false (MU [8] (.take [12] false (MU [10] .done))))))⟩,⟨8,.take [0,1,2,3,5,6,7,8] false (MU [4,9] .done)⟩]
abbrev adq:YA:=[⟨4,.take [0,2,4] false (.take [1] true (MU [3,5] .done))⟩,⟨5,.take [0,1,2] false (MU [3,4] (.take [5,6,8,9,10,12,15,16,17] false (.both 7 (.both 11 (.both 13 (.both 14 (MU [18,19] (MV [20,21])) (MU [18,14,19] (MV [20,21]))) (MU [18,13,14,19] (MV [20,21]))) (.both 13 (.both 11 (.both 14 (MU [18,19] (MV [20,21])) (MU [18,14,19] (MV [20,21]))) (MU [18,11,14,19] (MV [20,21]))) (MU [18] (.both 11 (MU [13,14,19] (MV [20,21])) (MU [13,11,14,19] (MV [20,21])))))) (.both 11 (.both 7 (.both 13 (.both 14 (MU [18,19] (MV [20,21])) (MU [18,14,19] (MV [20,21]))) (MU [18,13,14,19] (MV [20,21]))) (.both 13 (.both 7 (.both 14 (MU [18,19] (MV [20,21])) (MU [18,14,19] (MV [20,21]))) (.both 14 (.both 7 (MU [18,19] (MV [20,21])) (MU [18,7,19] (MV [20,21]))) (MU [18] (.both 7 (MU [14,19] (MV [20,21])) (MU [14,7,19] (MV [20,21])))))) (MU [18] (.both 7 (MU [13,14,19] (MV [20,21])) (MU [13] (.both 7 (MU [14,19] (MV [20,21])) (MU [14,7,19] (MV [20,21])))))))) (.both 13 (.both 7 (.both 11 (.both 14 (MU [18,19] (MV [20,21])) (MU [18,14,19] (MV [20,21]))) (MU [18,11,14,19] (MV [20,21]))) (.both 11 (.both 7 (.both 14 (MU [18,19] (MV [20,21])) (MU [18,14,19] (MV [20,21]))) (.both 14 (.both 7 (MU [18,19] (MV [20,21])) (MU [18,7,19] (MV [20,21]))) (MU [18] (.both 7 (MU [14,19] (MV [20,21])) (MU [14,7,19] (MV [20,21])))))) (MU [18] (.both 7 (MU [11,14,19] (MV [20,21])) (MU [11] (.both 7 (MU [14,19] (MV [20,21])) (MU [14,7,19] (MV [20,21])))))))) (MU [18] (.both 7 (.both 11 (MU [13,14,19] (MV [20,21])) (MU [13,11,14,19] (MV [20,21]))) (.both 11 (.both 7 (MU [13,14,19] (MV [20,21])) (MU [13] (.both 7 (MU [14,19] (MV [20,21])) (MU [14,7,19] (MV [20,21]))))) (MU [13] (.both 7 (MU [11,14,19] (MV [20,21])) (MU [11] (.both 7 (MU [14,19] (MV [20,21])) (MU [14,7,19] (MV [20,21]))))))))))))))⟩]
abbrev adr:YA:=[⟨1,.take (MX 0 6) true (MU [6] .done)⟩]
abbrev ads:YA:=[⟨3,.take (MX 0 4) false (MU [4,5] (MV (MX 6 5)))⟩,⟨6,.take (MX 0 6) true (MU [6] .done)⟩]
abbrev adt:YA:=[⟨4,MV (MX 0 18)⟩]
abbrev adu:YA:=[⟨1,.take (MX 0 18) false (MU [18] (MV [19]))⟩]
abbrev adw:YA:=[⟨9,.take (MX 0 12) false (MU [12] (MV [13,14]))⟩]
abbrev adx:YA:=[⟨5,.take (MX 0 17) false (.both 17 (MU [18,19,20] .done) (MU [18,17,19,20] .done))⟩,⟨6,.take (MX 0 19) false (MU [19] (MV [20,21,22]))⟩]
abbrev ady:YA:=[⟨0,.take (MX 0 4) false (MU [4,5] .done)⟩]
abbrev Zd:YA:=[⟨7,MV (MX 0 4)⟩]
abbrev adz:YA:=[⟨1,MV (MX 0 10)⟩]
abbrev adA:YA:=[⟨8,MV (MX 0 21)⟩]
abbrev adB:YA:=[⟨4,.take [0,1,2,3,4,5,6,7,9,10,11,12] false (.both 8 (MU [13,14] (MV [15,16])) (MU [13,8,14] (MV [15,16])))⟩,⟨6,.take [0,1,2,3,4,5,6,7,8,10,11,12,14,16] false (.take [9,13] true (MU [15,17] .done))⟩]
abbrev adC:YA:=[⟨4,MV (MX 0 21)⟩]
abbrev adD:YA:=[⟨8,MV (MX 0 15)⟩,⟨11,.take [0,1,3,4,5,6,7,8,10] false (MU [2] (.take [9,11] false (MU [12,13] (MV [14]))))⟩,⟨17,.take (MX 0 4) false (MU [4,5] (MV [6]))⟩]
abbrev adE:YA:=[⟨4,.take (MX 0 23) false (.both 23 (MU [24,25,26] .done) (MU [24,23,25,26] .done))⟩,⟨5,.take [0,1,2,3,4,5,6,7,8,9,10,11,12,13,14,15,16,17,18,19,20,21,22,23,24,26,27] false (MU [25,28,29] (MV [30,31,32]))⟩]
attribute [simp] Wt
abbrev Xn(n:Int):AV:=.lit (.int .i64 n)
abbrev u8(n:Int):AV:=.lit (.int .u8 n)
abbrev T0(b:Bool):AV:=.lit (.bool b)
abbrev Ae(l:RQ):AV:=.sl 1 (l.map Xn) .any
abbrev Cu(l:Wz):AV:=.sl 1 (l.map Ae) .any
structure vU where
 hour:Int
 place:Int
 di:Int
 marks:RQ
 bY:Int
 ma:Int
 deriving DecidableEq
structure Fr where
 ao:List vU
 roads:Wz
 bs:Int
 fN:Int
 dN:Int
 bc:Int
 deriving DecidableEq
abbrev bn(e:vU):AV:=.agg [Xn e.hour,Xn e.place,Xn e.di,Ae e.marks,Xn e.bY,Xn e.ma]
abbrev kg(l:List vU):AV:=.sl 6 (l.map bn) .any
abbrev vK(f:Fr):We:=[kg f.ao,Cu f.roads,Xn f.bs,Xn f.fN,Xn f.dN,Xn f.bc]
abbrev bR(f:Fr):AV:=.agg (vK f)
abbrev qv(b mb:Nat)(f:Fr)(o:Nat):AV:=.kp b [kg f.ao,Cu f.roads,Xn f.bs,Xn f.fN,Xn f.dN,Xn f.bc,.lit (.int .i32 0),.lit (.int .u32 0),.map mb] [6,7] o
def cz(a lo hi:Int):Bool:=decide (lo<=a) && decide (a<=hi)
def ua:Option Int->Int->Bool
 |some q,h=>decide (h<=q)
 |none,_=>false
def sC:Option Int->RQ->Int
 |_,[]=>0
 |p,h::l=>if cz h 0 4=false then 3 else if ua p h=true then 5 else sC (some h) l
def fJ(places:Int)(e:vU):Int:=
 if cz e.hour 0 72=false then 1 else if cz e.place 0 (places-1)=false then 3 else if cz e.di 0 5=false then 1 else if sC none e.marks≠0 then sC none e.marks
 else if cz e.bY 0 30=false then 1 else if cz e.ma 0 2=false then 8 else 0
def jh(f:vU->Int):List vU->Int
 |[]=>0
 |d::l=>if f d=0 then jh f l else f d
def Oo(l:RQ)  i   h   p :sC p (l.drop i)=if cz l[i] 0 4=false then 3 else if ua p l[i]=true then 5 else sC (some l[i]) (l.drop (i+1)):=by rw[K5 h,sC]
def B8  f  (l:List vU)  i   h :jh f (l.drop i)=if f l[i]=0 then jh f (l.drop (i+1))else f l[i]:=by rw[K5 h,jh]
def te{α:Type}{l:List α}{n k}  g  (h:n∉l.take k) (a:l[k]≠n):n∉l.take (k+1):=by
 rw[so g,E4,sN]
 grind
def abi{α:Type}{l a:List α}{k}  g  (g':k<a.length) (h:l.take k=a.take k) (e:l[k]=a[k]):l.take (k+1)=a.take (k+1):=by rw[so g,so g',h,e]
def rd(r:Wz)(i j:Nat):Int:=(r.getD i []).getD j 0
def cS(r:Wz)(i j:Nat):Bool:=rd r i i !=0||rd r i j !=rd r j i||(List.range r.length).any λk=>decide (rd r i j>rd r i k+rd r k j)
def nB(n:Nat)(l:RQ):Int:=if l.length≠n then 9 else if l.all (cz · 0 9)then 0 else 1
def jV(n:Nat):Wz->Int
 |[]=>0
 |l::r=>if nB n l=0 then jV n r else nB n l
def fD(r:Wz):Int:=
 if r.length<1 then 7 else if 3<r.length then 6 else if jV r.length r≠0 then jV r.length r
 else if(List.range r.length).any (λi=>(List.range r.length).any λj=>cS r i j)then 9 else 0
def check(f:Fr):Int:=
 if fD f.roads≠0 then fD f.roads else if(cz f.bs 0 3 && cz f.fN 0 3)=false then 1 else if f.fN<f.bs then 5
 else if(cz f.dN 1 6 && cz f.bc 1 6)=false then 1 else if(6:Int)<f.ao.length then 6 else jh (fJ f.roads.length) f.ao
def Es  n  (l:Wz)  i   h :jV n (l.drop i)=if nB n l[i]=0 then jV n (l.drop (i+1))else nB n l[i]:=by rw[K5 h,jV]
structure Fr.Fits(f:Fr):Prop where
 ao:f.ao.length<1152921504606846976
 roads:f.roads.length<1152921504606846976
 row:∀r∈f.roads,r.length<1152921504606846976
 marks:∀e∈f.ao,e.marks.length<1152921504606846976
def ow(i:Int):RQ->HK
 |[],_=>-1
 |x::l,v=>if x=v then i else ow (i+1) l v
def rN(l:RQ)(v:Int):Int:=ow 0 l v
def GH(l:RQ)  v   i   h   c :ow c (l.drop i) v=if l[i]=v then c else ow (c+1) (l.drop (i+1)) v:=by rw[K5 h,ow]
def Et  v :∀  l   i ,0<=i->(0<=ow i l v↔v∈l)
 |[],i,h=>by simp[ow]
 | x::l,i,h=>by
   unfold ow;split
   . simp_all
   . next e=>rw[Et v l (i+1) ac];grind
def sk  l   v :0<=rN l v↔v∈l:=Et v l 0 (FJ _)
def lg(f:Fr)(e:vU):RQ:=if e.ma≠0 then(List.range (f.fN-f.bs+1).toNat).map λi:Nat=>e.bY-f.fN+(i:Int)else[]
def cD(f:Fr)(e:vU):RQ:=if e.ma≠1/\e.bY∉lg f e then lg f e++[e.bY]else lg f e
def mY(first:RQ)(others:Wz):RQ:=first.filter λx=>others.all λl=>decide (x∈l)
def aU(f:Fr)(i:Int):vU:=f.ao.getD i.toNat ⟨0,0,0,[],0,0⟩
def fM(f:Fr)(l:RQ):RQ:=match l.map λi=>cD f (aU f i)with|[]=>[]|a::r=>mY a r
def QW(a b:Int):Int:=IntKind.u8.wrap (((BitVec.ofInt 8 a|||BitVec.ofInt 8 b).toNat:Nat):Int)
def KG(a b:Int):Int:=IntKind.u8.wrap (((BitVec.ofInt 8 a &&& BitVec.ofInt 8 b).toNat:Nat):Int)
def Eu(a b:Int):Int:=IntKind.u8.wrap (((BitVec.ofInt 8 a ^^^ BitVec.ofInt 8 b).toNat:Nat):Int)
def Ze(a b:Int):Int:=IntKind.u8.wrap (a-b)
def Ab  a b :vQ .or .u8 a b=some (.int .u8 (QW a b)):=rfl
def Br  a b :vQ .and .u8 a b=some (.int .u8 (KG a b)):=rfl
def aap  a b :vQ .xor .u8 a b=some (.int .u8 (Eu a b)):=rfl
def aai  a b :vQ .sub .u8 a b=some (.int .u8 (Ze a b)):=rfl
def cM(m n:Int):Int:=QW m (IntKind.u8.wrap (2 ^ min n.toNat IntKind.u8.bits))
def kU(m n:Int):Bool:=KG (m.fdiv (2 ^ min n.toNat IntKind.u8.bits)) 1==1
def aB(m:Int):RQ:=((List.range 6).map λn:Nat=>(n:Int)).filter λn=>kU m n
def bh(l:RQ):Int:=l.foldl cM 0
end
section
open Go.bu Go.Conc
variable{m:Mo}{σ:af}{KF:YC}
def iO{a lo hi}(h:KF (.val (T0 (cz a lo hi))) σ):ar prog m 154 [Xn a,Xn lo,Xn hi] σ KF:=by
 unfold cz at h;refine S0 [] func154 ?_;simp;refine xj.intro (λb=>?_) (λb=>?_)<;>simp[b]
 . exact .done am
 . exact .done am
@[simp] abbrev MY(σ:af)(p:Env->Prop)(s:St):Prop:=∃e,s=⟨e,σ,[],.no⟩/\p e
def Jx{l v}(j:l.length<1152921504606846976)(h:KF (.val (Xn (rN l v))) σ):ar prog m 102 [Ae l,Xn v] σ KF:=by
 refine S0 [] func102 ?_;simp;refine aa.loop l.length (λk=>MY σ λε=>ε 0=Ae l/\ε 1=Xn v/\ε 7=Xn l.length/\ε 8=Xn k/\ow 0 l v=ow k (l.drop k) v) aq ?_;rintro n k _ o ⟨ε,rfl,e,f,g,d,a⟩ i;apply rn;simp[g,d];apply aM.intro<;>intro b<;>simp at b<;>simp[e,f,d,b]
 . rw[GH l v k b]at a
   refine aM.intro (λc=>?_) (λc=>?_)<;>(try simp at c)<;>(try simp[c]at a)<;>(try simp[d])<;>(try exact .done a)
   . subst c
     unfold rN at h;rw[a]at h;exact .done h
   . refine⟨ac,i _ b ⟨_,rfl,?_,?_,?_,?_,am⟩⟩<;>simp[e,f,g]
 . have:k=l.length:=ac
   subst this;unfold rN at h;rw[a]at h;simp  at h;exact .done h
def nO{l v}(a:l.length<1152921504606846976)(h:KF (.val (T0 (decide (v∈l)))) σ):ar prog m 73 [Ae l,Xn v] σ KF:=by
 refine S0 [] func73 ?_;simp;refine O1 func102 (Jx a ?_);apply rn;simp;rw[<-decide_eq_decide.2 (sk l v)]at h;exact .done h
def Ac{l v}(i:l.length<1152921504606846976)(h:KF (.val (Xn (rN l v))) σ):ar prog m 146 [Ae l,Xn v] σ KF:=by
 refine S0 [] func146 ?_;simp;refine aa.loop l.length (λk=>MY σ λε=>ε 0=Ae l/\ε 1=Xn v/\ε 5=Xn k/\ow 0 l v=ow k (l.drop k) v) ⟨_,rfl,ap⟩ ?_;rintro j k _ n ⟨ε,rfl,c,f,d,a⟩ g;apply rn;simp[c,d];apply aM.intro<;>intro b<;>simp at b<;>simp[c,f,d,b]
 . rw[GH l v k b]at a
   refine aM.intro (λe=>?_) (λe=>?_)<;>(try simp at e)<;>(try simp[e]at a)<;>(try simp[d])<;>(try exact .done a)
   . unfold rN at h
     rw[a]at h;exact .done h
   . refine⟨ac,g _ b ⟨_,rfl,?_,?_,?_,am⟩⟩<;>simp[c,f]
 . have:k=l.length:=ac
   subst this;unfold rN at h;rw[a]at h;simp  at h;exact .done h
def iM{a b}(q:a.length<1152921504606846976)(hb:b.length<1152921504606846976)(h:KF (.val (T0 (decide (a=b)))) σ):ar prog m 28 [Ae a,Ae b] σ KF:=by
 refine S0 afi func28 ?_;simp[f28];refine aa.loop a.length (λk=>MY σ λε=>ε 0=Ae a/\ε 1=Ae b/\ε 5=Xn k/\k<=b.length/\a.take k=b.take k) aq ?_;rintro r k _ t ⟨ε,rfl,d,i,f,n,o⟩ p;apply rn;simp[d,f];refine xj.intro (λc=>?_) (λc=>?_)<;>(try simp[-Nat.not_lt,-Nat.not_le]at c)<;>(try simp[d,i,f,c])
 . refine aM.intro (λg=>?_) (λg=>?_)<;>(try simp[-Nat.not_lt,-Nat.not_le]at g)<;>(try simp[d,i,f,g,c])
   . apply rn
     simp;apply aM.intro<;>intro j<;>simp at j<;>simp[f,j]
     . have:a≠b:=am
       simp[this]at h;exact .done h
     . refine⟨ac,p _ c ⟨_,rfl,?_,?_,?_,ac,abi c g o j⟩⟩<;>simp[d,i]
   . have:a≠b:=am
     have l:((a.length:Int)==b.length)=false:=am
     rw[l];exact .done am
 . by_cases e:a.length=b.length
   . exact .done am
   . have:a≠b:=am
     have l:((a.length:Int)==b.length)=false:=am
     exact .done am
def ajp{l}(b:l.length<=1000000000)(h:∀a σ',cV σ σ' a 1 (l.map Xn)->KF (.val a) σ'):ar prog m 111 [Ae l] σ KF:=by
 refine S0 [] func111 ?_;simp;refine kA Ax rfl rfl rfl bX rfl bX rfl nM be am    (.empty σ 1) (.inl (.inr ⟨_,rfl⟩)) ap λc σ' d=>?_
 apply rn;simp;exact .done am
def Ev{l}(b:l.length<=1000000000)(h:KF (.val (Ae l)) σ):ar prog m 111 [Ae l] σ KF:=(ajp b λa c d=>d.thaw h).thaw
def KI{n}(h:KF (.val (T0 false)) σ):ar prog m 233 [Xn n] σ KF:=by
 refine S0 [] func233 ?_;simp;exact .done h
def Il(x y:Int):Int:=if x<y then -1 else if y<x then 1 else 0
def agb{x y}(h:KF (.val (Xn (Il x y))) σ):ar prog m 215 [Xn x,Xn y] σ KF:=by
 unfold Il at h;refine S0 [] func215 ?_;simp;refine O1 func233 (KI ?_);apply rn;simp;refine O1 func233 (KI ?_);apply rn;simp;refine aM.intro (λa=>?_) (λa=>?_)<;>(try simp[-Int.not_lt]at a)<;>(try simp[a]at h)<;>(try simp)<;>(try exact .done h);refine aM.intro (λb=>?_) (λb=>?_)<;>(try simp[-Int.not_lt]at b)<;>(try simp[b]at h)<;>(try simp)<;>(try exact .done h)
def aiO{e places}(w:0<=places/\places<1152921504606846976)(x:e.marks.length<1152921504606846976)(h:KF (.val (Xn (fJ places e))) σ):ar prog m 155 [bn e,Xn places] σ KF:=by
 unfold fJ at h;refine S0 [] func155 ?_;simp[f155];refine O1 func154 (iO ?_);apply rn;simp;refine aM.intro (λi=>?_) (λi=>?_)<;>(try simp at i)<;>(try simp[i]at h)<;>(try simp[i])<;>(try exact .done h);refine⟨ac,?_⟩;refine O1 func154 (iO ?_);apply rn;simp;refine aM.intro (λj=>?_) (λj=>?_)<;>(try simp at j)<;>(try simp[j]at h)<;>(try simp[j])<;>(try exact .done h);refine O1 func154 (iO ?_);apply rn;simp;refine aM.intro (λl=>?_) (λl=>?_)<;>(try simp at l)<;>(try simp[l]at h)<;>(try simp[l])<;>(try exact .done h);refine aa.loop e.marks.length (λk=>MY σ λε=>ε 2=.cp (bn e) 0/\ε 22=Ae e.marks/\ε 23=Xn e.marks.length/\ε 24=Xn k/\sC none e.marks=sC (if k=0 then none else e.marks[k-1]?) (e.marks.drop k)) ⟨_,rfl,ap⟩ ?_
 rintro y k _ z ⟨ε,rfl,n,f,g,b,a⟩ r;apply rn;simp[g,b];apply aM.intro<;>intro o<;>simp at o<;>simp[n,f,b,o]
 . rw [Oo _ k o]at a
   refine O1 func154 (iO ?_);apply rn;simp;refine aM.intro (λc=>?_) (λc=>?_)<;>(try simp at c)<;>(try simp[c]at a)<;>(try simp[c])<;>(try exact .done a)
   . refine xj.intro (λd=>?_) (λd=>?_)<;>(try simp at d)<;>(try simp[d]at a)<;>(try simp[n,b,d])<;>(try exact .done a)
     . have t:(k:Int)-1=((k-1:Nat):Int):=ac
       have q:k-1<e.marks.length:=ac
       have u:¬k=0:=ac
       simp[t,q];repeat refine⟨ac,?_⟩
       try simp[q,u,ua]at a
       refine aM.intro (λp=>?_) (λp=>?_)<;>(try simp at p)<;>(try simp[p]at a)<;>(try simp[b,p])<;>(try exact .done a)
       . simp[a]at h
         exact .done h
       . refine⟨ac,r _ o ⟨_,rfl,by simp[n],by simp[f],by simp[g],ap,?_⟩⟩
         grind
     . have v:k=0:=ac
       subst v;simp[ua]at a
       simp_all
   . simp[a]at h
     exact .done h
 . have:k=e.marks.length:=ac
   subst this;simp[sC]at a;simp[a]at h;refine O1 func154 (iO ?_);apply rn;simp;refine aM.intro (λc=>?_) (λc=>?_)<;>(try simp at c)<;>(try simp[c]at h)<;>(try simp[n,c])<;>(try exact .done h);refine O1 func154 (iO ?_);apply rn;simp;refine aM.intro (λd=>?_) (λd=>?_)<;>(try simp at d)<;>(try simp[d]at h)<;>(try simp[d])<;>(try exact .done h)
theorem mh{n}:∀{r},jV n r=0->∀l∈r,l.length=n/\∀x∈l,cz x 0 9=true
 |[],_,l,b=>am
 | a :: r,h,l,b=>by
   unfold jV at h;split at h
   . next c=>
     rcases Cv.1 b with rfl|b
     . unfold nB at c
       grind
     . exact mh h l b
   omega
def gL{r i j}  hi  (hj:j<r[i].length):rd r i j=r[i][j]:=by simp[rd,hi,hj]
def dJ{a lo hi}(h:cz a lo hi=true):lo<=a/\a<=hi:=by simpa[cz]using h
def aby{r}(hr:r.length<1152921504606846976)(hl:∀l∈r,l.length<1152921504606846976)(h:KF (.val (Xn (fD r))) σ):ar prog m 153 [Cu r] σ KF:=by
 unfold fD at h;refine S0 ado func153 ?_
 simp[f153];refine aM.intro (λS=>?_) (λS=>?_)<;>simp at S<;>simp[S]
 . rw[wS (show r.length<1 by omega)]at h
   exact .done h
 refine aM.intro (λT=>?_) (λT=>?_)<;>simp at T<;>simp[T]
 . have U:¬r.length<1:=ac
   have O:3<r.length:=ac
   rw[wN (show ¬r.length<1 by omega),wS O]at h
   exact .done h
 have U:¬r.length<1:=ac
 have O:¬3<r.length:=ac
 rw[wN U,wN O]at h;refine aa.loop r.length (λk=>MY σ λε=>ε 0=Cu r/\ε 19=Cu r/\ε 20=Xn r.length/\ε 21=Xn k/\jV r.length r=jV r.length (r.drop k)) aq ?_
 rintro c0 k _ hk ⟨ε,rfl,a,n,o,g,z⟩ P
 apply rn;simp[o,g];apply aM.intro<;>intro G<;>simp at G<;>simp[a,n,g,G]
 . rw [Es _ _ k G]at z
   obtain⟨l,H⟩:=S1 (r[k]);simp only[<-H]at z ⊢;have al:l.length<1152921504606846976:=hl l (by rw[H];exact lb G)
   refine aM.intro (λc=>?_) (λc=>?_)<;>simp at c<;>simp[c]
   . have u:l.length≠r.length:=ac
     simp[nB,u]at z;simp[z]at h;exact .done h
   have u:l.length=r.length:=ac
   refine aa.loop l.length (λj=>MY σ λε=>ε 0=Cu r/\ε 19=Cu r/\ε 20=Xn r.length/\ε 21=Xn k/\ε 30=Ae l/\ε 31=Xn l.length/\ε 32=Xn j/\(l.take j).all (cz · 0 9)=true) ⟨_,rfl,by simp[a,n,o,g,u]⟩ ?_
   clear a n o g
   rintro c1 j _ V ⟨ε,rfl,a,n,o,g,I,J,B,v⟩ C
   apply rn;simp[J,B];apply aM.intro<;>intro p<;>simp at p<;>simp[g,I,B,p]
   . refine O1 func154 (iO ?_)
     apply rn;simp;refine aM.intro (λx=>?_) (λx=>?_)<;>(try simp at x)<;>(try simp[B,x])
     . refine⟨ac,C _ p ⟨_,rfl,by simp[a],by simp[n],by simp[o],by simp[g],by simp[I],by simp[J],ap,?_⟩⟩
       rw[so p,Ma,v];simp[x]
     . have:l.all (cz · 0 9)=false:=by
        rw[List.all_eq_false];exact⟨_,lb p,by simp[x]⟩
       simp[nB,u,this]at z;simp[z]at h;exact .done h
   . have:j=l.length:=ac
     subst this;rw[zH]at v;have W:nB r.length l=0:=by unfold nB;rw[wN (by simp[u]),wS v]
     rw[wS W]at z;refine⟨ac,P _ G ⟨_,rfl,?_,?_,?_,?_,z⟩⟩<;>simp[a,n,o]
 have:k=r.length:=ac
 subst this;simp[jV]at z;rw[wN ac]at h
 clear P;have ad:∀(i:Nat) (X:i<r.length),r[i].length=r.length:=(by grind [mh,List.getElem_mem])
 have K:∀(i:Nat) (X:i<r.length) (j:Nat) (V:j<r[i].length),0<=r[i][j]/\r[i][j]<=9:=λi X j V=>dJ (by grind [mh,List.getElem_mem])
 refine aa.loop r.length (λi=>MY σ λε=>ε 0=Cu r/\ε 41=Cu r/\ε 42=Xn r.length/\ε 43=Xn i/\∀i'<i,∀j<r.length,cS r i' j=false) aq ?_
 clear a n o g
 rintro c1 i _ X ⟨ε,rfl,a,f,d,b,Y⟩ P
 apply rn;simp[d,b];apply aM.intro<;>intro c<;>simp at c<;>simp[a,b,c]
 . refine aa.loop r.length (λj=>MY σ λε=>ε 0=Cu r/\ε 41=Cu r/\ε 42=Xn r.length/\ε 43=Xn i/\ε 8=Xn i/\ε 46=Cu r/\ε 47=Xn r.length/\ε 48=Xn j/\∀D<j,cS r i D=false) ⟨_,rfl,by simp[a,f,d,b]⟩ ?_
   clear a f d b
   rintro c2 j _ V ⟨ε,rfl,a,f,d,b,y,w,t,q,av⟩ C
   apply rn;simp[t,q];apply aM.intro<;>intro p<;>simp at p<;>simp[a,b,y,q,p]
   . have Z : i<r[i].length:=am
     have F:j<r[i].length:=am
     have q3:i<r[j].length:=am
     simp[y,c,Z];refine RR.intro (λx=>?_) (λx=>?_)<;>(try simp at x)<;>(try simp[a,y,x,c,p,F,q3])
     . apply rn
       simp;apply aM.intro<;>intro g8<;>simp at g8<;>simp[a,g8]
       ·
        have hb:cS r i j=true:=by unfold cS;rw[gL c F,gL p q3];simp[g8]
        have:((List.range r.length).any λi=>(List.range r.length).any λj=>cS r i j)=true:=ES.2 ⟨i,wL.2 c,ES.2 ⟨j,wL.2 p,hb⟩⟩
        rw[wS this]at h;exact .done h
       . refine aa.loop r.length (λk=>MY σ λε=>ε 0=Cu r/\ε 41=Cu r/\ε 42=Xn r.length/\ε 43=Xn i/\ε 8=Xn i/\ε 46=Cu r/\ε 47=Xn r.length/\ε 48=Xn j/\ε 9=Xn j/\ε 76=Cu r/\ε 77=Xn r.length/\ε 78=Xn k/\∀L<k,¬rd r i j>rd r i L+rd r L j) ⟨_,rfl,by simp[a,f,d,b,y,w,t,q]⟩ ?_
         clear a f d b y w t q
         rintro c3 k _ hk ⟨ε,rfl,a,f,d,b,y,w,t,q,h9,a7,M,E,a8⟩ a9
         apply rn;simp[M,E];apply aM.intro<;>intro A<;>simp at A<;>simp[a,y,q,E,A]
         . have Q:k<r[i].length:=am
           have R:j<r[k].length:=am
           have b1:=K i c k Q;have b2:=K k A j R;have f1:-9223372036854775808<=r[i][k]+r[k][j]:=ac
           have f2:r[i][k]+r[k][j]<=9223372036854775807:=ac
           simp[a,y,h9,c,A,F,Q,R,f1,f2];apply rn;simp;apply aM.intro<;>intro N<;>simp at N<;>simp[E,N]
           . have hb:cS r i j=true:=by
              unfold cS;have:((List.range r.length).any λk=>decide (rd r i j>rd r i k+rd r k j))=true:=ES.2 ⟨k,wL.2 A,by rw[gL c F,gL c Q,gL A R];grind⟩
              grind
             have:((List.range r.length).any λi=>(List.range r.length).any λj=>cS r i j)=true:=ES.2 ⟨i,wL.2 c,ES.2 ⟨j,wL.2 p,hb⟩⟩
             rw[wS this]at h;exact .done h
           . refine⟨ac,a9 _ A ⟨_,rfl,by simp[a],by simp[f],by simp[d],by simp[b],by simp[y],by simp[w],by simp[t],by simp[q],by simp[h9],by simp[a7],by simp[M],ap,λL ax=>?_⟩⟩
             by_cases e:L=k
             . subst e
               rw[gL c F,gL c Q,gL A R];omega
             . exact a8 L ac
         . have:k=r.length:=ac
           subst this;refine⟨ac,C _ p ⟨_,rfl,by simp[a],by simp[f],by simp[d],by simp[b],by simp[y],by simp[w],by simp[t],ap,λD ab=>?_⟩⟩
           by_cases e:D=j
           . subst e
             unfold cS
             have U:((List.range r.length).any λk=>decide (rd r i D>rd r i k+rd r k D))=false:=by
              rw[Ib]
              grind
             have O:rd r i i=0:=by rw[gL c Z];omega
             have e3:rd r i D=rd r D i:=by rw[gL c F,gL p q3];omega
             grind
           grind
     . have e:(r[i][i] !=0)=true:=am
       simp[e];apply rn;simp
       have hb:cS r i j=true:=by unfold cS;rw[gL c Z];simp[x]
       have:((List.range r.length).any λi=>(List.range r.length).any λj=>cS r i j)=true:=ES.2 ⟨i,wL.2 c,ES.2 ⟨j,wL.2 p,hb⟩⟩
       rw[wS this]at h;exact .done h
   . have:j=r.length:=ac
     subst this;refine⟨ac,P _ c ⟨_,rfl,by simp[a],by simp[f],by simp[d],ap,λi' ay j ab=>?_⟩⟩
     grind
 . have:i=r.length:=ac
   subst this
   have:((List.range r.length).any λi=>(List.range r.length).any λj=>cS r i j)=false:=am
   rw[this]at h;exact .done am
def Ew{f}(g:f.Fits)(h:KF (.val (Xn (check f))) σ):ar prog m 124 [bR f] σ KF:=by
 unfold check at h;have z:=g.roads;have x:=g.ao;refine S0 [] func124 ?_;simp[f124];refine O1 func153 (aby g.roads g.row ?_);apply rn;simp;refine aM.intro (λn=>?_) (λn=>?_)<;>(try simp at n)<;>(try simp[n]at h)<;>(try simp[n])<;>(try exact .done h);refine O1 func154 (iO ?_);apply rn;simp;refine xj.intro (λo=>?_) (λo=>?_)<;>(try simp at o)<;>(try simp[o]at h)<;>(try simp[o])<;>(try exact .done h);refine O1 func154 (iO ?_);apply rn;simp;refine aM.intro (λp=>?_) (λp=>?_)<;>(try simp at p)<;>(try simp[p]at h)<;>(try simp[p])<;>(try exact .done h);refine aM.intro (λq=>?_) (λq=>?_)<;>(try simp[-Int.not_lt,-Int.not_le]at q)<;>(try simp[q]at h)<;>(try simp[q])<;>(try exact .done h)
 refine O1 func154 (iO ?_);apply rn;simp;refine xj.intro (λr=>?_) (λr=>?_)<;>(try simp at r)<;>(try simp[r]at h)<;>(try simp[r])<;>(try exact .done h);refine O1 func154 (iO ?_);apply rn;simp;refine aM.intro (λt=>?_) (λt=>?_)<;>(try simp at t)<;>(try simp[t]at h)<;>(try simp[t])<;>(try exact .done h);refine aM.intro (λu=>?_) (λu=>?_)<;>(try simp[-Int.not_lt,-Int.not_le]at u)<;>(try simp[u]at h)<;>(try simp[u])<;>(try exact .done h);refine aa.loop f.ao.length (λk s=>∃ε a,s=⟨ε,a,[],.no⟩/\σ.Le a/\ε 1=.cp (bR f) 0/\ε 47=kg f.ao/\ε 48=Xn f.ao.length/\ε 49=Xn k/\jh (fJ f.roads.length) f.ao=jh (fJ f.roads.length) (f.ao.drop k)) ⟨_,_,rfl,af.le_refl _,ap⟩ ?_;rintro A k _ B ⟨ε,a,rfl,c,w,i,j,d,e⟩ y;apply rn;simp[j,d];apply aM.intro<;>intro l<;>simp at l<;>simp[i,d,l]
 . rw[B8 _ _ k l]at e
   refine bz.intro λb hb=>?_
   simp[w];refine O1 func155 (aiO ac (g.marks _ (lb l)) ?_);apply rn;simp;refine aM.intro (λv=>?_) (λv=>?_)<;>(try simp at v)<;>(try simp[v]at e)<;>(try simp[d,v])<;>(try exact .done e)
   . rw[e]at h
     exact .less (af.oi c hb) (.done h)
   . refine⟨ac,y _ l ⟨_,_,rfl,af.oi c hb,?_,?_,?_,?_,e⟩⟩<;>simp[w,i,j]
 . have:k=f.ao.length:=ac
   subst this;simp[jh]at e;rw[e]at h;exact .less c (.done h)
structure zo(σ:af)  b mb   σ' :Prop where
 hb:σ b=none
 IS:σ mb=none
 ne:b≠mb
 eq:σ'=(σ.set mb (mapA .u8 [])).set b (.part (dB 6))
def T4(f:Fr)(σ:af):YC:=λr a=>∃b mb,r=.val (.ref b 0)/\σ b=none/\σ mb=none/\b≠mb/\a=(σ.set mb (mapA .u8 [])).set b (.cells [kg f.ao,Cu f.roads,Xn f.bs,Xn f.fN,Xn f.dN,Xn f.bc,.lit (.int .i32 0),.lit (.int .u32 0),.map mb])
def aga{f}(h:∀b mb σ',zo σ b mb σ'->KF (.val (qv b mb f 0)) σ'):ar prog m 156 [bR f] σ KF:=by
 refine ar.share (KF0:=T4 f σ) ?_ ?_
 . refine ar.start Ax [6] [] 1 func156 rfl rfl (by rfl) s8 ?_
   simp;refine BN (OS .u8) rfl λmb IS=>?_
   refine aa.run Ax [6] ?_;simp[aI];refine bz.intro λb hb=>?_
   obtain⟨d,e,hb⟩:=af.bd hb;simp;exact .done ⟨b,mb,rfl,hb,IS,d,rfl⟩
 . rintro r σ' ⟨b,mb,rfl,hb,IS,a,rfl⟩
   refine .inr ⟨b,_,[6,7],dB 6,rfl,af.aj _ _ _,λi v c=>?_,λi=>?_,?_⟩
   . unfold dB at c
     split at c
     . grind
     simp_all
   . unfold dB
     grind
   . exact h b mb _ ⟨hb,IS,a,ap⟩
def mn(f:Fr)(l:RQ):Int:=if check f≠0 then check f else if l.all (cz · 0 (f.ao.length-1))then 0 else 3
def HG{f l}(o:f.Fits)(t:l.length<1152921504606846976)(i:mn f l≠0->KF (.val (.cx [.lit (.pointer none),Xn (mn f l)])) σ)
 (u:mn f l=0->∀b mb σ',zo σ b mb σ'->KF (.val (.cx [qv b mb f 0,Xn 0])) σ'):ar prog m 125 [bR f,Ae l] σ KF:=by
 have q:=o.ao;refine S0 [] func125 ?_
 simp[f125];refine O1 func124 (Ew o ?_);apply rn;simp;refine aM.intro (λh=>?_) (λh=>?_)<;>simp at h<;>simp[h]
 . have:mn f l=check f:=by unfold mn;omega
   rw[this]at i;exact .done (i h)
 refine aa.loop l.length (λk=>MY σ λε=>ε 2=.cp (bR f) 0/\ε 14=Ae l/\ε 15=Xn l.length/\ε 16=Xn k/\(l.take k).all (cz · 0 (f.ao.length-1))=true) aq ?_
 rintro v k _ w ⟨ε,rfl,p,c,d,a,g⟩ r
 apply rn;simp[d,a];apply aM.intro<;>intro j<;>simp at j<;>simp[p,c,a,j]
 . refine⟨ac,?_⟩
   refine O1 func154 (iO ?_);apply rn;simp;refine aM.intro (λn=>?_) (λn=>?_)<;>(try simp at n)<;>(try simp[a,n])
   . refine⟨ac,r _ j ⟨_,rfl,by simp[p],by simp[c],by simp[d],ap,?_⟩⟩
     grind [List.take_succ_eq_append_getElem]
   . have e:l.all (cz · 0 (f.ao.length-1))=false:=by
      grind
     have:mn f l=3:=by unfold mn;grind
     rw[this]at i;exact .done am
 . have:k=l.length:=ac
   subst this;rw[zH]at g;have:mn f l=0:=by unfold mn;grind
   refine O1 func156 (aga λb mb σ' x=>?_)
   apply rn;simp;exact .done am
def YT{a}(h:KF (.val (T0 false)) σ):ar prog m 123 [.lit .nilIface,a] σ KF:=by
 refine S0 [] func123 ?_;simp;refine dP Ax rfl zq rfl (.inl ⟨rfl,rfl⟩) (.inl ⟨rfl,rfl⟩) ?_;apply rn;simp;exact .done h
end
open Go.bu Go.Conc
set_option maxRecDepth 4000
variable{m:Mo}{σ:af}{KF:YC}
def ye(first:RQ)  others   k   h :mY (first.take (k+1)) others=mY (first.take k) others++if others.all (λl=>decide (first[k]∈l))then[first[k]]else[]:=by
 unfold mY
 grind [List.take_succ_eq_append_getElem]
def akR  first   others :(mY first others).length<=first.length:=Rp _ _
def aae{first others sp f}(B:first.length<=1000000000)(C:others.length<1152921504606846976)(z:∀l∈others,l.length<1152921504606846976)(h:KF (.val (Ae (mY first others))) σ):ar prog m 286 [.sl 1 (first.map Xn) sp,.sl 1 (others.map Ae) f] σ KF:=by
 refine S0 [] func286 ?_;simp[f286];refine aa.loop first.length (λk s=>∃ε e,s=⟨ε,e,[],.no⟩/\ε 0=.sl 1 (first.map Xn) sp/\ε 1=.sl 1 (others.map Ae) f/\ε 10=.sl 1 (first.map Xn) sp/\ε 11=Xn first.length/\ε 12=Xn k/\Tok σ e (ε 5) 1 ((mY (first.take k) others).map Xn)) ⟨_,_,rfl,ap,ap,ap,ap,ap,.nil σ 1⟩ ?_
 rintro D k _ E ⟨ε,e,rfl,n,g,c,d,b,a⟩ w;apply rn;simp[d,b];have hlen:=akR (first.take k) others;rw[HX]at hlen;apply aM.intro<;>intro o<;>simp at o<;>simp[g,c,b,o]
 . refine aa.loop others.length (λj s=>∃ε,s=⟨ε,e,[],.no⟩/\ε 0=.sl 1 (first.map Xn) sp/\ε 1=.sl 1 (others.map Ae) f/\ε 10=.sl 1 (first.map Xn) sp/\ε 11=Xn first.length/\ε 12=Xn k/\Tok σ e (ε 5) 1 ((mY (first.take k) others).map Xn)/\ε 7=Xn first[k]/\ε 16=.sl 1 (others.map Ae) f/\ε 17=Xn others.length/\ε 18=Xn j/\∀l∈others.take j,first[k]∈l) ⟨_,rfl,by simp[n,g,c,d,b,a]⟩ ?_
   clear n g c d b a;rintro F j _ G ⟨ε,rfl,n,g,c,d,b,a,x,p,q,i,r⟩ t;apply rn;simp[q,i];apply aM.intro<;>intro u<;>simp at u<;>simp[x,p,i,u]
   . refine O1 func73 (nO am ?_)
     apply rn;simp;apply aM.intro<;>intro y<;>simp at y<;>simp[b,i,y]
     . refine⟨ac,t _ u ⟨_,rfl,by simp[n],by simp[g],by simp[c],by simp[d],by simp[b],by simpa using a,by simp[x],by simp[p],by simp[q],ap,λl z=>?_⟩⟩
       grind [List.take_succ_eq_append_getElem,List.mem_singleton]
     . refine⟨ac,w _ o ⟨_,_,rfl,by simp[n],by simp[g],by simp[c],by simp[d],ap,?_⟩⟩
       have:others.all (λl=>decide (first[k]∈l))=false:=am
       rw[ye _ _ _ o,this];simpa using a
   . have:j=others.length:=ac
     subst this;rw[zH]at r;refine aP Ax rfl rfl rfl bX rfl bX rfl nM be am (σ0:=σ) (es:=(mY (first.take k) others).map Xn) (xs:=[Xn first[k]]) (by simpa using a) (.inr ⟨_,rfl⟩) λH A v=>?_
     apply rn;simp[b];refine⟨ac,w _ o ⟨_,_,rfl,by simp[n],by simp[g],by simp[c],by simp[d],ap,?_⟩⟩;have:others.all (λl=>decide (first[k]∈l))=true:=am
     rw[ye _ _ _ o,this];simpa using v
 . have:k=first.length:=ac
   subst this;rw[zH]at a;exact .dp a.W (.less a.1 (.done h))
structure Fr.Good(f:Fr):Prop where
 fits:f.Fits
 fr:0<=f.bs/\f.bs<=3
 to:0<=f.fN/\f.fN<=3
 le:f.bs<=f.fN
 dN:1<=f.dN/\f.dN<=6
 bc:1<=f.bc/\f.bc<=6
 jo:f.ao.length<=6
 pS:∀e∈f.ao,fJ f.roads.length e=0
 HH:fD f.roads=0
def yf  g :∀{l},jh g l=0->∀e∈l,g e=0
 |[],_,e,he=>am
 | a ::l,h,e,he=>by
   unfold jh at h;split at h
   . next b=>
     rcases Cv.1 he with rfl|he
     . omega
     . exact yf g h e he
   omega
theorem Fr.wA{f}(c:f.Fits)(h:check f=0):f.Good:=by
 unfold check at h;split at h
 . omega
 next d=>
 split at h
 . cases h
 next a=>
 split at h
 . cases h
 next e=>
 split at h
 . cases h
 next b=>
 split at h
 . cases h
 next g=>
 simp  [Bool.not_eq_false]at a b;exact⟨c,dJ a.1,dJ a.2,ac,dJ b.1,dJ b.2,ac,yf _ h,ac⟩
def lf{p e}(h:fJ p e=0):(0<=e.hour/\e.hour<=72)/\(0<=e.place/\e.place<=p-1)/\(0<=e.di/\e.di<=5)/\(0<=e.bY/\e.bY<=30)/\(0<=e.ma/\e.ma<=2)/\sC none e.marks=0:=by
 unfold fJ at h;split at h
 . cases h
 next a=>
 split at h
 . cases h
 next b=>
 split at h
 . cases h
 next c=>
 split at h
 . omega
 next g=>
 split at h
 . cases h
 next d=>
 split at h
 . cases h
 next f=>
 simp   at a b c d f;exact⟨dJ a,dJ b,dJ c,dJ d,dJ f,ac⟩
theorem GJ{f}(a:f.Good)  e :(lg f e).length<=4:=by
 unfold lg;have:=a.fr;have:=a.to
 grind
theorem GK{f}(a:f.Good)  e :(cD f e).length<=5:=by
 unfold cD
 grind [GJ]
def KJ{f e}(h:e.ma≠0):lg f e=(List.range (f.fN-f.bs+1).toNat).map λi:Nat=>e.bY-f.fN+(i:Int):=wS h
def afR{b mb f l}(H:f.Good)(X:l≠[])(hl:l.length<=1000000)(hb:∀n∈l,0<=n/\n<f.ao.length)(h:KF (.val (Ae (fM f l))) σ):ar prog m 285 [qv b mb f 0,Ae l] σ KF:=by
 have h6:=H.jo;have a9:=H.fr;have ab:=H.to;have ad:=H.le;refine S0 adD func285 ?_
 simp[f285];refine aa.loop l.length (λk s=>∃ε A,s=⟨ε,A,[],.no⟩/\ε 0=qv b mb f 0/\ε 11=Ae l/\ε 12=Xn l.length/\ε 13=Xn k/\Tok σ A (ε 5) 1 ((l.take k).map λn=>Ae (cD f (aU f n)))) ⟨_,_,rfl,ap,ap,ap,ap,.nil σ 1⟩ ?_
 rintro c0 k _ hk ⟨ε,A,rfl,C,p,g,o,d⟩ S
 rcases za k l.length with g1|g1
 . obtain ⟨L,n1⟩:=hb _ (lb g1)
   have n2:l[k].toNat<f.ao.length:=ac
   obtain⟨e,he⟩:=S1 (f.ao[l[k].toNat]);have al:aU f l[k]=e:=by simp[aU,sg,n2,he]
   have av:=lf (H.pS e am)
   have t:(l.take (k+1)).map (λn=>Ae (cD f (aU f n)))=(l.take k).map (λn=>Ae (cD f (aU f n)))++[Ae (cD f e)]:=by grind [List.take_succ_eq_append_getElem]
   apply rn;simp[C,p,g,o,g1,L,n2,<-he];refine bz.intro λc hc=>?_
   simp
   have Y:σ c=none:=by
    cases q:σ c with
    |none=>rfl
    |some x=>rw[d.1 c x q]at hc;omega
   have B:Tok σ (A.set c (.cells [Xn e.hour,Xn e.place,Xn e.di,Ae e.marks,Xn e.bY,Xn e.ma])) (ε 5) 1 ((l.take k).map λn=>Ae (cD f (aU f n))):=d.beside Y (λq=>by obtain⟨_,x,hx⟩:=d.bH q;grind)
   have F:(A.set c (.cells [Xn e.hour,Xn e.place,Xn e.di,Ae e.marks,Xn e.bY,Xn e.ma])) c=some (.cells [Xn e.hour,Xn e.place,Xn e.di,Ae e.marks,Xn e.bY,Xn e.ma]):=af.aj _ _ _;generalize A.set c (.cells [Xn e.hour,Xn e.place,Xn e.di,Ae e.marks,Xn e.bY,Xn e.ma])=G at B F;refine aM.intro (λM=>?_) (λM=>?_)<;>simp at M<;>simp[M]
   . have f1:=M1 (f.fN-f.bs)
     have f2:=M1 (f.fN-f.bs+1)
     simp[C,f1.1,f1.2,f2.1,f2.2];apply rn;simp;obtain⟨a5,I⟩:=S1 (ε 5);rw[<-I]at B;obtain⟨cnt,O⟩:∃cnt:Nat,(cnt:Int)=f.fN-f.bs+1:=am
     have ax:cnt<=4:=ac
     have Z:lg f e=(List.range cnt).map λi:Nat=>e.bY-f.fN+(i:Int):=by rw[KJ M];grind
     refine aa.loop cnt (λj s=>∃ε J,s=⟨ε,J,[],.no⟩/\ε 0=qv b mb f 0/\ε 11=Ae l/\ε 12=Xn l.length/\ε 13=Xn k/\ε 5=a5/\ε 8=.ref c 0/\ε 41=Xn cnt/\ε 42=Xn j/\Tok G J (ε 9) 1 (((List.range j).map λi:Nat=>e.bY-f.fN+(i:Int)).map Xn)) ⟨_,_,rfl,by simp[C,p,g,o,<-I,O,Tok.nil]⟩ ?_
     clear C p g o d I
     rintro c1 j _ hj ⟨ε,J,rfl,C,p,g,o,T,N,D,E,u⟩ a7
     have v:=u.1 _ _ F
     rcases za j cnt with g3|g3
     . have f3:=M1 (e.bY-f.fN)
       have f4:=M1 (e.bY-f.fN+j)
       apply rn;simp[C,N,D,E,g3,v,f3.1,f3.2,f4.1,f4.2];refine aP Ax rfl rfl rfl bX rfl bX rfl nM be (by simp only[zD,L2,Ds,Dv];omega) (σ0:=G) (es:=((List.range j).map λi:Nat=>e.bY-f.fN+(i:Int)).map Xn) (xs:=[Xn (e.bY-f.fN+j)]) (by simpa using u) (.inr ⟨_,rfl⟩) λa' P w=>?_
       apply pg;simp;apply rn;simp[E];refine⟨ac,a7 _ g3 ⟨_,_,rfl,by simp[C],by simp[p],by simp[g],by simp[o],by simp[T],by simp[N],by simp[D],ap,?_⟩⟩
       rw[zU,DL,DL];simpa using w
     . have:j=cnt:=ac
       subst this;rw[<-Z]at u;have ay:=GJ H e;have U:Wl [ε 9,Xn e.bY] [Ae (lg f e),Xn e.bY]:=.cons u.W (.cons (.refl _) .nil)
       by_cases g4:e.ma=1
       . refine aa.Fs 9 u.W ?_
         have y:cD f e=lg f e:=wN λq=>q.1 g4
         apply rn;simp[T,N,D,E,v,g4];refine aP Ax rfl rfl rfl sA rfl sA rfl bX be am (σ0:=σ) (es:=(l.take k).map λn=>Ae (cD f (aU f n))) (xs:=[Ae (cD f e)]) (by simpa using B.up u.1) (.inr ⟨_,by rw[y];simp;rfl⟩) λa4 K z=>?_
         apply rn;simp[o];refine⟨ac,S _ g1 ⟨_,_,rfl,by simp[C],by simp[p],by simp[g],ap,?_⟩⟩
         rw[t];simpa using z
       . have Q:(e.ma !=1)=true:=am
         by_cases V:e.bY∈lg f e
         . have y:cD f e=lg f e:=wN λq=>q.2 V
           apply rn;simp[N,D,E,v,Q];refine bp func73 rfl rfl U (nO ac ?_)
           refine aa.Fs 9 (a':=Ae (lg f e)) (by simpa using u.W) ?_
           apply rn;simp[T,V];refine aP Ax rfl rfl rfl sA rfl sA rfl bX be am (σ0:=σ) (es:=(l.take k).map λn=>Ae (cD f (aU f n))) (xs:=[Ae (cD f e)]) (by simpa using B.up u.1) (.inr ⟨_,by rw[y];simp;rfl⟩) λa4 K z=>?_
           apply rn;simp[o];refine⟨ac,S _ g1 ⟨_,_,rfl,by simp[C],by simp[p],by simp[g],ap,?_⟩⟩
           rw[t];simpa using z
         . have y:cD f e=lg f e++[e.bY]:=wS ⟨g4,V⟩
           apply rn;simp[N,D,E,v,Q];refine bp func73 rfl rfl U (nO ac ?_)
           apply rn;simp[N,V,v];refine aP Ax rfl rfl rfl bX rfl bX rfl nM be F2 (σ0:=G) (es:=(lg f e).map Xn) (xs:=[Xn e.bY]) (by simpa using u) (.inr ⟨_,rfl⟩) λa' P w=>?_
           refine aa.Fs 74 (a':=AV.sl 1 ((lg f e).map Xn++[Xn e.bY]) .any) (by simpa using w.W) ?_
           apply rn;simp[T];refine aP Ax rfl rfl rfl sA rfl sA rfl bX be F2 (σ0:=σ) (es:=(l.take k).map λn=>Ae (cD f (aU f n))) (xs:=[Ae (cD f e)]) (by simpa using B.up w.1) (.inr ⟨_,by rw[y];simp;rfl⟩) λa4 K z=>?_
           apply rn;simp[o];refine⟨ac,S _ g1 ⟨_,_,rfl,by simp[C],by simp[p],by simp[g],ap,?_⟩⟩
           rw[t];simpa using z
   . have y:cD f e=[e.bY]:=by
      simp[cD,lg,M]
     simp[F,M];have U:Wl [AV.lit (.slice none 0 0),Xn e.bY] [Ae [],Xn e.bY]:=.cons (bK 1) (.cons (.refl _) .nil);refine bp func73 rfl rfl U (nO ap ?_)
     apply rn;simp[F];refine aP Ax rfl rfl rfl bX rfl bX rfl nM be ap (σ0:=G) (es:=[]) (xs:=[Xn e.bY]) (by simp[Tok.nil]) (.inr ⟨_,rfl⟩) λa' P w=>?_
     refine aa.Fs 74 (a':=AV.sl 1 [Xn e.bY] .any) (by simpa using w.W) ?_
     apply rn;simp;refine aP Ax rfl rfl rfl sA rfl sA rfl bX be am (σ0:=σ) (es:=(l.take k).map λn=>Ae (cD f (aU f n))) (xs:=[Ae (cD f e)]) (by simpa using B.up w.1) (.inr ⟨_,by rw[y];simp;rfl⟩) λa4 K z=>?_
     apply rn;simp[o];refine⟨ac,S _ g1 ⟨_,_,rfl,by simp[C],by simp[p],by simp[g],ap,?_⟩⟩
     rw[t];simpa using z
 . have:k=l.length:=ac
   subst this;rw[zH]at d;refine aa.Fs 5 d.W ?_;have R:0<l.length:=JC.2 X;apply rn;simp[g,o,R];refine uP Ax rfl sA rfl bX (es:=l.map λn=>Ae (cD f (aU f n))) (sp:=.any) (l:=1) (h:=l.length) ?_ (λcap a8=>⟨rfl,⟨rfl,ap⟩,⟨_,rfl⟩,ac⟩) ap ?_
   . simp
   obtain⟨L,r,rfl⟩:∃L r,l=L::r:=by
    cases l with
    |nil=>grind
    |cons a r=>grind
   apply pg;simp
   have e:List.take r.length (List.map (λn=>Ae (cD f (aU f n))) r)=(r.map λn=>cD f (aU f n)).map Ae:=by simp_all [IL]
   rw[e];have hlen:=GK H (aU f L);refine O1 func286 (aae (first:=cD f (aU f L)) (others:=r.map λn=>cD f (aU f n)) ac am (λx hx=>?_) ?_)
   . grind [GK]
   apply pg;simp;apply rn;simp;refine .less d.1 (.done ?_);simpa[fM]using h
def BT{f}(h:check f=0):mn f []=0:=by unfold mn;grind
def afK{f}{l:RQ}(h:check f=0)(a:∀n∈l,0<=n/\n<f.ao.length):mn f l=0:=by
 unfold mn;rw[wN (by simp[h]),wS];rw[LF];intro n b;have:=a n b;simp[cz];omega
def zo.le{σ σ' b mb}(h:zo σ b mb σ'):σ.Le σ':=by rw[h.eq];exact af.oi (af.oi (af.le_refl _) h.IS) (by rw[af.ah _ _ h.ne];exact h.hb)
def aiV{a n}(b:0<=n)(h:KF (.val (u8 (cM a n))) σ):ar prog m 290 [u8 a,Xn n] σ KF:=by
 refine S0 [] func290 ?_;simp;refine⟨b,?_⟩;simp[Ab];exact .done h
def vv{l}(j:l.length<1152921504606846976)(o:∀n∈l,0<=n)(h:KF (.val (u8 (bh l))) σ):ar prog m 288 [Ae l] σ KF:=by
 refine S0 [] func288 ?_;simp[f288];refine aa.loop l.length (λk=>MY σ λε=>ε 3=u8 (bh (l.take k))/\ε 4=.fn (.func 290) [u8 (bh (l.take k))] []/\ε 9=Ae l/\ε 10=Xn l.length/\ε 11=Xn k) ⟨_,rfl,by simp[bh]⟩ ?_;rintro p k _ q ⟨ε,rfl,d,f,g,b,a⟩ i;apply rn;simp[b,a];apply aM.intro<;>intro c<;>simp at c<;>simp[d,f,g,a,c]
 . have e:bh (l.take (k+1))=cM (bh (l.take k)) l[k]:=by
    unfold bh;grind [List.take_succ_eq_append_getElem]
   refine fS func290 rfl rfl rfl (aiV aq ?_);apply rn;simp[a];exact⟨ac,i _ c ⟨_,rfl,aq⟩⟩
 . have:k=l.length:=ac
   subst this;rw[zH];exact .done h
def Ip(x:Int):Int:=KG x (Ze x 1)
def Ad:Nat->HK
 |0,x=>x
 |n+1,x=>Ip (Ad n x)
def P9:Nat->HK
 |0,_=>0
 |n+1,x=>if x=0 then 0 else 1+P9 n (Ip x)
def cj(a b:Int):Int:=P9 8 (Eu a b)
def Ey{a b}(l:Ad 8 (Eu a b)=0)(h:KF (.val (Xn (cj a b))) σ):ar prog m 289 [u8 a,u8 b] σ KF:=by
 refine S0 [] func289 ?_;simp[aap];refine aa.loop 8 (λk=>MY σ λε=>ε 5=Xn k/\ε 6=u8 (Ad k (Eu a b))/\cj a b=k+P9 (8-k) (Ad k (Eu a b))) ⟨_,rfl,ap,by rfl,by simp[Ad,cj]⟩ ?_;rintro n k _ o ⟨ε,rfl,f,c,g⟩ i;apply rn;simp[c];apply aM.intro<;>intro d<;>simp at d<;>simp[f,c]
 . have j:k<8:=by
    grind
   refine⟨ac,?_⟩;simp[Br,aai];refine i _ j ⟨_,rfl,ap,by simp[Ad,Ip],?_⟩;have e:8-k=(8-(k+1))+1:=ac
   rw[e,P9,wN d]at g;simp only[Ad];omega
 . have e:P9 (8-k) 0=0:=by cases 8-k<;>simp[P9]
   exact .done am
abbrev Ez(x:Int):AV:=.agg [u8 x]
def XW{x n}(a:0<=n)(h:KF (.val (Ez (cM x n))) σ):ar prog m 193 [Ez x,Xn n] σ KF:=by
 refine ar.start Ax [2] adr 2 func193 rfl rfl (by rfl) s8 ?_;simp;refine bz.intro λc f=>?_
 simp;refine bz.intro λd hd=>?_
 obtain⟨b,e,hd⟩:=af.bd hd;simp[e,af.ah,Ab,a];refine aa.run Ax [2] ?_;simp[b,af.ah];exact .less (by grind [af.le_refl,af.bZ]) (.done h)
def T5{x}(h:KF (.val (Ae (aB x))) σ):ar prog m 217 [Ez x] σ KF:=by
 refine S0 [] func217 ?_;simp[f217];refine aa.loop 6 (λk s=>∃ε b,s=⟨ε,b,[],.no⟩/\ε 1=.cp (Ez x) 0/\ε 5=Xn k/\Tok σ b (ε 3) 1 ((((List.range k).map λn:Nat=>(n:Int)).filter λn=>kU x n).map Xn)) ⟨_,_,rfl,ap,ap,.nil σ 1⟩ ?_;rintro l k _ o ⟨ε,b,rfl,d,c,a⟩ f;rcases za k 6 with g1|g1
 . have e:(k:Int)<6:=ac
   have p:(((List.range k).map λn:Nat=>(n:Int)).filter λn=>kU x n).length<=k:=am
   have q:(((List.range (k+1)).map λn:Nat=>(n:Int)).filter λn=>kU x n)=(((List.range k).map λn:Nat=>(n:Int)).filter λn=>kU x n)++if kU x k then[(k:Int)]else[]:=by grind [List.range_succ]
   apply rn;simp[d,c,e,Br];have g:kU x k=(KG (x.fdiv (2 ^ min k IntKind.u8.bits)) 1==1):=by simp[kU]
   rw[<-g];cases hb:kU x k
   . simp[c]
     refine⟨ac,f _ g1 ⟨_,_,rfl,by simp[d],ap,?_⟩⟩
     simp_all
   . simp
     refine aP Ax rfl rfl rfl bX rfl bX rfl nM be am (σ0:=σ) (es:=(((List.range k).map λn:Nat=>(n:Int)).filter λn=>kU x n).map Xn) (xs:=[Xn k]) aq (.inr ⟨_,rfl⟩) λr i j=>?_
     apply rn;simp[c];refine⟨ac,f _ g1 ⟨_,_,rfl,by simp[d],ap,?_⟩⟩
     simp_all
 . have:k=6:=ac
   subst this;apply rn;simp[c];exact .dp a.W (.less a.1 (.done h))
def dZ(a b:Int):Int:=if 0<a/\a<b then 3 else if a=b then 1 else 2
def rUc{a b}(h:KF (.val (Xn (dZ a b))) σ):ar prog m 230 [Xn a,Xn b] σ KF:=by
 unfold dZ at h;refine S0 [] func230 ?_;simp;refine xj.intro (λd=>?_) (λd=>?_)<;>(try simp[-Int.not_lt]at d)<;>(try simp[d]at h)<;>(try simp[d])<;>(try exact .done h)
 . refine aM.intro (λe=>?_) (λe=>?_)<;>(try simp[-Int.not_lt]at e)<;>(try simp[e]at h)<;>(try simp)<;>(try exact .done h)
   . apply aM.intro<;>intro c<;>simp at c<;>simp
     . omega
     . exact .done h
   . refine aM.intro (λc=>?_) (λc=>?_)<;>(try simp at c)<;>(try simp[c]at h)<;>(try simp)<;>(try exact .done h)
 . refine aM.intro (λc=>?_) (λc=>?_)<;>(try simp at c)<;>(try simp[c]at h)<;>(try simp)<;>(try exact .done h)
def Gm{l}(b:l≠[])(c:l.length<=1000000000)(h:∀a σ',cV σ σ' a 1 (l.map Xn)->KF (.val a) σ'):ar prog m 99 [Ae l] σ KF:=by
 refine S0 [] func99 ?_;simp;refine acj Ax rfl bX rfl rfl (.inr (.inl ⟨rfl,aq,rfl⟩)) (.inl ⟨rfl,rfl⟩) ?_;apply rn;simp;refine kA Ax rfl rfl rfl bX rfl bX rfl nM be am    (.empty σ 1) (.inl (.inr ⟨_,rfl⟩)) ap λd σ' e=>?_
 apply rn;simp;exact .done am
def cI(lt:Int->Int->Bool)(x:Int):RQ->RQ
 |[]=>[x]
 |y::r=>if lt x y then y::cI lt x r else x::y::r
def gX(lt:Int->Int->Bool)(l:RQ):RQ:=l.foldl (λr x=>cI lt x r) []
theorem KL  lt   x :∀r,(cI lt x r).length=r.length+1
 |[]=>rfl
 |y::r=>by unfold cI;split<;>simp[KL lt x r]
theorem pz  lt   l :(gX lt l).length=l.length:=by
 have key:∀(l r:RQ),(l.foldl (λr x=>cI lt x r) r).length=r.length+l.length:=by
  intro l;induction l with
  |nil=>grind
  |cons a l b=>grind [KL]
 rw[gX,key];simp
theorem KM  lt   x :∀  r   y ,y∈cI lt x r↔y=x\/y∈r
 |[],y=>by simp[cI]
 | z ::r,y=>by
   unfold cI;split
   . rw[Cv,KM lt x r y,Cv]
     grind
   . simp
theorem xE  lt   l   y :y∈gX lt l↔y∈l:=by
 have key:∀(l r:RQ),y∈l.foldl (λr x=>cI lt x r) r↔y∈r\/y∈l:=by
  intro l;induction l with
  |nil=>grind
  |cons a l b=>grind [KM]
 rw[gX,key];simp
def KN(m:Mo)(y:AV)(c:Int->HK)(In:Int->Prop):Prop:=∀(a b:Int) (σ:af) (KF:YC),In a->In b->KF (.val (Xn (c a b))) σ->cQ prog m y [Xn a,Xn b] σ KF
def QT{α:Type}{A B}{x y:α}{n}(a:A.length=n):(A++y::x::B)[n]?=some y/\(A++y::x::B)[n+1]?=some x/\((A++y::x::B).set n x).set (n+1) y=A++x::y::B/\((A++y::x::B).set (n+1) y).set n x=A++x::y::B:=aq
def goL{y c In l b cap μ}(R:KN m y c In)(Z:∀x∈l,In x)(hl:l.length<=1000000)(hb:σ b=some (.cells (l.map Xn++μ)))
 (h:KF (.val (.cx [])) (σ.set b (.cells ((gX (λa b=>decide (c a b<0)) l).reverse.map Xn++μ)))):ar prog m 241 [.mJ b 0 l.length cap,Xn 0,Xn l.length,y] σ KF:=by
 refine S0 adB func241 ?_
 simp[f241];obtain⟨lt,D⟩:=S1 (λa b=>decide (c a b<0))
 rw[<-D]at h;refine aa.loop l.length (λi s=>∃ε g,s=⟨ε,g,[],.no⟩/\ε 0=.mJ b 0 l.length cap/\ε 1=Xn 0/\ε 2=Xn l.length/\ε 3=y/\ε 8=Xn ((i:Int)+1)/\g=σ.set b (.cells ((gX lt (l.take (i+1))).reverse.map Xn++((l.drop (i+1)).map Xn++μ)))) ⟨_,_,rfl,ap,ap,ap,ap,ap,?_⟩ ?_
 . have e:(gX lt (l.take 1)).reverse.map Xn++((l.drop 1).map Xn++μ)=l.map Xn++μ:=by
    cases l with
    |nil=>simp[gX]
    |cons a l=>simp[gX,cI]
   rw[e]
   funext d
   by_cases q:d=b
   . simp_all
   grind [af.ah]
 rintro c0 i _ hi ⟨ε,g,rfl,t,u,v,E,w,j⟩ T
 rcases za (i+1) l.length with g1|g1
 . have N:(i:Int)+1<l.length:=ac
   obtain⟨S,U⟩:=S1 (gX lt (l.take (i+1)));have O:S.length=i+1:=by grind [pz,List.length_take]
   have a7:∀x∈S,In x:=(by grind [List.mem_of_mem_take,xE])
   have F:gX lt (l.take (i+1+1))=cI lt l[i+1] S:=by rw[U,gX,so g1,ET];rfl
   obtain⟨x,hx⟩:=S1 (l[i+1]);have J:In x:=am
   have P:l.drop (i+1)=x::l.drop (i+2):=by grind [List.drop_eq_getElem_cons]
   rw[<-U,P]at j;rw[<-hx]at F;apply rn;simp[v,w,N]
   refine aa.loop (i+1) (λk s=>∃ε g r f,s=⟨ε,g,[],.no⟩/\ε 0=.mJ b 0 l.length cap/\ε 1=Xn 0/\ε 2=Xn l.length/\ε 3=y/\ε 8=Xn ((i:Int)+1)/\ε 9=Xn f.length/\S=r++f/\f.length+k=i+1/\cI lt x S=r++cI lt x f/\
    g=σ.set b (.cells ((f.reverse.map Xn)++Xn x::(r.reverse.map Xn++((l.drop (i+2)).map Xn++μ))))) ⟨_,_,[],S,rfl,by simp[t],by simp[u],by simp[v],by simp[E],by simp[w],by simp[O],rfl,ac,rfl,am⟩ ?_
   clear t u v E w j
   rintro c1 k _ hk ⟨ε,g,r,f,rfl,t,u,v,E,w,L,G,hlen,p,j⟩ Q
   cases f with
   | nil=>
     simp only[Dv,IC]at hlen;simp only[xx]at G;subst G
     have o:g=σ.set b (.cells ((gX lt (l.take (i+1+1))).reverse.map Xn++((l.drop (i+1+1)).map Xn++μ))):=by rw[j,F,p];simp[cI]
     apply rn;simp[u,L];refine⟨?_,?_⟩
     all_goals
      apply rn;simp[w];refine⟨ac,T _ ac ⟨_,_,rfl,?_,?_,?_,?_,?_,o⟩⟩<;>simp[t,u,v,E]
   | cons z f=>
     obtain⟨e1,e2,e3,e4⟩:=QT (A:=f.reverse.map Xn) (B:=r.reverse.map Xn++((l.drop (i+2)).map Xn++μ)) (x:=Xn x) (y:=Xn z) (n:=f.length) ap
     have C:g b=some (.cells (f.reverse.map Xn++Xn z::Xn x::(r.reverse.map Xn++((l.drop (i+2)).map Xn++μ)))):=by rw[j,af.aj];simp
     have K:In z:=am
     have f1:(0:Int)<(f.length:Int)+1:=ac
     have V:(f.length:Int)+1<l.length:=am
     have W:(f.length:Int)<l.length:=ac
     have X:(0:Int)<=(f.length:Int)+1:=ac
     have Y:((f.length:Int)+1).toNat=f.length+1:=ac
     have I:=M1 ((f.length:Int))
     apply rn;simp[t,u,E,L,f1,V,W,X,Y,I.1,I.2,C];refine⟨R _ _ _ _ J K ?_,R _ _ _ _ J K ?_⟩
     all_goals
      apply pg;simp;apply rn;simp
      by_cases M:c x z<0
      . have f7:f.length+1+1<=f.length+(r.length+(l.length-(i+2)+μ.length)+1+1):=ac
        have f8:f.length+1<=f.length+(r.length+(l.length-(i+2)+μ.length)+1+1):=ac
        have H:cI lt x (z::f)=z::cI lt x f:=by rw[D];simp[cI,M]
        simp[t,L,M,Y,I.1,I.2,V,W,X,C,f7,f8];apply rn;simp[L,I.1,I.2];refine Q _ (by simp at hlen;omega) ⟨_,_,r++[z],f,rfl,by simp[t],by simp[u],by simp[v],by simp[E],by simp[w],ap,by rw[G];simp,by simp at hlen;omega,by rw[p,H];simp,?_⟩
        rw[j];simp
      . have H:cI lt x (z::f)=x::z::f:=by rw[D];simp[cI,M]
        have o:g=σ.set b (.cells ((gX lt (l.take (i+1+1))).reverse.map Xn++((l.drop (i+1+1)).map Xn++μ))):=by rw[j,F,p,H];simp
        simp[w,M];refine⟨ac,T _ ac ⟨_,_,rfl,?_,?_,?_,?_,?_,o⟩⟩<;>simp[t,u,v,E]
 . have o:(gX lt (l.take (i+1))).reverse.map Xn++((l.drop (i+1)).map Xn++μ)=(gX lt l).reverse.map Xn++μ:=by
    grind [List.take_of_length_le,List.drop_of_length_le]
   rw[o]at j;have g2:¬(i:Int)+1<l.length:=ac
   apply rn;simp[v,w,g2];rw[j];exact .done h
def afp{y c In l b cap μ}(j:KN m y c In)(f:∀x∈l,In x)(w:l.length<20)(hb:σ b=some (.cells (l.map Xn++μ)))
 (h:KF (.val (.cx [])) (σ.set b (.cells ((gX (λa b=>decide (c a b<0)) l).reverse.map Xn++μ)))):ar prog m 240 [.mJ b 0 l.length cap,Xn l.length,y] σ KF:=by
 refine S0 [] func240 ?_;simp;have n:¬(20:Int)<=l.length:=ac
 have o:¬(20:Int)<l.length:=ac
 refine aa.loop 1 (λk=>MY σ λε=>ε 0=.mJ b 0 l.length cap/\ε 1=Xn l.length/\ε 2=y/\ε 6=Xn 20/\ε 7=Xn 0/\ε 8=Xn 20) aq ?_;rintro z k _ p ⟨ε,rfl,q,e,r,g,t,u⟩ v;apply rn;simp[q,e,r,t,u,n];refine O1 func241 (goL j f ac hb ?_);apply rn;refine aa.loop 1 (λk s=>∃ε d,s=⟨ε,d,[],.no⟩/\ε 1=Xn l.length/\ε 6=Xn 20/\d=σ.set b (.cells ((gX (λa b=>decide (c a b<0)) l).reverse.map Xn++μ))) ⟨_,_,rfl,by simp[e,g]⟩ ?_;rintro A k _ p ⟨ε,d,rfl,e,g,i⟩ v;apply rn;simp[e,g,o];rw[i];exact .done h
def ints{y c In l b cap μ}(e:KN m y c In)(d:∀x∈l,In x)(f:l.length<20)(hb:σ b=some (.cells (l.map Xn++μ)))
 (h:KF (.val (.cx [])) (σ.set b (.cells ((gX (λa b=>decide (c a b<0)) l).reverse.map Xn++μ)))):ar prog m 234 [.mJ b 0 l.length cap,y] σ KF:=by
 refine S0 [] func234 ?_;simp;refine O1 func240 (afp e d f hb ?_);apply rn;simp;exact .done (by simpa using h)
def XX{y c In l}(p:KN m y c In)(f:∀x∈l,In x)(q:l.length<20)(g:l≠[])(i:y.cells=[y]/\y.flat=true)(h:KF (.val (Ae (gX (λa b=>decide (c a b<0)) l).reverse)) σ):ar prog m 216 [.agg [y],Ae l] σ KF:=by
 refine S0 [] func216 ?_;simp[i.2];refine O1 func99 (Gm g ac λa j k=>?_)
 obtain⟨b,cap,μ,rfl,n,s,t,o,u⟩:∃b cap μ,a=.mJ b 0 (l.map Xn).length cap/\σ b=none/\(l.map Xn).length<=cap/\(∀e∈l.map Xn,e.cells.length=1)/\j b=some (.cells (RP _++μ))/\μ.length=(cap-(l.map Xn).length)*1:=by
  rcases k.2 with⟨e,_⟩|h
  . grind
  omega
 have d:∀l:RQ,RP (l.map Xn)=l.map Xn:=λl=>by
  induction l with
  |nil=>rfl
  |cons a l v=>simp_all [flatten_cons]
 rw[d]at o;apply rn;simp;refine O1 func234 (ints p f q o ?_);apply rn;simp;refine cV.thaw    ⟨af.bZ k.1 n,.inr ⟨b,cap,μ,?_,n,?_,λe r=>?_,?_,?_⟩⟩ h
 . simp[pz]
 . grind [pz]
 . obtain⟨x,_,rfl⟩:=CR.1 r;rfl
 . rw[d];simp
 grind [pz]
def Bs(f:Fr)(a b:Int):Int:=Il (aU f a).hour (aU f b).hour
def XY{b mb f x y}(d:0<=x/\x<f.ao.length)(e:0<=y/\y<f.ao.length)(h:KF (.val (Xn (Bs f x y))) σ):ar prog m 214 [Xn x,Xn y,.cp (qv b mb f 0) 0] σ KF:=by
 have a:x.toNat<f.ao.length:=ac
 have c:y.toNat<f.ao.length:=ac
 have ex:aU f x=f.ao[x.toNat]:=by simp[aU,a]
 have g:aU f y=f.ao[y.toNat]:=by simp[aU,c]
 unfold Bs at h;rw[ex,g]at h;refine S0 adu func214 ?_;simp[a,c,d.1,e.1];refine O1 func215 (agb ?_);apply pg;simp;apply rn;simp;exact .done h
def T6{b mb f}:KN m (.fn (.func 214) [] [.cp (qv b mb f 0) 0]) (Bs f) (λn=>0<=n/\n<f.ao.length):=λx y σ KF a c h=>by refine fS func214 rfl rfl rfl (XY a c h)
structure Wo(f:Fr)(l:RQ):Prop where
 mem:∀n∈l,0<=n/\n<f.ao.length
 ne:l≠[]
 len:l.length<=1000000
def cR(f:Fr)(l:RQ):Bool:=l.any λn=>decide ((aU f n).di≠(aU f (l.getD 0 0)).di)
theorem m9{f x}  h :aU f x=f.ao[x.toNat]:=by simp[aU,h]
def ajv{b mb f l}(t:Wo f l)(h:KF (.val (T0 (cR f l))) σ):ar prog m 283 [.agg [],qv b mb f 0,Ae l] σ KF:=by
 obtain⟨g,e,hlen⟩:=t;have a:0<l.length:=JC.2 e;obtain⟨u,z⟩:=g _ (lb a);have i:l[0].toNat<f.ao.length:=ac
 have v:l.getD 0 0=l[0]:=am
 unfold cR at h;rw[v]at h;refine S0 adC func283 ?_;simp[f283];refine aa.loop l.length (λk=>MY σ λε=>ε 1=qv b mb f 0/\ε 2=Ae l/\ε 9=Ae l/\ε 10=Xn l.length/\ε 11=Xn k/\∀n∈l.take k,(aU f n).di=(aU f l[0]).di) ⟨_,rfl,ap⟩ ?_;rintro A k _ B ⟨ε,rfl,j,o,p,c,d,q⟩ w;rcases za k l.length with g1|g1
 . obtain⟨y0,C⟩:=g _ (lb g1)
   have r:l[k].toNat<f.ao.length:=ac
   have D:=m9 r;have E:=m9 i;apply rn;simp[j,o,p,c,d,g1,a,y0,r,u,i];apply rn;simp;by_cases x:f.ao[l[k].toNat].di=f.ao[l[0].toNat].di
   . simp[d,x]
     refine⟨ac,w _ g1 ⟨_,rfl,by simp[j],by simp[o],by simp[p],by simp[c],ap,λn F=>?_⟩⟩
     grind [List.take_succ_eq_append_getElem,List.mem_singleton]
   . have y:(f.ao[l[k].toNat].di !=f.ao[l[0].toNat].di)=true:=am
     have:l.any (λn=>decide ((aU f n).di≠(aU f l[0]).di))=true:=am;rw[this]at h;simp[y];exact .done h
 . have:k=l.length:=ac
   subst this;have:l.any (λn=>decide ((aU f n).di≠(aU f l[0]).di))=false:=am
   rw[this]at h;apply rn;simp[c,d];exact .done h
def cd(f:Fr)(l:RQ):Bool:=decide (fM f l=[])
def ajr{b mb f l}(g:f.Good)(c:Wo f l)(h:KF (.val (T0 (cd f l))) σ):ar prog m 284 [.agg [],qv b mb f 0,Ae l] σ KF:=by
 refine S0 [] func284 ?_;simp;refine O1 func285 (afR g c.ne c.len c.mem ?_);apply rn;simp;unfold cd at h;cases d:fM f l with
 |nil=>rw[d]at h;exact .done h
 | cons a r=>
   rw[d]at h;have e:((r.length:Int)+1==0)=false:=am
   refine .done ?_;simpa[e]using h
def dg(f:Fr)(x y:Int):Bool:=decide ((aU f y).hour-(aU f x).hour<rd f.roads (aU f x).place.toNat (aU f y).place.toNat+f.dN*cj (bh (aU f x).marks) (bh (aU f y).marks))
def bI(f:Fr)(l:RQ):Bool:=(List.range (l.length-1)).any λi=>dg f (l.getD i 0) (l.getD (i+1) 0)
def vw:∀{l p},sC p l=0->∀n∈l,0<=n/\n<=4
 |[],_,_,n,hn=>am
 | a::l,p,h,n,hn=>by
   unfold sC at h;split at h
   . cases h
   next b=>
   split at h
   . cases h
   next c=>
   rcases Cv.1 hn with rfl|hn
   . simp[cz]at b;omega
   . exact vw h n hn
def acy:∀a:Fin 32,∀n:Fin 5,0<=cM (a.val:Int) (n.val:Int)/\cM (a.val:Int) (n.val:Int)<32:=be
def p9{l}(h:∀n∈l,0<=n/\n<=4):0<=bh l/\bh l<32:=by
 have key:∀(l:RQ) (a:Int),(∀n∈l,0<=n/\n<=4)->0<=a/\a<32->0<=l.foldl cM a/\l.foldl cM a<32:=by
  intro l;induction l with
  |nil=>grind
  | cons x l c=>
    intro a b d;obtain⟨e,f⟩:=b x (MJ ..);have:=acy ⟨a.toNat,ac⟩ ⟨x.toNat,ac⟩
    grind
 exact key l 0 h ac
def T7:∀a:Fin 32,∀b:Fin 32,Ad 8 (Eu (a.val:Int) (b.val:Int))=0/\0<=cj (a.val:Int) (b.val:Int)/\cj (a.val:Int) (b.val:Int)<=5:=v3
def Oq{a b}(c:0<=a/\a<32)(hb:0<=b/\b<32):Ad 8 (Eu a b)=0/\0<=cj a b/\cj a b<=5:=by
 have:=T7 ⟨a.toNat,ac⟩ ⟨b.toNat,ac⟩
 grind
def Fr.Good.row{f:Fr}(a:f.Good){i}(hi:i<f.roads.length):f.roads[i].length=f.roads.length/\∀x∈f.roads[i],0<=x/\x<=9:=by
 have h:=a.HH;unfold fD at h;split at h
 . cases h
 split at h
 . cases h
 split at h
 . omega
 next q=>
 obtain⟨b,c⟩:=mh (by simpa using q) _ (lb hi);exact⟨b,λx d=>dJ (c x d)⟩
def ajF{b mb f l}(j:f.Good)(W:Wo f l)(h:KF (.val (T0 (bI f l))) σ):ar prog m 287 [.agg [],qv b mb f 0,Ae l] σ KF:=by
 obtain⟨O,X,hlen⟩:=W;have n:=j.dN;unfold bI at h;refine S0 adE func287 ?_
 simp[f287];refine aa.loop (l.length-1) (λk s=>∃ε a,s=⟨ε,a,[],.no⟩/\σ.Le a/\ε 1=qv b mb f 0/\ε 2=Ae l/\ε 7=Xn ((k:Int)+1)/\∀i<k,dg f (l.getD i 0) (l.getD (i+1) 0)=false) ⟨_,_,rfl,af.le_refl _,ap⟩ ?_
 rintro c0 k _ hk ⟨ε,a,rfl,o,p,u,v,P⟩ Q
 rcases za (k+1) l.length with g1|g1
 . have I:(k:Int)+1<l.length:=ac
   have J:k<l.length:=ac
   obtain⟨Y,x1⟩:=O _ (lb J);obtain⟨y0,y1⟩:=O _ (lb g1);have w:l[k].toNat<f.ao.length:=ac
   have x:l[k+1].toNat<f.ao.length:=ac
   have f1:=M1 ((k:Int))
   have Z:((k:Int)+1).toNat=k+1:=ac
   have f3:(0:Int)<=(k:Int)+1:=ac
   obtain⟨A,y⟩:=S1 (f.ao[l[k].toNat]);obtain⟨B,z⟩:=S1 (f.ao[l[k+1].toNat]);have R:=m9 w;have S:=m9 x;rw[<-y]at R;rw[<-z]at S;have bA:=lf (j.pS A am)
   have bB:=lf (j.pS B am)
   apply rn;simp[p,u,v,I,J,g1,Y,w,y0,x,f1.1,f1.2,Z,f3,<-y,<-z];have e:=λ{c:Nat}(q:a c=none)=>o.none q
   have C:A.place.toNat<f.roads.length:=ac
   obtain⟨r1,r2⟩:=j.row C;have D:B.place.toNat<f.roads[A.place.toNat].length:=ac
   obtain⟨r3,r4⟩:=r2 _ (lb D);have K:rd f.roads A.place.toNat B.place.toNat=f.roads[A.place.toNat][B.place.toNat]:=gL C D;have mA:=vw bA.2.2.2.2.2;have mB:=vw bB.2.2.2.2.2;have lA:=p9 mA;have lB:=p9 mB;obtain⟨T,L,U⟩:=Oq lA lB;obtain⟨ch,g⟩:=S1 (cj (bh A.marks) (bh B.marks));rw[<-g]at L U
   have hmul:0<=f.dN*ch/\f.dN*ch<=30:=by
    constructor
    . exact Int.mul_nonneg ac L
    . calc f.dN*ch<=6*5:=MF n.2 U L ac
       _=30:=by rfl
   have V:dg f l[k] l[k+1]=decide (B.hour-A.hour<f.roads[A.place.toNat][B.place.toNat]+f.dN*ch):=by unfold dg;rw[R,S,K,g]
   have a7:l.getD k 0=l[k]:=by simp[sg,J]
   have a8:l.getD (k+1) 0=l[k+1]:=by simp[sg,g1]
   have E:=M1 (B.hour-A.hour)
   have F:=M1 (f.dN*ch)
   have G:=M1 (f.roads[A.place.toNat][B.place.toNat]+f.dN*ch)
   refine⟨qB.intro λc q=>?_,qB.intro λc q=>?_⟩
   . simp
     refine qB.intro λd hd=>?_
     obtain⟨H,r,hd⟩:=af.bd hd;have M:=e q;have N:=e hd;simp[H,r,af.ah];refine aa.bj 8 (b:=c) (bn A) (by simp[r,af.ah]) ap rfl ?_
     refine aa.bj 9 (b:=d) (bn B) (by simp[H,af.del]) ap rfl ?_
     apply rn;simp[p,E.1,E.2,C,D];refine⟨ac,ac,?_⟩
     refine O1 func288 (vv (by have:=j.fits.marks A (by rw[y];exact lb w);omega) am ?_)
     apply pg;simp;refine O1 func288 (vv (by have:=j.fits.marks B (by rw[z];exact lb x);omega) am ?_)
     apply pg;simp;refine O1 func289 (Ey T ?_);rw[<-g];apply pg;simp[F.1,F.2,G.1,G.2];apply rn;simp
     by_cases t:B.hour-A.hour<f.roads[A.place.toNat][B.place.toNat]+f.dN*ch
     . simp[t]
       have:(List.range (l.length-1)).any (λi=>dg f (l.getD i 0) (l.getD (i+1) 0))=true:=ES.2 ⟨k,wL.2 ac,am⟩
       rw[this]at h;exact .less (by repeat (first|exact af.le_refl _|assumption|refine af.bZ ?_ z0|refine af.AN ?_ z0)) (.done h)
     . simp[v,t]
       refine⟨ac,Q _ ac ⟨_,_,rfl,(by repeat (first|exact af.le_refl _|assumption|refine af.bZ ?_ z0|refine af.AN ?_ z0)),by simp[p],by simp[u],ap,λi hi=>?_⟩⟩
       grind
   . simp
     refine qB.intro λd hd=>?_
     obtain⟨H,r,hd⟩:=af.bd hd;have M:=e q;have N:=e hd;simp[r,af.ah];refine aa.bj 8 (b:=d) (bn A) (by simp[H,af.ah]) ap rfl ?_
     refine aa.bj 9 (b:=c) (bn B) (by simp[r,af.del]) ap rfl ?_
     apply rn;simp[p,E.1,E.2,C,D];refine⟨ac,ac,?_⟩
     refine O1 func288 (vv (by have:=j.fits.marks A (by rw[y];exact lb w);omega) am ?_)
     apply pg;simp;refine O1 func288 (vv (by have:=j.fits.marks B (by rw[z];exact lb x);omega) am ?_)
     apply pg;simp;refine O1 func289 (Ey T ?_);rw[<-g];apply pg;simp[F.1,F.2,G.1,G.2];apply rn;simp
     by_cases t:B.hour-A.hour<f.roads[A.place.toNat][B.place.toNat]+f.dN*ch
     . simp[t]
       have:(List.range (l.length-1)).any (λi=>dg f (l.getD i 0) (l.getD (i+1) 0))=true:=ES.2 ⟨k,wL.2 ac,am⟩
       rw[this]at h;exact .less (by repeat (first|exact af.le_refl _|assumption|refine af.bZ ?_ z0|refine af.AN ?_ z0)) (.done h)
     . simp[v,t]
       refine⟨ac,Q _ ac ⟨_,_,rfl,(by repeat (first|exact af.le_refl _|assumption|refine af.bZ ?_ z0|refine af.AN ?_ z0)),by simp[p],by simp[u],ap,λi hi=>?_⟩⟩
       grind
 . have g2:¬(k:Int)+1<l.length:=ac
   have:(List.range (l.length-1)).any (λi=>dg f (l.getD i 0) (l.getD (i+1) 0))=false:=am
   rw[this]at h;apply rn;simp[u,v,g2];exact .less o (.done h)
def adH:(((prog.info? 312).bind λi=>i.methods.find? (·.name==  "palfrey/mark.breaks")).map λmt=>(mt.path,mt.func))=some (#[],some (283,false)):=s8
def adI:(((prog.info? 313).bind λi=>i.methods.find? (·.name==  "palfrey/mark.breaks")).map λmt=>(mt.path,mt.func))=some (#[],some (284,false)):=s8
def adJ:(((prog.info? 314).bind λi=>i.methods.find? (·.name==  "palfrey/mark.breaks")).map λmt=>(mt.path,mt.func))=some (#[],some (287,false)):=s8
def aaj{a}:tv prog 312  "palfrey/mark.breaks" 283 a a:=by obtain⟨mt,b,e⟩:=Fh.1 adH;obtain⟨info,c,d⟩:=I1.1 b;obtain⟨f,g⟩:=Prod.mk.inj e;exact yC Ax adb c d (by rw[f]) g rfl
def aak{a}:tv prog 313  "palfrey/mark.breaks" 284 a a:=by obtain⟨mt,b,e⟩:=Fh.1 adI;obtain⟨info,c,d⟩:=I1.1 b;obtain⟨f,g⟩:=Prod.mk.inj e;exact yC Ax ade c d (by rw[f]) g rfl
def aal{a}:tv prog 314  "palfrey/mark.breaks" 287 a a:=by obtain⟨mt,b,e⟩:=Fh.1 adJ;obtain⟨info,c,d⟩:=I1.1 b;obtain⟨f,g⟩:=Prod.mk.inj e;exact yC Ax adf c d (by rw[f]) g rfl
def aV(f:Fr)(l:RQ):RQ:=(gX (λa b=>decide (Bs f a b<0)) l).reverse
def iS(f:Fr)(l:RQ):Int:=if cR f (aV f l)then 1 else if cd f (aV f l)then 2 else if bI f (aV f l)then 3 else 0
abbrev Q9(n:Int):AV:=if n=1 then .pH 312 (.agg [])else if n=2 then .pH 313 (.agg [])else if n=3 then .pH 314 (.agg [])else .lit .nilIface
def Wo.sort{f l}(h:Wo f l):Wo f (aV f l):=
 ⟨fun n a=>h.mem n ((xE _ _ _).1 (by simpa[aV]using a)),λe=>h.ne (by
   have:(aV f l).length=l.length:=by simp[aV,pz]
   grind),by simp[aV,pz,h.len]⟩
def Su{b mb f l}(y:f.Good)(v:Wo f l)(d:l.length<20)(h:KF (.val (Q9 (iS f l))) σ):ar prog m 186 [qv b mb f 0,Ae l] σ KF:=by
 have t:=v.sort;refine S0 [] func186 ?_;simp[f186];refine bz.intro λc B=>?_
 simp;refine O1 func216 (XX T6 v.mem d v.ne ⟨rfl,rfl⟩ ?_);obtain⟨S,z⟩:=S1 ((gX (λa b=>decide (Bs f a b<0)) l).reverse);have r:aV f l=S:=z.symm;rw[r]at t;unfold iS at h;rw[r]at h;rw[<-z];apply rn;simp;refine aa.loop 3 (λk s=>∃ε j,s=⟨ε,j,[],.no⟩/\σ.Le j/\ε 1=Ae S/\ε 2=.cp (qv b mb f 0) 0/\ε 19=.sl 1 [.pH 312 (.agg []),.pH 313 (.agg []),.pH 314 (.agg [])] .exact/\ε 20=Xn 3/\ε 21=Xn k/\(1<=k->cR f S=false)/\(2<=k->cd f S=false)/\(3<=k->bI f S=false)) ⟨_,_,rfl,af.oi (af.le_refl _) B,ap⟩ ?_;rintro E k _ F ⟨ε,j,rfl,e,o,p,i,d,g,w,A,C⟩ x;obtain rfl|rfl|rfl|rfl:k=0\/k=1\/k=2\/k=3:=ac
 . apply rn
   simp[o,p,i,d,g];refine aa.invoke rfl rfl rfl ap rfl aaj func283 rfl rfl ?_;refine ajv t ?_;apply rn;simp;cases hb:cR f S
   . simp[g]
     refine x _ ac ⟨_,_,rfl,e,?_,?_,?_,?_,?_,λ_=>hb,λq=>ac,λq=>ac⟩<;>simp[o,p,i,d]
   . simp
     simp[hb]at h;exact .less e (.done h)
 . have n:=w ac
   apply rn;simp[o,p,i,d,g];refine aa.invoke rfl rfl rfl ap rfl aak func284 rfl rfl ?_;refine ajr y t ?_;apply rn;simp;cases hb:cd f S
   . simp[g]
     refine x _ ac ⟨_,_,rfl,e,?_,?_,?_,?_,?_,λ_=>n,λ_=>hb,λq=>ac⟩<;>simp[o,p,i,d]
   . simp
     simp[hb,n]at h;exact .less e (.done h)
 . have n:=w ac
   have u:=A ac;apply rn;simp[o,p,i,d,g];refine aa.invoke rfl rfl rfl ap rfl aal func287 rfl rfl ?_;refine ajF y t ?_;apply rn;simp;cases hb:bI f S
   . simp[g]
     refine x _ ac ⟨_,_,rfl,e,?_,?_,?_,?_,?_,λ_=>n,λ_=>u,λ_=>hb⟩<;>simp[o,p,i,d]
   . simp
     simp[hb,n,u]at h;exact .less e (.done h)
 . have n:=w ac
   have u:=A ac;have D:=C ac;simp[n,u,D]at h;apply rn;simp[d,g];exact .less e (.done h)

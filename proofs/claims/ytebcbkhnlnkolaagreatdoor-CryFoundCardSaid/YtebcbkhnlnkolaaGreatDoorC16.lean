import Derived.Test.YtebcbkhnlnkolaaGreatDoorProg
import Derived.Test.YtebcbkhnlnkolaaGreatDoorC15
set_option linter.all false
set_option maxHeartbeats 1000000
set_option maxRecDepth 100000
namespace Go.Proofs.YtebcbkhnlnkolaaGreatDoor
open Go.Proofs.Tryz (prog)
section
open Go.bU
@[simp] def aea:TI:=⟨.func,1,8,.nilFunc,[]⟩
@[simp] def aee:TI:=⟨.int .i64,1,8,(.int .i64 0),[]⟩
@[simp] def aer:TI:=⟨.bool,1,1,(.bool false),[]⟩
@[simp] def aed:TI:=⟨.int .u8,1,1,(.int .u8 0),[]⟩
@[simp] def aej:TI:=⟨.struct,4,24,(.agg #[(.int .i64 0),(.int .i64 0),(.bool false),(.int .u8 0)]),[(0,1,2),(1,1,3),(2,1,4),(3,1,6)]⟩
@[simp] def aeg:TI:=⟨.string,1,16,(.string ByteArray.empty),[]⟩
@[simp] def aef:TI:=⟨.int .u64,1,8,(.int .u64 0),[]⟩
@[simp] def aek:TI:=⟨.struct,2,24,(.agg #[(.string ByteArray.empty),(.int .u64 0)]),[(0,1,9),(1,1,12)]⟩
@[simp] def aes:TI:=⟨.pointer 304,1,8,(.pointer none),[]⟩
@[simp] def aet:TI:=⟨.pointer 307,1,8,(.pointer none),[]⟩
@[simp] def aeu:TI:=⟨.pointer 315,1,8,(.pointer none),[]⟩
@[simp] def aeh:TI:=⟨.struct,1,8,(.agg #[(.pointer none)]),[(0,1,17)]⟩
@[simp] def aec:TI:=⟨.iface,1,16,.nilIface,[]⟩
@[simp] def aei:TI:=⟨.int .i32,1,4,(.int .i32 0),[]⟩
@[simp] def aev:TI:=⟨.slice 3,1,24,(.slice none 0 0),[]⟩
@[simp] def aew:TI:=⟨.pointer 71,1,8,(.pointer none),[]⟩
@[simp] def aex:TI:=⟨.slice 42,1,24,(.slice none 0 0),[]⟩
@[simp] def aey:TI:=⟨.slice 22,1,24,(.slice none 0 0),[]⟩
@[simp] def ael:TI:=⟨.struct,2,16,(.agg #[(.int .i64 0),(.int .i64 0)]),[(0,1,3),(1,1,3)]⟩
@[simp] def aem:TI:=⟨.struct,6,80,(.agg #[(.slice none 0 0),(.slice none 0 0),(.int .i64 0),(.int .i64 0),(.int .i64 0),(.int .i64 0)]),[(0,1,25),(1,1,26),(2,2,28),(4,1,3),(5,1,3)]⟩
@[simp] def aez:TI:=⟨.slice 38,1,24,(.slice none 0 0),[]⟩
@[simp] def aeA:TI:=⟨.slice 45,1,24,(.slice none 0 0),[]⟩
@[simp] def aen:TI:=⟨.struct,9,136,(.agg #[(.slice none 0 0),(.slice none 0 0),(.int .i64 0),(.int .i64 0),(.int .i64 0),(.int .i64 0),(.int .i64 0),(.slice none 0 0),(.slice none 0 0)]),[(0,6,30),(6,1,3),(7,1,31),(8,1,32)]⟩
@[simp] def aeo:TI:=⟨.struct,5,40,(.agg #[(.int .i64 0),(.int .i64 0),(.int .i64 0),(.int .i64 0),(.int .i64 0)]),[(0,1,3),(1,1,3),(2,1,3),(3,2,28)]⟩
@[simp] def aeB:TI:=⟨.struct,6,64,(.agg #[(.int .i64 0),(.int .i64 0),(.int .i64 0),(.slice none 0 0),(.int .i64 0),(.int .i64 0)]),[(0,1,3),(1,1,3),(2,1,3),(3,1,22),(4,1,3),(5,1,3)]⟩
@[simp] def aeC:TI:=⟨.struct,8,80,(.agg #[(.int .i64 0),(.int .i64 0),(.int .i64 0),(.slice none 0 0),(.int .i64 0),(.int .i64 0),(.int .i64 0),(.int .i64 0)]),[(0,6,42),(6,1,3),(7,1,3)]⟩
@[simp] def aeD:TI:=⟨.slice 4,1,24,(.slice none 0 0),[]⟩
@[simp] def aeE:TI:=⟨.struct,3,40,(.agg #[(.slice none 0 0),(.int .i64 0),(.int .u64 0)]),[(0,1,22),(1,1,3),(2,1,69)]⟩
@[simp] def aeF:TI:=⟨.slice 28,1,24,(.slice none 0 0),[]⟩
@[simp] def aeG:TI:=⟨.pointer 147,1,8,(.pointer none),[]⟩
@[simp] def aeb:TI:=⟨.struct,0,0,(.agg #[]),[]⟩
@[simp] def aeH:TI:=⟨.pointer 246,1,8,(.pointer none),[]⟩
@[simp] def aeI:TI:=⟨.struct,2,2,(.agg #[(.int .u8 0),(.int .u8 0)]),[(0,1,102),(1,1,102)]⟩
@[simp] def aeJ:TI:=⟨.struct,2,32,(.agg #[(.slice none 0 0),(.int .i64 0)]),[(0,1,22),(1,1,3)]⟩
@[simp] def aeK:TI:=⟨.pointer 34,1,8,(.pointer none),[]⟩
@[simp] def aeL:TI:=⟨.struct,1,8,(.agg #[.nilFunc]),[(0,1,53)]⟩
@[simp] def aeM:TI:=⟨.array 2 3,2,16,(.agg #[(.int .i64 0),(.int .i64 0)]),[]⟩
@[simp] def aeN:TI:=⟨.int .u32,1,4,(.int .u32 0),[]⟩
@[simp] def aeO:TI:=⟨.struct,2,8,(.agg #[(.int .i32 0),(.int .u32 0)]),[(0,1,21),(1,1,139)]⟩
@[simp] def aeP:TI:=⟨.struct,2,8,(.agg #[(.int .i32 0),(.int .u32 0)]),[(0,0,138),(0,2,141)]⟩
@[simp] def aeQ:TI:=⟨.array 3 3,3,24,(.agg #[(.int .i64 0),(.int .i64 0),(.int .i64 0)]),[]⟩
@[simp] def aeR:TI:=⟨.map 104 165,1,8,(.map none),[]⟩
@[simp] def aeS:TI:=⟨.struct,15,176,(.agg #[(.slice none 0 0),(.slice none 0 0),(.int .i64 0),(.int .i64 0),(.int .i64 0),(.int .i64 0),(.int .i64 0),(.slice none 0 0),(.slice none 0 0),(.int .i32 0),(.int .u32 0),(.int .i64 0),(.int .i64 0),(.int .i64 0),(.map none)]),[(0,9,34),(9,2,143),(11,3,144),(14,1,145)]⟩
@[simp] def aeT:TI:=⟨.struct,1,8,(.agg #[.nilFunc]),[(0,1,74)]⟩
@[simp] def aeU:TI:=⟨.array 3 97,3,48,(.agg #[.nilIface,.nilIface,.nilIface]),[]⟩
@[simp] def aeV:TI:=⟨.struct,1,4,(.agg #[(.int .u32 0)]),[(0,0,157),(0,1,139)]⟩
@[simp] def aep:TI:=⟨.struct,3,12,(.agg #[(.int .u32 0),(.int .i32 0),(.int .u32 0)]),[(0,0,138),(0,1,159),(1,2,143)]⟩
@[simp] def aeW:TI:=⟨.array 6 156,18,288,(.agg #[.nilIface,.nilIface,.nilIface,.nilIface,.nilIface,.nilIface,.nilIface,.nilIface,.nilIface,.nilIface,.nilIface,.nilIface,.nilIface,.nilIface,.nilIface,.nilIface,.nilIface,.nilIface]),[]⟩
@[simp] def aeX:TI:=⟨.struct,21,304,(.agg #[(.int .u32 0),(.int .i32 0),(.int .u32 0),.nilIface,.nilIface,.nilIface,.nilIface,.nilIface,.nilIface,.nilIface,.nilIface,.nilIface,.nilIface,.nilIface,.nilIface,.nilIface,.nilIface,.nilIface,.nilIface,.nilIface,.nilIface]),[(0,3,161),(3,18,162)]⟩
@[simp] def aeY:TI:=⟨.pointer 164,1,8,(.pointer none),[]⟩
@[simp] def aeZ:TI:=⟨.array 3 102,3,3,(.agg #[(.int .u8 0),(.int .u8 0),(.int .u8 0)]),[]⟩
@[simp] def aeq:TI:=⟨.struct,1,8,(.agg #[(.int .u64 0)]),[(0,0,157),(0,0,181),(0,1,69)]⟩
@[simp] def afa:TI:=⟨.struct,2,16,(.agg #[(.int .u64 0),(.int .u32 0)]),[(0,0,138),(0,1,183),(1,1,139)]⟩
@[simp] def afb:TI:=⟨.array 4 3,4,32,(.agg #[(.int .i64 0),(.int .i64 0),(.int .i64 0),(.int .i64 0)]),[]⟩
@[simp] def afc:TI:=⟨.slice 88,1,24,(.slice none 0 0),[]⟩
@[simp] def afd:TI:=⟨.pointer 185,1,8,(.pointer none),[]⟩
@[simp] def afe:TI:=⟨.pointer 139,1,8,(.pointer none),[]⟩
@[simp] def aff:TI:=⟨.pointer 143,1,8,(.pointer none),[]⟩
@[simp] def afg:TI:=⟨.struct,1,8,(.agg #[(.int .i64 0)]),[(0,1,46)]⟩
@[simp] def afh:TI:=⟨.pointer 236,1,8,(.pointer none),[]⟩
@[simp] def afi:TI:=⟨.pointer 161,1,8,(.pointer none),[]⟩
@[simp] def afj:TI:=⟨.map 248 4,1,8,(.map none),[]⟩
@[simp] def afk:TI:=⟨.struct,9,96,(.agg #[(.slice none 0 0),(.slice none 0 0),(.int .i64 0),(.int .i64 0),(.int .i64 0),(.int .i64 0),(.int .i32 0),(.int .u32 0),(.map none)]),[(0,6,30),(6,2,143),(8,1,244)]⟩
@[simp] def afl:TI:=⟨.struct,1,1,(.agg #[(.int .u8 0)]),[(0,1,5)]⟩
@[simp] def afm:TI:=⟨.array 6 248,6,6,(.agg #[(.int .u8 0),(.int .u8 0),(.int .u8 0),(.int .u8 0),(.int .u8 0),(.int .u8 0)]),[]⟩
@[simp] def afn:TI:=⟨.struct,1,8,(.agg #[.nilFunc]),[(0,1,40)]⟩
@[simp] def afo:TI:=⟨.slice 217,1,24,(.slice none 0 0),[]⟩
@[simp] def afp:TI:=⟨.struct,3,24,(.agg #[(.pointer none),(.pointer none),(.int .u64 0)]),[(0,1,17),(1,1,222),(2,1,276)]⟩
@[simp] def afq:TI:=⟨.chan 3,1,8,(.chan none),[]⟩
@[simp] def afr:TI:=⟨.pointer 159,1,8,(.pointer none),[]⟩
@[simp] def afs:TI:=⟨.struct,4,40,(.agg #[(.pointer none),(.pointer none),(.pointer none),(.string ByteArray.empty)]),[(0,1,17),(1,1,17),(2,1,17),(3,1,9)]⟩
@[simp] def aft:TI:=⟨.array 0 16,0,0,(.agg #[]),[]⟩
@[simp] def afu:TI:=⟨.struct,0,0,(.agg #[]),[(0,0,305)]⟩
@[simp] def afv:TI:=⟨.pointer 5,1,8,(.pointer none),[]⟩
@[simp] def afw:TI:=⟨.struct,11,48,(.agg #[(.int .u64 0),(.int .u64 0),(.int .u32 0),(.int .u8 0),(.int .u8 0),(.int .u8 0),(.int .u8 0),.nilFunc,(.pointer none),(.int .i32 0),(.int .i32 0)]),[(0,1,12),(1,1,12),(2,1,139),(3,1,309),(4,1,5),(5,1,5),(6,1,281),(7,1,310),(8,1,311),(9,1,312),(10,1,313)]⟩
def Nv:List (Nat × TI):=[
 (1,aea),
 (2,aee),
 (3,aee),
 (4,aer),
 (5,aed),
 (6,aed),
 (7,aej),
 (8,aej),
 (9,aeg),
 (10,aeg),
 (11,aeg),
 (12,aef),
 (13,aek),
 (14,aek),
 (15,aes),
 (16,aet),
 (17,aeu),
 (18,aeh),
 (19,aeh),
 (20,aec),
 (21,aei),
 (22,aev),
 (23,aew),
 (24,aea),
 (25,aex),
 (26,aey),
 (27,ael),
 (28,ael),
 (29,aem),
 (30,aem),
 (31,aez),
 (32,aeA),
 (33,aen),
 (34,aen),
 (37,aeo),
 (38,aeo),
 (40,aea),
 (42,aeB),
 (43,aea),
 (45,aeC),
 (46,aee),
 (49,aea),
 (53,aea),
 (60,aeD),
 (67,aea),
 (69,aef),
 (71,aeE),
 (73,aea),
 (74,aea),
 (79,aeF),
 (84,aeG),
 (86,aea),
 (88,aec),
 (92,aeb),
 (93,aeb),
 (97,aec),
 (98,aeb),
 (99,aeH),
 (101,aea),
 (102,aed),
 (104,aeI),
 (110,aeJ),
 (113,aea),
 (114,aea),
 (115,aea),
 (121,aea),
 (131,aeK),
 (134,aeL),
 (137,aeM),
 (138,aeb),
 (139,aeN),
 (141,aeO),
 (143,aeP),
 (144,aeQ),
 (145,aeR),
 (147,aeS),
 (149,aec),
 (152,aef),
 (155,aeT),
 (156,aeU),
 (157,aeb),
 (159,aeV),
 (160,aep),
 (161,aep),
 (162,aeW),
 (164,aeX),
 (165,aeY),
 (166,aea),
 (167,aeb),
 (170,aeZ),
 (175,aea),
 (181,aeb),
 (182,aeq),
 (183,aeq),
 (185,afa),
 (188,afb),
 (197,aeh),
 (199,aec),
 (202,aec),
 (204,aec),
 (205,afc),
 (217,aec),
 (220,afd),
 (223,aee),
 (227,afe),
 (231,aff),
 (236,afg),
 (238,afh),
 (240,afi),
 (241,aeb),
 (244,afj),
 (246,afk),
 (248,afl),
 (249,afm),
 (252,aea),
 (259,afn),
 (260,aeb),
 (261,aeb),
 (262,aeb),
 (263,afo),
 (276,aef),
 (278,afp),
 (281,aed),
 (285,afq),
 (286,afr),
 (304,afs),
 (305,aft),
 (307,afu),
 (309,aed),
 (310,aea),
 (311,afv),
 (312,aei),
 (313,aei),
 (315,afw),
 (321,aed)]
theorem Ke:(Nv.all λx=>x.2.check Tryz.prog x.1)=true:=by kernel_rfl
def Df(t:Nat):Option TI:=(Nv.find? λx=>x.1==t).map (·.2)
theorem Hj(t:Nat)(i:TI)(h:Df t=some i):i.check Tryz.prog t=true:=by unfold Df at h;obtain⟨x,a,rfl⟩:=abi.1 h;have c:=List.find?_some a;have b:=aaw.1 Ke x (List.mem_of_find?_eq_some a);rw[ach.1 c]at b;exact b
def lay:jO Tryz.prog:=⟨Df,Hj,by kernel_rfl⟩
theorem rn{m:Mo}{fid n:Nat}{ro:adJ}{hold:adH}{s:St}{K:bU.Exit->St->Prop}{todo:adN}(h:bL lay m fid n ro [] hold 1000 todo s K):aa Tryz.prog m fid n ro hold todo s K:=aa.run lay [] h
theorem pg{m:Mo}{ops:adI}{n:Nat}{Kp:adB}{R:adA}{p:py}{env:Env}{σ:ab}(h:iT lay m [] ops n Kp p env σ R):aP Tryz.prog m ops n Kp p env σ R:=aP.go lay [] h
theorem cf{m:Mo}{f:FuncId}{fn:Func}{args:adV}{σ:ab}{KF:adC}(a:Tryz.prog.funcs[f]?=some fn)(hb:(fn.body.isSome && !(fn.name== "runtime.NumGoroutine"))=true)(h:aA Tryz.prog m f args σ KF):cG Tryz.prog m (.fn (.func f) [] []) args σ KF:=by
 simp only[za,acu]at hb;exact aj a hb.1 hb.2 h
theorem fs{m:Mo}{f:FuncId}{fn:Func}{args:adV}{σ:ab}{KF:adC}{body:Code}(hold:adH)(b:Tryz.prog.funcs[f]?=some fn)(hb:fn.body=some body)(c:(pz fn args.length&&lS hold body)=true)(h:bL lay m f fn.ntmps none [] hold 1000 [.code body] ⟨dL args,σ,[],.no⟩ (TE lay m fn.results.toList (oC KF))):aA Tryz.prog m f args σ KF:=by simp only[za]at c;exact aA.start lay [] hold _ b hb rfl c.1 c.2 h
@[simp] theorem tt1:lay.tt 1=some aea:=rfl
@[simp] theorem tt2:lay.tt 2=some aee:=rfl
@[simp] theorem sb:lay.tt 3=some aee:=rfl
@[simp] theorem Zb:lay.tt 4=some aer:=rfl
@[simp] theorem Zi:lay.tt 5=some aed:=rfl
@[simp] theorem tt6:lay.tt 6=some aed:=rfl
@[simp] theorem tt7:lay.tt 7=some aej:=rfl
@[simp] theorem tt8:lay.tt 8=some aej:=rfl
@[simp] theorem tt9:lay.tt 9=some aeg:=rfl
@[simp] theorem aaF:lay.tt 10=some aeg:=rfl
@[simp] theorem aaG:lay.tt 11=some aeg:=rfl
@[simp] theorem aaH:lay.tt 12=some aef:=rfl
@[simp] theorem aaI:lay.tt 13=some aek:=rfl
@[simp] theorem aaJ:lay.tt 14=some aek:=rfl
@[simp] theorem aaK:lay.tt 15=some aes:=rfl
@[simp] theorem aaL:lay.tt 16=some aet:=rfl
@[simp] theorem aaM:lay.tt 17=some aeu:=rfl
@[simp] theorem aaN:lay.tt 18=some aeh:=rfl
@[simp] theorem aaO:lay.tt 19=some aeh:=rfl
@[simp] theorem aaP:lay.tt 20=some aec:=rfl
@[simp] theorem aaQ:lay.tt 21=some aei:=rfl
@[simp] theorem dK:lay.tt 22=some aev:=rfl
@[simp] theorem aaR:lay.tt 23=some aew:=rfl
@[simp] theorem aaS:lay.tt 24=some aea:=rfl
@[simp] theorem lH:lay.tt 25=some aex:=rfl
@[simp] theorem qZ:lay.tt 26=some aey:=rfl
@[simp] theorem aaT:lay.tt 27=some ael:=rfl
@[simp] theorem Yg:lay.tt 28=some ael:=rfl
@[simp] theorem aaU:lay.tt 29=some aem:=rfl
@[simp] theorem aaV:lay.tt 30=some aem:=rfl
@[simp] theorem Te:lay.tt 31=some aez:=rfl
@[simp] theorem QZ:lay.tt 32=some aeA:=rfl
@[simp] theorem aaW:lay.tt 33=some aen:=rfl
@[simp] theorem aaX:lay.tt 34=some aen:=rfl
@[simp] theorem aaY:lay.tt 37=some aeo:=rfl
@[simp] theorem V9:lay.tt 38=some aeo:=rfl
@[simp] theorem aaZ:lay.tt 40=some aea:=rfl
@[simp] theorem xd:lay.tt 42=some aeB:=rfl
@[simp] theorem aa0:lay.tt 43=some aea:=rfl
@[simp] theorem V':lay.tt 45=some aeC:=rfl
@[simp] theorem aa1:lay.tt 46=some aee:=rfl
@[simp] theorem aa2:lay.tt 49=some aea:=rfl
@[simp] theorem aa3:lay.tt 53=some aea:=rfl
@[simp] theorem X9:lay.tt 60=some aeD:=rfl
@[simp] theorem aa4:lay.tt 67=some aea:=rfl
@[simp] theorem aa5:lay.tt 69=some aef:=rfl
@[simp] theorem aa6:lay.tt 71=some aeE:=rfl
@[simp] theorem aa7:lay.tt 73=some aea:=rfl
@[simp] theorem aa8:lay.tt 74=some aea:=rfl
@[simp] theorem Wa:lay.tt 79=some aeF:=rfl
@[simp] theorem aa9:lay.tt 84=some aeG:=rfl
@[simp] theorem aa':lay.tt 86=some aea:=rfl
@[simp] theorem Q0:lay.tt 88=some aec:=rfl
@[simp] theorem aba:lay.tt 92=some aeb:=rfl
@[simp] theorem abb:lay.tt 93=some aeb:=rfl
@[simp] theorem Wb:lay.tt 97=some aec:=rfl
@[simp] theorem abc:lay.tt 98=some aeb:=rfl
@[simp] theorem abd:lay.tt 99=some aeH:=rfl
@[simp] theorem Zj:lay.tt 101=some aea:=rfl
@[simp] theorem Nw:lay.tt 102=some aed:=rfl
@[simp] theorem Zk:lay.tt 104=some aeI:=rfl
@[simp] theorem Zl:lay.tt 110=some aeJ:=rfl
@[simp] theorem Zm:lay.tt 113=some aea:=rfl
@[simp] theorem Zn:lay.tt 114=some aea:=rfl
@[simp] theorem Zo:lay.tt 115=some aea:=rfl
@[simp] theorem Zp:lay.tt 121=some aea:=rfl
@[simp] theorem Zq:lay.tt 131=some aeK:=rfl
@[simp] theorem Zr:lay.tt 134=some aeL:=rfl
@[simp] theorem R5:lay.tt 137=some aeM:=rfl
@[simp] theorem Zs:lay.tt 138=some aeb:=rfl
@[simp] theorem Zt:lay.tt 139=some aeN:=rfl
@[simp] theorem Zu:lay.tt 141=some aeO:=rfl
@[simp] theorem Zv:lay.tt 143=some aeP:=rfl
@[simp] theorem Zw:lay.tt 144=some aeQ:=rfl
@[simp] theorem Zx:lay.tt 145=some aeR:=rfl
@[simp] theorem Zy:lay.tt 147=some aeS:=rfl
@[simp] theorem Zz:lay.tt 149=some aec:=rfl
@[simp] theorem ZA:lay.tt 152=some aef:=rfl
@[simp] theorem ZB:lay.tt 155=some aeT:=rfl
@[simp] theorem ZC:lay.tt 156=some aeU:=rfl
@[simp] theorem ZD:lay.tt 157=some aeb:=rfl
@[simp] theorem ZE:lay.tt 159=some aeV:=rfl
@[simp] theorem ZF:lay.tt 160=some aep:=rfl
@[simp] theorem ZG:lay.tt 161=some aep:=rfl
@[simp] theorem ZH:lay.tt 162=some aeW:=rfl
@[simp] theorem ZI:lay.tt 164=some aeX:=rfl
@[simp] theorem Wc:lay.tt 165=some aeY:=rfl
@[simp] theorem ZJ:lay.tt 166=some aea:=rfl
@[simp] theorem ZK:lay.tt 167=some aeb:=rfl
@[simp] theorem We:lay.tt 170=some aeZ:=rfl
@[simp] theorem ZL:lay.tt 175=some aea:=rfl
@[simp] theorem ZM:lay.tt 181=some aeb:=rfl
@[simp] theorem ZN:lay.tt 182=some aeq:=rfl
@[simp] theorem ZO:lay.tt 183=some aeq:=rfl
@[simp] theorem ZP:lay.tt 185=some afa:=rfl
@[simp] theorem ZQ:lay.tt 188=some afb:=rfl
@[simp] theorem ZR:lay.tt 197=some aeh:=rfl
@[simp] theorem ZS:lay.tt 199=some aec:=rfl
@[simp] theorem ZT:lay.tt 202=some aec:=rfl
@[simp] theorem ZU:lay.tt 204=some aec:=rfl
@[simp] theorem ZV:lay.tt 205=some afc:=rfl
@[simp] theorem Wf:lay.tt 217=some aec:=rfl
@[simp] theorem ZW:lay.tt 220=some afd:=rfl
@[simp] theorem ZX:lay.tt 223=some aee:=rfl
@[simp] theorem ZY:lay.tt 227=some afe:=rfl
@[simp] theorem ZZ:lay.tt 231=some aff:=rfl
@[simp] theorem Z1:lay.tt 236=some afg:=rfl
@[simp] theorem Z2:lay.tt 238=some afh:=rfl
@[simp] theorem Z3:lay.tt 240=some afi:=rfl
@[simp] theorem Z4:lay.tt 241=some aeb:=rfl
@[simp] theorem Z5:lay.tt 244=some afj:=rfl
@[simp] theorem Z6:lay.tt 246=some afk:=rfl
@[simp] theorem Z7:lay.tt 248=some afl:=rfl
@[simp] theorem Z8:lay.tt 249=some afm:=rfl
@[simp] theorem Z9:lay.tt 252=some aea:=rfl
@[simp] theorem Z':lay.tt 259=some afn:=rfl
@[simp] theorem Wg:lay.tt 260=some aeb:=rfl
@[simp] theorem Wh:lay.tt 261=some aeb:=rfl
@[simp] theorem Wi:lay.tt 262=some aeb:=rfl
@[simp] theorem aaa:lay.tt 263=some afo:=rfl
@[simp] theorem aab:lay.tt 276=some aef:=rfl
@[simp] theorem aac:lay.tt 278=some afp:=rfl
@[simp] theorem aad:lay.tt 281=some aed:=rfl
@[simp] theorem IU:lay.tt 285=some afq:=rfl
@[simp] theorem aae:lay.tt 286=some afr:=rfl
@[simp] theorem aaf:lay.tt 304=some afs:=rfl
@[simp] theorem aag:lay.tt 305=some aft:=rfl
@[simp] theorem aah:lay.tt 307=some afu:=rfl
@[simp] theorem aai:lay.tt 309=some aed:=rfl
@[simp] theorem aaj:lay.tt 310=some aea:=rfl
@[simp] theorem aak:lay.tt 311=some afv:=rfl
@[simp] theorem aal:lay.tt 312=some aei:=rfl
@[simp] theorem aam:lay.tt 313=some aei:=rfl
@[simp] theorem aan:lay.tt 315=some afw:=rfl
@[simp] theorem aao:lay.tt 321=some aed:=rfl
abbrev Yh:adH:=[⟨4,.take [0,1,2,3,4,5,6,7,8] true (.done)⟩]
abbrev Yi:adH:=[⟨5,.take [0,1,3,4,8] false (.one 2 (.take [6] false (.one 5 (.take [7] true (.done)))))⟩]
abbrev Yj:adH:=[⟨19,.take [0,2,3,4,6,7,11] false (.both 1 (.both 5 (.one 8 (.one 9 (.take [10] true (.one 12 (.done))))) (.one 8 (.one 5 (.one 9 (.take [10] true (.one 12 (.done))))))) (.both 5 (.both 1 (.one 8 (.one 9 (.take [10] true (.one 12 (.done))))) (.one 8 (.both 1 (.one 9 (.take [10] true (.one 12 (.done)))) (.one 9 (.take [1,10] true (.one 12 (.done))))))) (.one 8 (.both 1 (.one 5 (.one 9 (.take [10] true (.one 12 (.done))))) (.one 5 (.both 1 (.one 9 (.take [10] true (.one 12 (.done)))) (.one 9 (.take [1,10] true (.one 12 (.done))))))))))⟩]
abbrev Yk:adH:=[⟨3,.take [0,1,2] false (.both 3 (.one 4 (.one 5 (.one 6 (.one 7 (.one 8 (.one 9 (.done))))))) (.one 4 (.both 3 (.one 5 (.one 6 (.one 7 (.one 8 (.one 9 (.done)))))) (.one 5 (.both 3 (.one 6 (.one 7 (.one 8 (.one 9 (.done))))) (.one 6 (.both 3 (.one 7 (.one 8 (.one 9 (.done)))) (.one 7 (.one 3 (.one 8 (.one 9 (.done))))))))))))⟩]
abbrev Yl:adH:=[⟨3,.take [0,1,2,3,4,5,6,7,8,9] true (.done)⟩,⟨4,.take [0,1,2,3,4,5,6,7,8,9,10,11,12,13,14] true (.take [15] true (.done))⟩,⟨6,.take [0,1,2,3,5,6,7,11,12] false (.take [4,8,9,10] true (.one 13 (.done)))⟩]
abbrev Ym:adH:=[⟨7,.take [0,2,6] false (.both 1 (.one 3 (.one 4 (.one 5 (.one 7 (.done))))) (.one 3 (.both 1 (.one 4 (.one 5 (.one 7 (.done)))) (.one 4 (.take [1] true (.one 5 (.one 7 (.done))))))))⟩,⟨15,.take [0,2,5,6,8,11,12,13] false (.both 1 (.take [3,4,14] false (.one 7 (.take [9,10,16] false (.one 15 (.one 17 (.done)))))) (.one 7 (.take [9,10,16] false (.take [1,3,4,14] true (.one 15 (.one 17 (.done)))))))⟩,⟨21,.take [0,2,3,7] false (.both 1 (.one 4 (.one 5 (.one 6 (.one 8 (.done))))) (.one 4 (.both 1 (.one 5 (.one 6 (.one 8 (.done)))) (.one 5 (.take [1] true (.one 6 (.one 8 (.done))))))))⟩]
abbrev Yn:adH:=[⟨6,.take [0,1,2,3,4,5,6,7,8] true (.done)⟩]
abbrev Yo:adH:=[⟨26,.take [0,1,2,3] false (.one 4 (.one 5 (.one 6 (.take [7,8,9,10,11] true (.done)))))⟩]
abbrev Yp:adH:=[⟨1,.take [0,1,2,3,4] false (.both 5 (.one 6 (.one 7 (.done))) (.one 6 (.one 5 (.one 7 (.done)))))⟩,⟨4,.take [0,1,2,3,4,5] true (.one 6 (.done))⟩]
abbrev Wj:adH:=[⟨7,.take [0,1,2,3] true (.done)⟩]
abbrev Yq:adH:=[⟨1,.take [0,1,2,3,4,5,6,7,8,9] true (.done)⟩]
abbrev R6:adH:=[⟨4,.take [0,1,2,3,4,5] false (.one 6 (.done))⟩]
abbrev Wk:adH:=[⟨16,.take [0,1,2,4,5,6,8,9,12] false (.both 3 (.one 7 (.one 10 (.one 11 (.one 13 (.done))))) (.one 7 (.both 3 (.one 10 (.one 11 (.one 13 (.done)))) (.one 10 (.take [3] true (.one 11 (.one 13 (.done))))))))⟩]
abbrev Wm:adH:=[⟨0,.take [0,1,3,4,6,7] false (.both 2 (.both 5 (.take [11] false (.both 8 (.take [12] false (.one 9 (.one 10 (.done)))) (.one 9 (.one 8 (.take [12] false (.one 10 (.done))))))) (.one 9 (.one 5 (.take [11] false (.one 8 (.take [12] false (.one 10 (.done)))))))) (.one 9 (.one 2 (.one 5 (.take [11] false (.one 8 (.take [12] false (.one 10 (.done)))))))))⟩,⟨8,.take [0,1,2,3,5,6,7,8] false (.one 4 (.one 9 (.done)))⟩]
abbrev Wn:adH:=[⟨24,.take [0,1,2,3,4,5,6,7,8,9,10,11,12,13,14,15,16,17,18,19,20,21,22,23,24] true (.done)⟩,⟨29,.take [0,1,2,3,4,5,6,7,8,9,10,11,12,13,14,15,16,17,18,19,20,21,22] true (.done)⟩]
abbrev Wo:adH:=[⟨4,.take [0,2,4] false (.take [1] true (.one 3 (.one 5 (.done))))⟩,⟨5,.take [0,1,2] false (.one 3 (.one 4 (.take [5,6,8,9,10,12,15,16,17] false (.both 7 (.both 11 (.both 13 (.both 14 (.one 18 (.one 19 (.take [20,21] true (.done)))) (.one 18 (.one 14 (.one 19 (.take [20,21] true (.done)))))) (.one 18 (.one 13 (.one 14 (.one 19 (.take [20,21] true (.done))))))) (.both 13 (.both 11 (.both 14 (.one 18 (.one 19 (.take [20,21] true (.done)))) (.one 18 (.one 14 (.one 19 (.take [20,21] true (.done)))))) (.one 18 (.one 11 (.one 14 (.one 19 (.take [20,21] true (.done))))))) (.one 18 (.both 11 (.one 13 (.one 14 (.one 19 (.take [20,21] true (.done))))) (.one 13 (.one 11 (.one 14 (.one 19 (.take [20,21] true (.done)))))))))) (.both 11 (.both 7 (.both 13 (.both 14 (.one 18 (.one 19 (.take [20,21] true (.done)))) (.one 18 (.one 14 (.one 19 (.take [20,21] true (.done)))))) (.one 18 (.one 13 (.one 14 (.one 19 (.take [20,21] true (.done))))))) (.both 13 (.both 7 (.both 14 (.one 18 (.one 19 (.take [20,21] true (.done)))) (.one 18 (.one 14 (.one 19 (.take [20,21] true (.done)))))) (.both 14 (.both 7 (.one 18 (.one 19 (.take [20,21] true (.done)))) (.one 18 (.one 7 (.one 19 (.take [20,21] true (.done)))))) (.one 18 (.both 7 (.one 14 (.one 19 (.take [20,21] true (.done)))) (.one 14 (.one 7 (.one 19 (.take [20,21] true (.done))))))))) (.one 18 (.both 7 (.one 13 (.one 14 (.one 19 (.take [20,21] true (.done))))) (.one 13 (.both 7 (.one 14 (.one 19 (.take [20,21] true (.done)))) (.one 14 (.one 7 (.one 19 (.take [20,21] true (.done))))))))))) (.both 13 (.both 7 (.both 11 (.both 14 (.one 18 (.one 19 (.take [20,21] true (.done)))) (.one 18 (.one 14 (.one 19 (.take [20,21] true (.done)))))) (.one 18 (.one 11 (.one 14 (.one 19 (.take [20,21] true (.done))))))) (.both 11 (.both 7 (.both 14 (.one 18 (.one 19 (.take [20,21] true (.done)))) (.one 18 (.one 14 (.one 19 (.take [20,21] true (.done)))))) (.both 14 (.both 7 (.one 18 (.one 19 (.take [20,21] true (.done)))) (.one 18 (.one 7 (.one 19 (.take [20,21] true (.done)))))) (.one 18 (.both 7 (.one 14 (.one 19 (.take [20,21] true (.done)))) (.one 14 (.one 7 (.one 19 (.take [20,21] true (.done))))))))) (.one 18 (.both 7 (.one 11 (.one 14 (.one 19 (.take [20,21] true (.done))))) (.one 11 (.both 7 (.one 14 (.one 19 (.take [20,21] true (.done)))) (.one 14 (.one 7 (.one 19 (.take [20,21] true (.done))))))))))) (.one 18 (.both 7 (.both 11 (.one 13 (.one 14 (.one 19 (.take [20,21] true (.done))))) (.one 13 (.one 11 (.one 14 (.one 19 (.take [20,21] true (.done))))))) (.both 11 (.both 7 (.one 13 (.one 14 (.one 19 (.take [20,21] true (.done))))) (.one 13 (.both 7 (.one 14 (.one 19 (.take [20,21] true (.done)))) (.one 14 (.one 7 (.one 19 (.take [20,21] true (.done)))))))) (.one 13 (.both 7 (.one 11 (.one 14 (.one 19 (.take [20,21] true (.done))))) (.one 11 (.both 7 (.one 14 (.one 19 (.take [20,21] true (.done)))) (.one 14 (.one 7 (.one 19 (.take [20,21] true (.done))))))))))))))))))⟩]
abbrev Wp:adH:=[⟨1,.take [0,1,2,3,4,5] true (.one 6 (.done))⟩]
abbrev Wq:adH:=[⟨3,.take [0,1,2,3] false (.one 4 (.one 5 (.take [6,7,8,9,10] true (.done))))⟩,⟨6,.take [0,1,2,3,4,5] true (.one 6 (.done))⟩]
abbrev Wr:adH:=[⟨1,.take [0,1,2,3,4,5,6,7,8,9,10,11,12,13,14,15,16,17] false (.one 18 (.take [19] true (.done)))⟩]
abbrev Wt:adH:=[⟨0,.take [0,1,2,3] false (.one 4 (.one 5 (.done)))⟩]
abbrev Wu:adH:=[⟨4,.take [0,1,2,3,4,5,6,7,9,10,11,12] false (.both 8 (.one 13 (.one 14 (.take [15,16] true (.done)))) (.one 13 (.one 8 (.one 14 (.take [15,16] true (.done))))))⟩,⟨6,.take [0,1,2,3,4,5,6,7,8,10,11,12,14,16] false (.take [9,13] true (.one 15 (.one 17 (.done))))⟩]
abbrev Wv:adH:=[⟨4,.take [0,1,2,3,4,5,6,7,8,9,10,11,12,13,14,15,16,17,18,19,20] true (.done)⟩]
abbrev Ww:adH:=[⟨8,.take [0,1,2,3,4,5,6,7,8,9,10,11,12,13,14] true (.done)⟩,⟨11,.take [0,1,3,4,5,6,7,8,10] false (.one 2 (.take [9,11] false (.one 12 (.one 13 (.take [14] true (.done))))))⟩,⟨17,.take [0,1,2,3] false (.one 4 (.one 5 (.take [6] true (.done))))⟩]
abbrev Wx:adH:=[⟨4,.take [0,1,2,3,4,5,6,7,8,9,10,11,12,13,14,15,16,17,18,19,20,21,22] false (.both 23 (.one 24 (.one 25 (.one 26 (.done)))) (.one 24 (.one 23 (.one 25 (.one 26 (.done))))))⟩,⟨5,.take [0,1,2,3,4,5,6,7,8,9,10,11,12,13,14,15,16,17,18,19,20,21,22,23,24,26,27] false (.one 25 (.one 28 (.one 29 (.take [30,31,32] true (.done)))))⟩]
attribute [simp] PY
abbrev int(n:Int):AV:=.lit (.int .i64 n)
abbrev u8(n:Int):AV:=.lit (.int .u8 n)
abbrev bool(b:Bool):AV:=.lit (.bool b)
abbrev ints(l:adQ):AV:=.sl 1 (l.map int) .any
abbrev rows(l:adw):AV:=.sl 1 (l.map ints) .any
structure xq where
 hour:Int
 place:Int
 ck:Int
 marks:adQ
 bf:Int
 gK:Int
 deriving DecidableEq
structure Fr where
 au:List xq
 roads:adw
 aX:Int
 fe:Int
 cL:Int
 aY:Int
 deriving DecidableEq
abbrev aZ(e:xq):AV:=.agg [int e.hour,int e.place,int e.ck,ints e.marks,int e.bf,int e.gK]
abbrev jH(l:List xq):AV:=.sl 6 (l.map aZ) .any
abbrev IV(f:Fr):adV:=[jH f.au,rows f.roads,int f.aX,int f.fe,int f.cL,int f.aY]
abbrev bF(f:Fr):AV:=.agg (IV f)
abbrev mW(b mb:Nat)(f:Fr)(o:Nat):AV:=.kp b [jH f.au,rows f.roads,int f.aX,int f.fe,int f.cL,int f.aY,.lit (.int .i32 0),.lit (.int .u32 0),.map mb] [6,7] o
def bC(a lo hi:Int):Bool:=decide (lo<=a) && decide (a<=hi)
def xV:Option Int->Int->Bool
 |some q,h=>decide (h<=q)
 |none,_=>false
def m9:Option Int->adQ->Int
 |_,[]=>0
 |p,h::l=>if bC h 0 4=false then 3 else if xV p h=true then 5 else m9 (some h) l
def bS(places:Int)(e:xq):Int:=
 if bC e.hour 0 72=false then 1 else if bC e.place 0 (places-1)=false then 3 else if bC e.ck 0 5=false then 1 else if m9 none e.marks≠0 then m9 none e.marks
 else if bC e.bf 0 30=false then 1 else if bC e.gK 0 2=false then 8 else 0
def eM(f:xq->Int):List xq->Int
 |[]=>0
 |d::l=>if f d=0 then eM f l else f d
theorem H4(l:adQ)  i   h   p :m9 p (l.drop i)=if bC l[i] 0 4=false then 3 else if xV p l[i]=true then 5 else m9 (some l[i]) (l.drop (i+1)):=by rw[abH h,m9]
theorem vT  f  (l:List xq)  i   h :eM f (l.drop i)=if f l[i]=0 then eM f (l.drop (i+1))else f l[i]:=by rw[abH h,eM]
theorem Dg{α:Type}{l a:List α}{k}  g  (g':k<a.length) (h:l.take k=a.take k) (e:l[k]=a[k]):l.take (k+1)=a.take (k+1):=by rw[zG g,zG g',h,e]
def rd(r:adw)(i j:Nat):Int:=(r.getD i []).getD j 0
def cy(r:adw)(i j:Nat):Bool:=rd r i i !=0||rd r i j !=rd r j i||(List.range r.length).any λk=>decide (rd r i j>rd r i k+rd r k j)
def jx(n:Nat)(l:adQ):Int:=if l.length≠n then 9 else if l.all (bC · 0 9)then 0 else 1
def fN(n:Nat):adw->Int
 |[]=>0
 |l::r=>if jx n l=0 then fN n r else jx n l
def fB(r:adw):Int:=
 if r.length<1 then 7 else if 3<r.length then 6 else if fN r.length r≠0 then fN r.length r
 else if(List.range r.length).any (λi=>(List.range r.length).any λj=>cy r i j)then 9 else 0
def check(f:Fr):Int:=
 if fB f.roads≠0 then fB f.roads else if(bC f.aX 0 3 && bC f.fe 0 3)=false then 1 else if f.fe<f.aX then 5
 else if(bC f.cL 1 6 && bC f.aY 1 6)=false then 1 else if(6:Int)<f.au.length then 6 else eM (bS f.roads.length) f.au
theorem ya  n  (l:adw)  i   h :fN n (l.drop i)=if jx n l[i]=0 then fN n (l.drop (i+1))else jx n l[i]:=by rw[abH h,fN]
structure Fr.Fits(f:Fr):Prop where
 au:f.au.length<1152921504606846976
 roads:f.roads.length<1152921504606846976
 row:∀r∈f.roads,r.length<1152921504606846976
 marks:∀e∈f.au,e.marks.length<1152921504606846976
def iW(i:Int):adQ->Int->Int
 |[],_=>-1
 |x::l,v=>if x=v then i else iW (i+1) l v
def iJ(l:adQ)(v:Int):Int:=iW 0 l v
theorem BG(l:adQ)  v   i   h   c :iW c (l.drop i) v=if l[i]=v then c else iW (c+1) (l.drop (i+1)) v:=by rw[abH h,iW]
theorem zE  v :∀  l   i ,0<=i->(0<=iW i l v↔v∈l)
 |[],i,h=>by simp[iW]
 | x::l,i,h=>by
   unfold iW;split
   . simp_all
   . next e=>rw[zE v l (i+1) (by omega)];grind
theorem dP  l   v :0<=iJ l v↔v∈l:=zE v l 0 (acw _)
def iw(f:Fr)(e:xq):adQ:=if e.gK≠0 then(List.range (f.fe-f.aX+1).toNat).map λi:Nat=>e.bf-f.fe+(i:Int)else[]
def bQ(f:Fr)(e:xq):adQ:=if e.gK≠1/\e.bf∉iw f e then iw f e++[e.bf]else iw f e
def jm(first:adQ)(others:adw):adQ:=first.filter λx=>others.all λl=>decide (x∈l)
def aM(f:Fr)(i:Int):xq:=f.au.getD i.toNat ⟨0,0,0,[],0,0⟩
def fT(f:Fr)(l:adQ):adQ:=match l.map λi=>bQ f (aM f i)with|[]=>[]|a::r=>jm a r
def Wy(a b:Int):Int:=IntKind.u8.wrap (((BitVec.ofInt 8 a|||BitVec.ofInt 8 b).toNat:Nat):Int)
def Fs(a b:Int):Int:=IntKind.u8.wrap (((BitVec.ofInt 8 a &&& BitVec.ofInt 8 b).toNat:Nat):Int)
def zF(a b:Int):Int:=IntKind.u8.wrap (((BitVec.ofInt 8 a ^^^ BitVec.ofInt 8 b).toNat:Nat):Int)
def R7(a b:Int):Int:=IntKind.u8.wrap (a-b)
theorem uF  a b :nR .or .u8 a b=some (.int .u8 (Wy a b)):=rfl
theorem vG  a b :nR .and .u8 a b=some (.int .u8 (Fs a b)):=rfl
theorem Kf  a b :nR .xor .u8 a b=some (.int .u8 (zF a b)):=rfl
theorem Kg  a b :nR .sub .u8 a b=some (.int .u8 (R7 a b)):=rfl
def cu(m n:Int):Int:=Wy m (IntKind.u8.wrap (2 ^ min n.toNat IntKind.u8.bits))
def gF(m n:Int):Bool:=Fs (m.fdiv (2 ^ min n.toNat IntKind.u8.bits)) 1==1
def aD(m:Int):adQ:=((List.range 6).map λn:Nat=>(n:Int)).filter λn=>gF m n
def aU(l:adQ):Int:=l.foldl cu 0
end
section
open Go.bU Go.Conc
variable{m:Mo}{σ:ab}{KF:adC}
theorem fq{a lo hi}(h:KF (.val (bool (bC a lo hi))) σ):aA prog m 117 [int a,int lo,int hi] σ KF:=by
 unfold bC at h;refine fs [] Tryz.func117 rfl (by kernel_rfl) ?_;simp[Tryz.f117];refine tj.intro (λb=>?_) (λb=>?_)<;>simp[b]
 . exact .done (by simp_all)
 . exact .done (by simp_all)
theorem Nx{l v}(j:l.length<1152921504606846976)(h:KF (.val (int (iJ l v))) σ):aA prog m 57 [ints l,int v] σ KF:=by
 refine fs [] Tryz.func57 rfl (by kernel_rfl) ?_;simp[Tryz.f57];refine aa.loop l.length (λk s=>∃env,s=⟨env,σ,[],.no⟩/\env 0=ints l/\env 1=int v/\env 7=int l.length/\env 8=int k/\iW 0 l v=iW k (l.drop k) v) ⟨_,rfl,by simp⟩ ?_;rintro n k _ o ⟨env,rfl,e,f,g,d,a⟩ i;apply rn;simp[g,d];apply aG.intro<;>intro c<;>simp at c<;>simp[e,f,d,c]
 . rw[BG l v k c]at a
   refine aG.intro (λb=>?_) (λb=>?_)<;>(try simp at b)<;>(try simp[b]at a)<;>(try simp[d,b])<;>(try exact .done a)
   . subst b
     unfold iJ at h;rw[a]at h;exact .done h
   . refine⟨by omega,i _ c ⟨_,rfl,?_,?_,?_,?_,by grind⟩⟩<;>simp[e,f,g]
 . have:k=l.length:=by omega
   subst this;unfold iJ at h;rw[a]at h;simp[iW]at h;exact .done h
theorem nK{l v}(a:l.length<1152921504606846976)(h:KF (.val (bool (decide (v∈l)))) σ):aA prog m 55 [ints l,int v] σ KF:=by
 refine fs [] Tryz.func55 rfl (by kernel_rfl) ?_;simp[Tryz.f55];refine cf Tryz.func57 rfl (Nx a ?_);apply rn;simp;rw[<-decide_eq_decide.2 (dP l v)]at h;exact .done h
theorem fU{l v}(i:l.length<1152921504606846976)(h:KF (.val (int (iJ l v))) σ):aA prog m 21 [ints l,int v] σ KF:=by
 refine fs [] Tryz.func21 rfl (by kernel_rfl) ?_;simp[Tryz.f21];refine aa.loop l.length (λk s=>∃env,s=⟨env,σ,[],.no⟩/\env 0=ints l/\env 1=int v/\env 5=int k/\iW 0 l v=iW k (l.drop k) v) ⟨_,rfl,by simp⟩ ?_;rintro j k _ n ⟨env,rfl,d,f,e,a⟩ g;apply rn;simp[d,e];apply aG.intro<;>intro c<;>simp at c<;>simp[d,f,e,c]
 . rw[BG l v k c]at a
   refine aG.intro (λb=>?_) (λb=>?_)<;>(try simp at b)<;>(try simp[b]at a)<;>(try simp[e,b])<;>(try exact .done a)
   . subst b
     unfold iJ at h;rw[a]at h;exact .done h
   . refine⟨by omega,g _ c ⟨_,rfl,?_,?_,?_,by grind⟩⟩<;>simp[d,f]
 . have:k=l.length:=by omega
   subst this;unfold iJ at h;rw[a]at h;simp[iW]at h;exact .done h
theorem qD{a b}(r:a.length<1152921504606846976)(hb:b.length<1152921504606846976)(h:KF (.val (bool (decide (a=b)))) σ):aA prog m 18 [ints a,ints b] σ KF:=by
 refine fs Yh Tryz.func18 rfl (by kernel_rfl) ?_;simp[Tryz.f18];refine aa.loop a.length (λk s=>∃env,s=⟨env,σ,[],.no⟩/\env 0=ints a/\env 1=ints b/\env 5=int k/\k<=b.length/\a.take k=b.take k) ⟨_,rfl,by simp⟩ ?_;rintro t k _ u ⟨env,rfl,d,i,f,o,n⟩ p;apply rn;simp[d,f];refine tj.intro (λc=>?_) (λc=>?_)<;>(try simp[-Nat.not_lt,-Nat.not_le]at c)<;>(try simp[d,i,f,c])
 . refine aG.intro (λg=>?_) (λg=>?_)<;>(try simp[-Nat.not_lt,-Nat.not_le]at g)<;>(try simp[d,i,f,g,c])
   . apply rn
     simp;apply aG.intro<;>intro j<;>simp at j<;>simp[f,j]
     . have:a≠b:=λe=>by simp_all
       simp[this]at h;exact .done h
     . refine⟨by omega,p _ c ⟨_,rfl,?_,?_,?_,by omega,Dg c g n j⟩⟩<;>simp[d,i]
   . have:a≠b:=λe=>by simp_all
     have l:((a.length:Int)==b.length)=false:=by grind
     rw[l];exact .done (by simp_all)
 . have:k=a.length:=by omega
   subst this;rw[aaD]at n;by_cases e:a.length=b.length
   . have:a=b:=by grind
     exact .done (by grind)
   . have:a≠b:=λq=>e (by rw[q])
     have l:((a.length:Int)==b.length)=false:=by grind
     rw[l];exact .done (by grind)
theorem Ft{n}(h:KF (.val (bool false)) σ):aA prog m 187 [int n] σ KF:=by
 refine fs [] Tryz.func187 rfl (by kernel_rfl) ?_;simp[Tryz.f187];exact .done h
def Dh(x y:Int):Int:=if x<y then -1 else if y<x then 1 else 0
theorem Hk{x y}(h:KF (.val (int (Dh x y))) σ):aA prog m 167 [int x,int y] σ KF:=by
 unfold Dh at h;refine fs [] Tryz.func167 rfl (by kernel_rfl) ?_;simp[Tryz.f167];refine cf Tryz.func187 rfl (Ft ?_);apply rn;simp;refine cf Tryz.func187 rfl (Ft ?_);apply rn;simp;refine aG.intro (λa=>?_) (λa=>?_)<;>(try simp[-Int.not_lt,-Int.not_le]at a)<;>(try simp[a]at h)<;>(try simp[a])<;>(try exact .done h);refine aG.intro (λb=>?_) (λb=>?_)<;>(try simp[-Int.not_lt,-Int.not_le]at b)<;>(try simp[b]at h)<;>(try simp[b])<;>(try exact .done h)
theorem AH{e places}(w:0<=places/\places<1152921504606846976)(x:e.marks.length<1152921504606846976)(h:KF (.val (int (bS places e))) σ):aA prog m 154 [aZ e,int places] σ KF:=by
 unfold bS at h;refine fs [] Tryz.func154 rfl (by kernel_rfl) ?_;simp[Tryz.f154];refine cf Tryz.func117 rfl (fq ?_);apply rn;simp;refine aG.intro (λi=>?_) (λi=>?_)<;>(try simp at i)<;>(try simp[i]at h)<;>(try simp[i])<;>(try exact .done h);refine⟨by omega,?_⟩;refine cf Tryz.func117 rfl (fq ?_);apply rn;simp;refine aG.intro (λj=>?_) (λj=>?_)<;>(try simp at j)<;>(try simp[j]at h)<;>(try simp[j])<;>(try exact .done h);refine cf Tryz.func117 rfl (fq ?_);apply rn;simp;refine aG.intro (λl=>?_) (λl=>?_)<;>(try simp at l)<;>(try simp[l]at h)<;>(try simp[l])<;>(try exact .done h);refine aa.loop e.marks.length (λk s=>∃env,s=⟨env,σ,[],.no⟩/\env 2=.cp (aZ e) 0/\env 22=ints e.marks/\env 23=int e.marks.length/\env 24=int k/\m9 none e.marks=m9 (if k=0 then none else e.marks[k-1]?) (e.marks.drop k)) ⟨_,rfl,by simp⟩ ?_
 rintro y k _ z ⟨env,rfl,n,f,g,b,a⟩ r;apply rn;simp[g,b];apply aG.intro<;>intro o<;>simp at o<;>simp[n,f,b,o]
 . rw [H4 _ k o]at a
   refine cf Tryz.func117 rfl (fq ?_);apply rn;simp;refine aG.intro (λc=>?_) (λc=>?_)<;>(try simp at c)<;>(try simp[c]at a)<;>(try simp[c])<;>(try exact .done a)
   . refine tj.intro (λd=>?_) (λd=>?_)<;>(try simp at d)<;>(try simp[d]at a)<;>(try simp[n,b,d])<;>(try exact .done a)
     . have t:(k:Int)-1=((k-1:Nat):Int):=by omega
       have q:k-1<e.marks.length:=by omega
       have u:¬k=0:=by omega
       simp[t,q];repeat refine⟨by omega,?_⟩
       try simp[q,u,xV]at a
       refine aG.intro (λp=>?_) (λp=>?_)<;>(try simp at p)<;>(try simp[p]at a)<;>(try simp[b,p])<;>(try exact .done a)
       . simp[a]at h
         exact .done h
       . refine⟨by omega,r _ o ⟨_,rfl,by simp[n],by simp[f],by simp[g],by simp,?_⟩⟩
         grind
     . have v:k=0:=by omega
       subst v;simp[xV]at a
       simp_all
   . simp[a]at h
     exact .done h
 . have:k=e.marks.length:=by omega
   subst this;simp[m9]at a;simp[a]at h;refine cf Tryz.func117 rfl (fq ?_);apply rn;simp;refine aG.intro (λc=>?_) (λc=>?_)<;>(try simp at c)<;>(try simp[c]at h)<;>(try simp[n,c])<;>(try exact .done h);refine cf Tryz.func117 rfl (fq ?_);apply rn;simp;refine aG.intro (λd=>?_) (λd=>?_)<;>(try simp at d)<;>(try simp[d]at h)<;>(try simp[d])<;>(try exact .done h)
theorem iI{n}:∀{r},fN n r=0->∀l∈r,l.length=n/\∀x∈l,bC x 0 9=true
 |[],_,l,b=>by simp at b
 | a :: r,h,l,b=>by
   unfold fN at h;split at h
   . next c=>
     rcases abp.1 b with rfl|b
     . unfold jx at c
       grind
     . exact iI h l b
   omega
theorem dO{r i j}  hi  (hj:j<r[i].length):rd r i j=r[i][j]:=by simp[rd,zD,hi,hj]
theorem dI{a lo hi}(h:bC a lo hi=true):lo<=a/\a<=hi:=by simpa[bC]using h
theorem AI{r}(hr:r.length<1152921504606846976)(hl:∀l∈r,l.length<1152921504606846976)(h:KF (.val (int (fB r))) σ):aA prog m 153 [rows r] σ KF:=by
 unfold fB at h;refine fs Wn Tryz.func153 rfl (by kernel_rfl) ?_
 simp[Tryz.f153];refine aG.intro (λV=>?_) (λV=>?_)<;>simp at V<;>simp[V]
 . rw[aav (show r.length<1 by omega)]at h
   exact .done h
 refine aG.intro (λW=>?_) (λW=>?_)<;>simp at W<;>simp[W]
 . have X:¬r.length<1:=by omega
   have P:3<r.length:=by omega
   rw[aau (show ¬r.length<1 by omega),aav P]at h
   exact .done h
 have X:¬r.length<1:=by omega
 have P:¬3<r.length:=by omega
 rw[aau X,aau P]at h;refine aa.loop r.length (λk s=>∃env,s=⟨env,σ,[],.no⟩/\env 0=rows r/\env 19=rows r/\env 20=int r.length/\env 21=int k/\fN r.length r=fN r.length (r.drop k)) ⟨_,rfl,by simp⟩ ?_
 rintro c0 k _ hk ⟨env,rfl,a,n,o,g,v⟩ Q
 apply rn;simp[o,g];apply aG.intro<;>intro H<;>simp at H<;>simp[a,n,g,H]
 . rw [ya _ _ k H]at v
   obtain⟨l,I⟩:∃l,l=r[k]:=⟨_,rfl⟩;simp only[<-I]at v ⊢;have av:l.length<1152921504606846976:=hl l (by rw[I];exact zj H)
   refine aG.intro (λb=>?_) (λb=>?_)<;>simp at b<;>simp[b]
   . have w:l.length≠r.length:=λe=>b (by rw[e])
     simp[jx,w]at v;simp[v]at h;exact .done h
   have w:l.length=r.length:=by omega
   refine aa.loop l.length (λj s=>∃env,s=⟨env,σ,[],.no⟩/\env 0=rows r/\env 19=rows r/\env 20=int r.length/\env 21=int k/\env 30=ints l/\env 31=int l.length/\env 32=int j/\(l.take j).all (bC · 0 9)=true) ⟨_,rfl,by simp[a,n,o,g,w]⟩ ?_
   clear a n o g
   rintro c1 j _ R ⟨env,rfl,a,n,o,g,J,K,B,x⟩ C
   apply rn;simp[K,B];apply aG.intro<;>intro p<;>simp at p<;>simp[g,J,B,p]
   . refine cf Tryz.func117 rfl (fq ?_)
     apply rn;simp;refine aG.intro (λu=>?_) (λu=>?_)<;>(try simp at u)<;>(try simp[B,u])
     . refine⟨by omega,C _ p ⟨_,rfl,by simp[a],by simp[n],by simp[o],by simp[g],by simp[J],by simp[K],by simp,?_⟩⟩
       rw[zG p,acT,x];simp[u]
     . have:l.all (bC · 0 9)=false:=by
        rw[List.all_eq_false];exact⟨_,zj p,by simp[u]⟩
       simp[jx,w,this]at v;simp[v]at h;exact .done h
   . have:j=l.length:=by omega
     subst this;rw[aaD]at x;have Y:jx r.length l=0:=by unfold jx;rw[aau (by simp[w]),aav x]
     rw[aav Y]at v;refine⟨by omega,Q _ H ⟨_,rfl,?_,?_,?_,?_,v⟩⟩<;>simp[a,n,o]
 have:k=r.length:=by omega
 subst this;simp[fN]at v;rw[aau (by omega)]at h
 clear Q;have al:∀(i:Nat) (F:i<r.length),r[i].length=r.length:=λi F=>(iI v _ (zj F)).1
 have L:∀(i:Nat) (F:i<r.length) (j:Nat) (R:j<r[i].length),0<=r[i][j]/\r[i][j]<=9:=λi F j R=>dI ((iI v _ (zj F)).2 _ (zj R))
 refine aa.loop r.length (λi s=>∃env,s=⟨env,σ,[],.no⟩/\env 0=rows r/\env 41=rows r/\env 42=int r.length/\env 43=int i/\∀i'<i,∀j<r.length,cy r i' j=false) ⟨_,rfl,by simp[a]⟩ ?_
 clear a n o g
 rintro c1 i _ F ⟨env,rfl,a,f,d,c,Z⟩ Q
 apply rn;simp[d,c];apply aG.intro<;>intro b<;>simp at b<;>simp[a,c,b]
 . refine aa.loop r.length (λj s=>∃env,s=⟨env,σ,[],.no⟩/\env 0=rows r/\env 41=rows r/\env 42=int r.length/\env 43=int i/\env 8=int i/\env 46=rows r/\env 47=int r.length/\env 48=int j/\∀D<j,cy r i D=false) ⟨_,rfl,by simp[a,f,d,c]⟩ ?_
   clear a f d c
   rintro c2 j _ R ⟨env,rfl,a,f,d,c,z,y,t,q,ax⟩ C
   apply rn;simp[t,q];apply aG.intro<;>intro p<;>simp at p<;>simp[a,c,z,q,p]
   . have q1 : i<r[i].length:=by grind
     have G:j<r[i].length:=by grind
     have q3:i<r[j].length:=by grind
     simp[z,b,q1];refine LG.intro (λu=>?_) (λu=>?_)<;>(try simp at u)<;>(try simp[a,z,u,b,p,G,q3])
     . apply rn
       simp;apply aG.intro<;>intro S<;>simp at S<;>simp[a,S]
       ·
        have hb:cy r i j=true:=by unfold cy;rw[dO b G,dO p q3];simp[S]
        have:((List.range r.length).any λi=>(List.range r.length).any λj=>cy r i j)=true:=abr.2 ⟨i,LK.2 b,abr.2 ⟨j,LK.2 p,hb⟩⟩
        rw[aav this]at h;exact .done h
       . refine aa.loop r.length (λk s=>∃env,s=⟨env,σ,[],.no⟩/\env 0=rows r/\env 41=rows r/\env 42=int r.length/\env 43=int i/\env 8=int i/\env 46=rows r/\env 47=int r.length/\env 48=int j/\env 9=int j/\env 76=rows r/\env 77=int r.length/\env 78=int k/\∀M<k,¬rd r i j>rd r i M+rd r M j) ⟨_,rfl,by simp[a,f,d,c,z,y,t,q]⟩ ?_
         clear a f d c z y t q
         rintro c3 k _ hk ⟨env,rfl,a,f,d,c,z,y,t,q,h9,a7,N,E,a8⟩ a9
         apply rn;simp[N,E];apply aG.intro<;>intro A<;>simp at A<;>simp[a,z,q,E,A]
         . have T:k<r[i].length:=by grind
           have U:j<r[k].length:=by grind
           have b1:=L i b k T;have b2:=L k A j U;have f1:-9223372036854775808<=r[i][k]+r[k][j]:=by omega
           have f2:r[i][k]+r[k][j]<=9223372036854775807:=by omega
           simp[a,z,h9,b,A,G,T,U,f1,f2];apply rn;simp;apply aG.intro<;>intro O<;>simp at O<;>simp[E,O]
           . have hb:cy r i j=true:=by
              unfold cy;have:((List.range r.length).any λk=>decide (rd r i j>rd r i k+rd r k j))=true:=abr.2 ⟨k,LK.2 A,by rw[dO b G,dO b T,dO A U];grind⟩
              grind
             have:((List.range r.length).any λi=>(List.range r.length).any λj=>cy r i j)=true:=abr.2 ⟨i,LK.2 b,abr.2 ⟨j,LK.2 p,hb⟩⟩
             rw[aav this]at h;exact .done h
           . refine⟨by omega,a9 _ A ⟨_,rfl,by simp[a],by simp[f],by simp[d],by simp[c],by simp[z],by simp[y],by simp[t],by simp[q],by simp[h9],by simp[a7],by simp[N],by simp,λM ay=>?_⟩⟩
             by_cases e:M=k
             . subst e
               rw[dO b G,dO b T,dO A U];omega
             . exact a8 M (by omega)
         . have:k=r.length:=by omega
           subst this;refine⟨by omega,C _ p ⟨_,rfl,by simp[a],by simp[f],by simp[d],by simp[c],by simp[z],by simp[y],by simp[t],by simp,λD ad=>?_⟩⟩
           by_cases e:D=j
           . subst e
             unfold cy
             have X:((List.range r.length).any λk=>decide (rd r i D>rd r i k+rd r k D))=false:=by
              rw[abW]
              grind
             have P:rd r i i=0:=by rw[dO b q1];exact u
             have e3:rd r i D=rd r D i:=by rw[dO b G,dO p q3];exact S
             grind
           grind
     . have e:(r[i][i] !=0)=true:=by simp[u]
       simp[e];apply rn;simp
       have hb:cy r i j=true:=by unfold cy;rw[dO b q1];simp[u]
       have:((List.range r.length).any λi=>(List.range r.length).any λj=>cy r i j)=true:=abr.2 ⟨i,LK.2 b,abr.2 ⟨j,LK.2 p,hb⟩⟩
       rw[aav this]at h;exact .done h
   . have:j=r.length:=by omega
     subst this;refine⟨by omega,Q _ b ⟨_,rfl,by simp[a],by simp[f],by simp[d],by simp,λi' aC j ad=>?_⟩⟩
     grind
 . have:i=r.length:=by omega
   subst this
   have:((List.range r.length).any λi=>(List.range r.length).any λj=>cy r i j)=false:=by grind
   rw[this]at h;exact .done (by grind)
theorem Fu{f}(g:f.Fits)(h:KF (.val (int (check f))) σ):aA prog m 116 [bF f] σ KF:=by
 unfold check at h;have z:=g.roads;have x:=g.au;refine fs [] Tryz.func116 rfl (by kernel_rfl) ?_;simp[Tryz.f116];refine cf Tryz.func153 rfl (AI g.roads g.row ?_);apply rn;simp;refine aG.intro (λn=>?_) (λn=>?_)<;>(try simp at n)<;>(try simp[n]at h)<;>(try simp[n])<;>(try exact .done h);refine cf Tryz.func117 rfl (fq ?_);apply rn;simp;refine tj.intro (λo=>?_) (λo=>?_)<;>(try simp at o)<;>(try simp[o]at h)<;>(try simp[o])<;>(try exact .done h);refine cf Tryz.func117 rfl (fq ?_);apply rn;simp;refine aG.intro (λp=>?_) (λp=>?_)<;>(try simp at p)<;>(try simp[p]at h)<;>(try simp[p])<;>(try exact .done h);refine aG.intro (λq=>?_) (λq=>?_)<;>(try simp[-Int.not_lt,-Int.not_le]at q)<;>(try simp[q]at h)<;>(try simp[q])<;>(try exact .done h)
 refine cf Tryz.func117 rfl (fq ?_);apply rn;simp;refine tj.intro (λr=>?_) (λr=>?_)<;>(try simp at r)<;>(try simp[r]at h)<;>(try simp[r])<;>(try exact .done h);refine cf Tryz.func117 rfl (fq ?_);apply rn;simp;refine aG.intro (λt=>?_) (λt=>?_)<;>(try simp at t)<;>(try simp[t]at h)<;>(try simp[t])<;>(try exact .done h);refine aG.intro (λu=>?_) (λu=>?_)<;>(try simp[-Int.not_lt,-Int.not_le]at u)<;>(try simp[u]at h)<;>(try simp[u])<;>(try exact .done h);refine aa.loop f.au.length (λk s=>∃env a,s=⟨env,a,[],.no⟩/\σ.Le a/\env 1=.cp (bF f) 0/\env 47=jH f.au/\env 48=int f.au.length/\env 49=int k/\eM (bS f.roads.length) f.au=eM (bS f.roads.length) (f.au.drop k)) ⟨_,_,rfl,ab.le_refl _,by simp⟩ ?_;rintro A k _ B ⟨env,a,rfl,c,w,i,j,d,e⟩ y;apply rn;simp[j,d];apply aG.intro<;>intro l<;>simp at l<;>simp[i,d,l]
 . rw[vT _ _ k l]at e
   refine bV.intro λb hb=>?_
   simp[w];refine cf Tryz.func154 rfl (AH ⟨by omega,by omega⟩ (g.marks _ (zj l)) ?_);apply rn;simp;refine aG.intro (λv=>?_) (λv=>?_)<;>(try simp at v)<;>(try simp[v]at e)<;>(try simp[d,v])<;>(try exact .done e)
   . rw[e]at h
     exact .less (ab.sT c hb) (.done h)
   . refine⟨by omega,y _ l ⟨_,_,rfl,ab.sT c hb,?_,?_,?_,?_,e⟩⟩<;>simp[w,i,j]
 . have:k=f.au.length:=by omega
   subst this;simp[eM]at e;rw[e]at h;exact .less c (.done h)
structure xN(σ:ab)  b mb   σ' :Prop where
 hb:σ b=none
 DK:σ mb=none
 ne:b≠mb
 eq:σ'=(σ.set mb (mapA .u8 [])).set b (.part (bR 6))
def Ny(f:Fr)(σ:ab):adC:=λr a=>∃b mb,r=.val (.ref b 0)/\σ b=none/\σ mb=none/\b≠mb/\a=(σ.set mb (mapA .u8 [])).set b (.cells [jH f.au,rows f.roads,int f.aX,int f.fe,int f.cL,int f.aY,.lit (.int .i32 0),.lit (.int .u32 0),.map mb])
theorem Hl{f}(h:∀b mb σ',xN σ b mb σ'->KF (.val (mW b mb f 0)) σ'):aA prog m 118 [bF f] σ KF:=by
 refine aA.share (KF0:=Ny f σ) ?_ ?_
 . refine aA.start lay [6] [] 1 Tryz.func118 rfl rfl (by rfl) (by kernel_rfl) ?_
   simp[Tryz.f118];refine wv (Js .u8) rfl λmb DK=>?_
   refine aa.run lay [6] ?_;simp[aK];refine bV.intro λb hb=>?_
   obtain⟨d,e,hb⟩:=ab.aS hb;simp;exact .done ⟨b,mb,rfl,hb,DK,d,rfl⟩
 . rintro r σ' ⟨b,mb,rfl,hb,DK,a,rfl⟩
   refine .inr ⟨b,_,[6,7],bR 6,rfl,ab.ai _ _ _,λi v c=>?_,λi=>?_,?_⟩
   . unfold bR at c
     split at c
     . simp_all
     simp_all
   . unfold bR
     grind
   . exact h b mb _ ⟨hb,DK,a,by simp⟩
def dJ(f:Fr)(l:adQ):Int:=if check f≠0 then check f else if l.all (bC · 0 (f.au.length-1))then 0 else 3
theorem IW{f l}(o:f.Fits)(v:l.length<1152921504606846976)(h:dJ f l≠0->KF (.val (.cI [.lit (.pointer none),int (dJ f l)])) σ)
 (q:dJ f l=0->∀b mb σ',xN σ b mb σ'->KF (.val (.cI [mW b mb f 0,int 0])) σ'):aA prog m 82 [bF f,ints l] σ KF:=by
 have r:=o.au;refine fs [] Tryz.func82 rfl (by kernel_rfl) ?_
 simp[Tryz.f82];refine cf Tryz.func116 rfl (Fu o ?_);apply rn;simp;refine aG.intro (λi=>?_) (λi=>?_)<;>simp at i<;>simp[i]
 . have:dJ f l=check f:=by unfold dJ;omega
   rw[this]at h;exact .done (h i)
 refine aa.loop l.length (λk s=>∃env,s=⟨env,σ,[],.no⟩/\env 2=.cp (bF f) 0/\env 14=ints l/\env 15=int l.length/\env 16=int k/\(l.take k).all (bC · 0 (f.au.length-1))=true) ⟨_,rfl,by simp⟩ ?_
 rintro w k _ x ⟨env,rfl,p,d,g,c,a⟩ t
 apply rn;simp[g,c];apply aG.intro<;>intro j<;>simp at j<;>simp[p,d,c,j]
 . refine⟨by omega,?_⟩
   refine cf Tryz.func117 rfl (fq ?_);apply rn;simp;refine aG.intro (λn=>?_) (λn=>?_)<;>(try simp at n)<;>(try simp[c,n])
   . refine⟨by omega,t _ j ⟨_,rfl,by simp[p],by simp[d],by simp[g],by simp,?_⟩⟩
     rw[zG j,acT,a];simp[n]
   . have e:l.all (bC · 0 (f.au.length-1))=false:=by
      grind
     have:dJ f l=3:=by unfold dJ;simp_all
     rw[this]at h;exact .done (h (by simp))
 . have:k=l.length:=by omega
   subst this;rw[aaD]at a;have:dJ f l=0:=by unfold dJ;simp_all
   refine cf Tryz.func118 rfl (Hl λb mb σ' u=>?_)
   apply rn;simp;exact .done (q this b mb σ' u)
theorem Wz{a}(h:KF (.val (bool false)) σ):aA prog m 149 [.lit .nilIface,a] σ KF:=by
 refine fs [] Tryz.func149 rfl (by kernel_rfl) ?_;simp[Tryz.f149];refine iz lay rfl Q0 rfl (.inl ⟨rfl,rfl⟩) (.inl ⟨rfl,rfl⟩) ?_;apply rn;simp;exact .done h
end
section
open Go.bU Go.Conc
set_option maxRecDepth 4000
variable{m:Mo}{σ:ab}{KF:adC}
theorem sF(first:adQ)  others   k   h :jm (first.take (k+1)) others=jm (first.take k) others++if others.all (λl=>decide (first[k]∈l))then[first[k]]else[]:=by
 unfold jm;rw[zG h,abQ]
 grind
theorem Di  first   others :(jm first others).length<=first.length:=abq _ _
theorem Kh{first others sp f}(B:first.length<=1000000000)(C:others.length<1152921504606846976)(u:∀l∈others,l.length<1152921504606846976)(h:KF (.val (ints (jm first others))) σ):aA prog m 244 [.sl 1 (first.map int) sp,.sl 1 (others.map ints) f] σ KF:=by
 refine fs [] Tryz.func244 rfl (by kernel_rfl) ?_;simp[Tryz.f244];refine aa.loop first.length (λk s=>∃env e,s=⟨env,e,[],.no⟩/\env 0=.sl 1 (first.map int) sp/\env 1=.sl 1 (others.map ints) f/\env 10=.sl 1 (first.map int) sp/\env 11=int first.length/\env 12=int k/\Tok σ e (env 5) 1 ((jm (first.take k) others).map int)) ⟨_,_,rfl,by simp,by simp,by simp,by simp,by simp,.nil σ 1⟩ ?_
 rintro D k _ E ⟨env,e,rfl,n,g,c,d,b,a⟩ x;apply rn;simp[d,b];have hlen:=Di (first.take k) others;rw[abP]at hlen;apply aG.intro<;>intro o<;>simp at o<;>simp[g,c,b,o]
 . refine aa.loop others.length (λj s=>∃env,s=⟨env,e,[],.no⟩/\env 0=.sl 1 (first.map int) sp/\env 1=.sl 1 (others.map ints) f/\env 10=.sl 1 (first.map int) sp/\env 11=int first.length/\env 12=int k/\Tok σ e (env 5) 1 ((jm (first.take k) others).map int)/\env 7=int first[k]/\env 16=.sl 1 (others.map ints) f/\env 17=int others.length/\env 18=int j/\∀l∈others.take j,first[k]∈l) ⟨_,rfl,by simp[n,g,c,d,b,a]⟩ ?_
   clear n g c d b a;rintro F j _ G ⟨env,rfl,n,g,c,d,b,a,y,p,q,i,r⟩ v;apply rn;simp[q,i];apply aG.intro<;>intro t<;>simp at t<;>simp[y,p,i,t]
   . refine cf Tryz.func55 rfl (nK (u _ (zj t)) ?_)
     apply rn;simp;apply aG.intro<;>intro z<;>simp at z<;>simp[b,i,z]
     . refine⟨by omega,v _ t ⟨_,rfl,by simp[n],by simp[g],by simp[c],by simp[d],by simp[b],by simpa using a,by simp[y],by simp[p],by simp[q],by simp,λl u=>?_⟩⟩
       rw[zG t,aaC,lb]at u
       grind
     . refine⟨by omega,x _ o ⟨_,_,rfl,by simp[n],by simp[g],by simp[c],by simp[d],by simp,?_⟩⟩
       have:others.all (λl=>decide (first[k]∈l))=false:=by grind
       rw[sF _ _ _ o,this];simpa using a
   . have:j=others.length:=by omega
     subst this;rw[aaD]at r;refine aR lay rfl rfl rfl dK rfl dK rfl sb (by decide) (by simp;omega) (σ0:=σ) (es:=(jm (first.take k) others).map int) (xs:=[int first[k]]) (by simpa using a) (.inr ⟨_,rfl⟩) λH A w=>?_
     apply rn;simp[b];refine⟨by omega,x _ o ⟨_,_,rfl,by simp[n],by simp[g],by simp[c],by simp[d],by simp,?_⟩⟩;have:others.all (λl=>decide (first[k]∈l))=true:=by grind
     rw[sF _ _ _ o,this];simpa using w
 . have:k=first.length:=by omega
   subst this;rw[aaD]at a;exact .oo a.W (.less a.1 (.done h))
structure Fr.Good(f:Fr):Prop where
 fits:f.Fits
 fr:0<=f.aX/\f.aX<=3
 to:0<=f.fe/\f.fe<=3
 le:f.aX<=f.fe
 cL:1<=f.cL/\f.cL<=6
 aY:1<=f.aY/\f.aY<=6
 lu:f.au.length<=6
 qB:∀e∈f.au,bS f.roads.length e=0
 Jd:fB f.roads=0
theorem sG  g :∀{l},eM g l=0->∀e∈l,g e=0
 |[],_,e,he=>by simp at he
 | a ::l,h,e,he=>by
   unfold eM at h;split at h
   . next b=>
     rcases abp.1 he with rfl|he
     . exact b
     . exact sG g h e he
   omega
theorem Fr.om{f}(c:f.Fits)(h:check f=0):f.Good:=by
 unfold check at h;split at h
 . omega
 next d=>
 split at h
 . cases h
 next a=>
 split at h
 . cases h
 next e=>
 split at h
 . cases h
 next b=>
 split at h
 . cases h
 next g=>
 simp only[Bool.not_eq_false,za]at a b;exact⟨c,dI a.1,dI a.2,by omega,dI b.1,dI b.2,by omega,sG _ h,by omega⟩
theorem kR{p e}(h:bS p e=0):(0<=e.hour/\e.hour<=72)/\(0<=e.place/\e.place<=p-1)/\(0<=e.ck/\e.ck<=5)/\(0<=e.bf/\e.bf<=30)/\(0<=e.gK/\e.gK<=2)/\m9 none e.marks=0:=by
 unfold bS at h;split at h
 . cases h
 next a=>
 split at h
 . cases h
 next b=>
 split at h
 . cases h
 next c=>
 split at h
 . omega
 next g=>
 split at h
 . cases h
 next d=>
 split at h
 . cases h
 next f=>
 simp only[Bool.not_eq_false]at a b c d f;exact⟨dI a,dI b,dI c,dI d,dI f,by omega⟩
theorem BH{f}(a:f.Good)  e :(iw f e).length<=4:=by
 unfold iw;have:=a.fr;have:=a.to
 grind
theorem BI{f}(a:f.Good)  e :(bQ f e).length<=5:=by
 unfold bQ;have:=BH a e
 grind
theorem DN{f e}(h:e.gK≠0):iw f e=(List.range (f.fe-f.aX+1).toNat).map λi:Nat=>e.bf-f.fe+(i:Int):=aav h
theorem Hm{b mb f l}(H:f.Good)(Y:l≠[])(hl:l.length<=1000000)(hb:∀n∈l,0<=n/\n<f.au.length)(h:KF (.val (ints (fT f l))) σ):aA prog m 243 [mW b mb f 0,ints l] σ KF:=by
 have h6:=H.lu;have al:=H.fr;have av:=H.to;have ax:=H.le;refine fs Ww Tryz.func243 rfl (by kernel_rfl) ?_
 simp[Tryz.f243];refine aa.loop l.length (λk s=>∃env A,s=⟨env,A,[],.no⟩/\env 0=mW b mb f 0/\env 11=ints l/\env 12=int l.length/\env 13=int k/\Tok σ A (env 5) 1 ((l.take k).map λn=>ints (bQ f (aM f n)))) ⟨_,_,rfl,by simp,by simp,by simp,by simp,.nil σ 1⟩ ?_
 rintro c0 k _ hk ⟨env,A,rfl,C,p,g,o,d⟩ S
 rcases abk k l.length with g1|g1
 . obtain ⟨L,n1⟩:=hb _ (zj g1)
   have n2:l[k].toNat<f.au.length:=by omega
   obtain⟨e,he⟩:∃e,e=f.au[l[k].toNat]:=⟨_,rfl⟩;have Z:aM f l[k]=e:=by simp[aM,zD,n2,he]
   have ay:=kR (H.qB e (by simp_all))
   have t:(l.take (k+1)).map (λn=>ints (bQ f (aM f n)))=(l.take k).map (λn=>ints (bQ f (aM f n)))++[ints (bQ f e)]:=by rw[zG g1,aaB];simp[Z]
   apply rn;simp[C,p,g,o,g1,L,n2,<-he];refine bV.intro λc hc=>?_
   simp
   have a7:σ c=none:=by
    cases q:σ c with
    |none=>rfl
    |some x=>rw[d.1 c x q]at hc;cases hc
   have B:Tok σ (A.set c (.cells [int e.hour,int e.place,int e.ck,ints e.marks,int e.bf,int e.gK])) (env 5) 1 ((l.take k).map λn=>ints (bQ f (aM f n))):=d.beside a7 (λq=>by obtain⟨_,x,hx⟩:=d.aW q;grind)
   have G:(A.set c (.cells [int e.hour,int e.place,int e.ck,ints e.marks,int e.bf,int e.gK])) c=some (.cells [int e.hour,int e.place,int e.ck,ints e.marks,int e.bf,int e.gK]):=ab.ai _ _ _;generalize A.set c (.cells [int e.hour,int e.place,int e.ck,ints e.marks,int e.bf,int e.gK])=D at B G;refine aG.intro (λM=>?_) (λM=>?_)<;>simp at M<;>simp[M]
   . have f1:-9223372036854775808<=f.fe-f.aX/\f.fe-f.aX<=9223372036854775807:=by omega
     have f2:-9223372036854775808<=f.fe-f.aX+1/\f.fe-f.aX+1<=9223372036854775807:=by omega
     simp[C,f1.1,f1.2,f2.1,f2.2];apply rn;simp;obtain⟨a5,I⟩:∃a,a=env 5:=⟨_,rfl⟩;rw[<-I]at B;obtain⟨cnt,O⟩:∃cnt:Nat,(cnt:Int)=f.fe-f.aX+1:=⟨(f.fe-f.aX+1).toNat,by omega⟩
     have aC:cnt<=4:=by omega
     have a8:iw f e=(List.range cnt).map λi:Nat=>e.bf-f.fe+(i:Int):=by rw[DN M];grind
     refine aa.loop cnt (λj s=>∃env J,s=⟨env,J,[],.no⟩/\env 0=mW b mb f 0/\env 11=ints l/\env 12=int l.length/\env 13=int k/\env 5=a5/\env 8=.ref c 0/\env 41=int cnt/\env 42=int j/\Tok D J (env 9) 1 (((List.range j).map λi:Nat=>e.bf-f.fe+(i:Int)).map int)) ⟨_,_,rfl,by simp[C,p,g,o,<-I,O,Tok.nil]⟩ ?_
     clear C p g o d I
     rintro c1 j _ hj ⟨env,J,rfl,C,p,g,o,T,N,E,F,u⟩ a9
     have v:=u.1 _ _ G
     rcases abk j cnt with g3|g3
     . have f3:-9223372036854775808<=e.bf-f.fe/\e.bf-f.fe<=9223372036854775807:=by omega
       have f4:-9223372036854775808<=e.bf-f.fe+j/\e.bf-f.fe+j<=9223372036854775807:=by omega
       apply rn;simp[C,N,E,F,g3,v,f3.1,f3.2,f4.1,f4.2];refine aR lay rfl rfl rfl dK rfl dK rfl sb (by decide) (by simp only[abh,acv,aby,abJ];omega) (σ0:=D) (es:=((List.range j).map λi:Nat=>e.bf-f.fe+(i:Int)).map int) (xs:=[int (e.bf-f.fe+j)]) (by simpa using u) (.inr ⟨_,rfl⟩) λa' P w=>?_
       apply pg;simp;apply rn;simp[F];refine⟨by omega,a9 _ g3 ⟨_,_,rfl,by simp[C],by simp[p],by simp[g],by simp[o],by simp[T],by simp[N],by simp[E],by simp,?_⟩⟩
       rw[abn,aaB,aaB];simpa using w
     . have:j=cnt:=by omega
       subst this;rw[<-a8]at u;have aE:=BH H e;have U:Wl [env 9,int e.bf] [ints (iw f e),int e.bf]:=.cons u.W (.cons (.refl _) .nil)
       by_cases V:e.gK=1
       . refine aa.Gc 9 u.W ?_
         have y:bQ f e=iw f e:=aau λq=>q.1 V
         apply rn;simp[T,N,E,F,v,V];refine aR lay rfl rfl rfl qZ rfl qZ rfl dK (by decide) (by simp;omega) (σ0:=σ) (es:=(l.take k).map λn=>ints (bQ f (aM f n))) (xs:=[ints (bQ f e)]) (by simpa using B.up u.1) (.inr ⟨_,by rw[y];simp;rfl⟩) λa4 K z=>?_
         apply rn;simp[o];refine⟨by omega,S _ g1 ⟨_,_,rfl,by simp[C],by simp[p],by simp[g],by simp,?_⟩⟩
         rw[t];simpa using z
       . have Q:(e.gK !=1)=true:=by simp[V]
         by_cases X:e.bf∈iw f e
         . have y:bQ f e=iw f e:=aau λq=>q.2 X
           apply rn;simp[N,E,F,v,Q];refine bK Tryz.func55 rfl rfl U (nK (by omega) ?_)
           refine aa.Gc 9 (a':=ints (iw f e)) (by simpa using u.W) ?_
           apply rn;simp[T,X];refine aR lay rfl rfl rfl qZ rfl qZ rfl dK (by decide) (by simp;omega) (σ0:=σ) (es:=(l.take k).map λn=>ints (bQ f (aM f n))) (xs:=[ints (bQ f e)]) (by simpa using B.up u.1) (.inr ⟨_,by rw[y];simp;rfl⟩) λa4 K z=>?_
           apply rn;simp[o];refine⟨by omega,S _ g1 ⟨_,_,rfl,by simp[C],by simp[p],by simp[g],by simp,?_⟩⟩
           rw[t];simpa using z
         . have y:bQ f e=iw f e++[e.bf]:=aav ⟨V,X⟩
           apply rn;simp[N,E,F,v,Q];refine bK Tryz.func55 rfl rfl U (nK (by omega) ?_)
           apply rn;simp[N,X,v];refine aR lay rfl rfl rfl dK rfl dK rfl sb (by decide) (by simp;omega) (σ0:=D) (es:=(iw f e).map int) (xs:=[int e.bf]) (by simpa using u) (.inr ⟨_,rfl⟩) λa' P w=>?_
           refine aa.Gc 74 (a':=AV.sl 1 ((iw f e).map int++[int e.bf]) .any) (by simpa using w.W) ?_
           apply rn;simp[T];refine aR lay rfl rfl rfl qZ rfl qZ rfl dK (by decide) (by simp;omega) (σ0:=σ) (es:=(l.take k).map λn=>ints (bQ f (aM f n))) (xs:=[ints (bQ f e)]) (by simpa using B.up w.1) (.inr ⟨_,by rw[y];simp;rfl⟩) λa4 K z=>?_
           apply rn;simp[o];refine⟨by omega,S _ g1 ⟨_,_,rfl,by simp[C],by simp[p],by simp[g],by simp,?_⟩⟩
           rw[t];simpa using z
   . have y:bQ f e=[e.bf]:=by
      simp[bQ,iw,M]
     simp[G,M];have U:Wl [AV.lit (.slice none 0 0),int e.bf] [ints [],int e.bf]:=.cons (fy 1) (.cons (.refl _) .nil);refine bK Tryz.func55 rfl rfl U (nK (by simp) ?_)
     apply rn;simp[G];refine aR lay rfl rfl rfl dK rfl dK rfl sb (by decide) (by simp) (σ0:=D) (es:=[]) (xs:=[int e.bf]) (by simpa using Tok.nil D 1) (.inr ⟨_,rfl⟩) λa' P w=>?_
     refine aa.Gc 74 (a':=AV.sl 1 [int e.bf] .any) (by simpa using w.W) ?_
     apply rn;simp;refine aR lay rfl rfl rfl qZ rfl qZ rfl dK (by decide) (by simp;omega) (σ0:=σ) (es:=(l.take k).map λn=>ints (bQ f (aM f n))) (xs:=[ints (bQ f e)]) (by simpa using B.up w.1) (.inr ⟨_,by rw[y];simp;rfl⟩) λa4 K z=>?_
     apply rn;simp[o];refine⟨by omega,S _ g1 ⟨_,_,rfl,by simp[C],by simp[p],by simp[g],by simp,?_⟩⟩
     rw[t];simpa using z
 . have:k=l.length:=by omega
   subst this;rw[aaD]at d;refine aa.Gc 5 d.W ?_;have R:0<l.length:=List.length_pos_iff.2 Y;apply rn;simp[g,o,R];refine yB lay rfl qZ rfl dK (es:=l.map λn=>ints (bQ f (aM f n))) (sp:=.any) (l:=1) (h:=l.length) ?_ (λcap ad=>⟨rfl,⟨rfl,by simp⟩,⟨_,rfl⟩,by omega⟩) (by simp) ?_
   . simp
   obtain⟨L,r,rfl⟩:∃L r,l=L::r:=by
    cases l with
    |nil=>simp_all
    |cons a r=>simp_all
   apply pg;simp
   have e:List.take r.length (List.map (λn=>ints (bQ f (aM f n))) r)=(r.map λn=>bQ f (aM f n)).map ints:=by
    rw[aca (by simp)]
    simp
   rw[e];have hlen:=BI H (aM f L);refine cf Tryz.func244 rfl (Kh (first:=bQ f (aM f L)) (others:=r.map λn=>bQ f (aM f n)) (by omega) (by grind) (λx hx=>?_) ?_)
   . obtain⟨n,_,rfl⟩:=aax.1 hx
     have:=BI H (aM f n);omega
   apply pg;simp;apply rn;simp;refine .less d.1 (.done ?_);simpa[fT]using h
theorem Fv{f}(h:check f=0):dJ f []=0:=by unfold dJ;simp_all
theorem Hn{f}{l:adQ}(h:check f=0)(a:∀n∈l,0<=n/\n<f.au.length):dJ f l=0:=by
 unfold dJ;rw[aau (by simp[h]),aav];rw[aaw];intro n b;have:=a n b;simp[bC];omega
theorem xN.le{σ σ' b mb}(h:xN σ b mb σ'):σ.Le σ':=by rw[h.eq];exact ab.sT (ab.sT (ab.le_refl _) h.DK) (by rw[ab.ah _ _ h.ne];exact h.hb)
theorem Dj{a n}(b:0<=n)(h:KF (.val (u8 (cu a n))) σ):aA prog m 248 [u8 a,int n] σ KF:=by
 refine fs [] Tryz.func248 rfl (by kernel_rfl) ?_;simp[Tryz.f248];refine⟨b,?_⟩;simp[uF];exact .done h
theorem pY{l}(o:l.length<1152921504606846976)(f:∀n∈l,0<=n)(h:KF (.val (u8 (aU l))) σ):aA prog m 246 [ints l] σ KF:=by
 refine fs [] Tryz.func246 rfl (by kernel_rfl) ?_;simp[Tryz.f246];refine aa.loop l.length (λk s=>∃env,s=⟨env,σ,[],.no⟩/\env 3=u8 (aU (l.take k))/\env 4=.fn (.func 248) [u8 (aU (l.take k))] []/\env 9=ints l/\env 10=int l.length/\env 11=int k) ⟨_,rfl,by simp[aU]⟩ ?_;rintro p k _ q ⟨env,rfl,g,i,d,b,a⟩ j;apply rn;simp[b,a];apply aG.intro<;>intro c<;>simp at c<;>simp[g,i,d,a,c]
 . have e:aU (l.take (k+1))=cu (aU (l.take k)) l[k]:=by
    unfold aU;rw[zG c,abC];rfl
   refine eU Tryz.func248 rfl rfl rfl (Dj (f _ (zj c)) ?_);rw[<-e];apply rn;simp[a];exact⟨by omega,j _ c ⟨_,rfl,by simp[d,b]⟩⟩
 . have:k=l.length:=by omega
   subst this;rw[aaD];exact .done h
def Dk(x:Int):Int:=Fs x (R7 x 1)
def uG:Nat->Int->Int
 |0,x=>x
 |n+1,x=>Dk (uG n x)
def Ki:Nat->Int->Int
 |0,_=>0
 |n+1,x=>if x=0 then 0 else 1+Ki n (Dk x)
def bI(a b:Int):Int:=Ki 8 (zF a b)
theorem zI{a b}(l:uG 8 (zF a b)=0)(h:KF (.val (int (bI a b))) σ):aA prog m 247 [u8 a,u8 b] σ KF:=by
 refine fs [] Tryz.func247 rfl (by kernel_rfl) ?_
 simp[Tryz.f247,Kf];refine aa.loop 8 (λk s=>∃env,s=⟨env,σ,[],.no⟩/\env 5=int k/\env 6=u8 (uG k (zF a b))/\bI a b=k+Ki (8-k) (uG k (zF a b))) ⟨_,rfl,by simp,by simp;rfl,by simp[uG,bI]⟩ ?_
 rintro n k _ o ⟨env,rfl,g,f,c⟩ i
 apply rn;simp[f];apply aG.intro<;>intro d<;>simp at d<;>simp[g,f,d]
 . have j:k<8:=by
    grind
   refine⟨by omega,?_⟩
   simp[vG,Kg];refine i _ j ⟨_,rfl,by simp,by simp[uG,Dk],?_⟩
   have e:8-k=(8-(k+1))+1:=by omega
   rw[e,Ki,aau d]at c;rw[c];simp only[uG];omega
 . rw[d]at c
   have e:Ki (8-k) 0=0:=by cases 8-k<;>simp[Ki]
   rw[e]at c;rw[c]at h;exact .done (by grind)
abbrev zJ(x:Int):AV:=.agg [u8 x]
theorem Q1{x n}(a:0<=n)(h:KF (.val (zJ (cu x n))) σ):aA prog m 158 [zJ x,int n] σ KF:=by
 refine aA.start lay [2] Wp 2 Tryz.func158 rfl rfl (by rfl) (by kernel_rfl) ?_;simp[Tryz.f158];refine bV.intro λc f=>?_
 simp;refine bV.intro λd hd=>?_
 obtain⟨b,e,hd⟩:=ab.aS hd;simp[e,ab.ah,uF,a];refine aa.run lay [2] ?_;simp[b,ab.ah];exact .less (by repeat (first|exact ab.le_refl _|assumption|refine ab.fX ?_ (by assumption)|refine ab.mG ?_ (by assumption))) (.done h)
theorem Nz{x}(h:KF (.val (ints (aD x))) σ):aA prog m 186 [zJ x] σ KF:=by
 refine fs [] Tryz.func186 rfl (by kernel_rfl) ?_;simp[Tryz.f186];refine aa.loop 6 (λk s=>∃env b,s=⟨env,b,[],.no⟩/\env 1=.cp (zJ x) 0/\env 5=int k/\Tok σ b (env 3) 1 ((((List.range k).map λn:Nat=>(n:Int)).filter λn=>gF x n).map int)) ⟨_,_,rfl,by simp,by simp,.nil σ 1⟩ ?_;rintro l k _ o ⟨env,b,rfl,d,c,a⟩ f;rcases abk k 6 with g1|g1
 . have e:(k:Int)<6:=by omega
   have p:(((List.range k).map λn:Nat=>(n:Int)).filter λn=>gF x n).length<=k:=by grind
   have q:(((List.range (k+1)).map λn:Nat=>(n:Int)).filter λn=>gF x n)=(((List.range k).map λn:Nat=>(n:Int)).filter λn=>gF x n)++if gF x k then[(k:Int)]else[]:=by
    rw[abn,aaB,abQ]
    grind
   apply rn;simp[d,c,e,vG];have g:gF x k=(Fs (x.fdiv (2 ^ min k IntKind.u8.bits)) 1==1):=by simp[gF]
   rw[<-g];cases hb:gF x k
   . simp[c]
     refine⟨by omega,f _ g1 ⟨_,_,rfl,by simp[d],by simp,?_⟩⟩
     simp_all
   . simp
     refine aR lay rfl rfl rfl dK rfl dK rfl sb (by decide) (by grind) (σ0:=σ) (es:=(((List.range k).map λn:Nat=>(n:Int)).filter λn=>gF x n).map int) (xs:=[int k]) (by simp_all) (.inr ⟨_,rfl⟩) λr i j=>?_
     apply rn;simp[c];refine⟨by omega,f _ g1 ⟨_,_,rfl,by simp[d],by simp,?_⟩⟩
     simp_all
 . have:k=6:=by omega
   subst this;apply rn;simp[c];exact .oo a.W (.less a.1 (.done h))
def gV(a b:Int):Int:=if 0<a/\a<b then 3 else if a=b then 1 else 2
theorem Ho{a b}(h:KF (.val (int (gV a b))) σ):aA prog m 84 [int a,int b] σ KF:=by
 unfold gV at h;refine fs [] Tryz.func84 rfl (by kernel_rfl) ?_;simp[Tryz.f84];refine tj.intro (λd=>?_) (λd=>?_)<;>(try simp[-Int.not_lt,-Int.not_le]at d)<;>(try simp[d]at h)<;>(try simp[d])<;>(try exact .done h)
 . refine aG.intro (λe=>?_) (λe=>?_)<;>(try simp[-Int.not_lt,-Int.not_le]at e)<;>(try simp[e]at h)<;>(try simp[e])<;>(try exact .done h)
   . have:a≠b:=by omega
     apply aG.intro<;>intro c<;>simp at c<;>simp[c]
     . omega
     . exact .done h
   . refine aG.intro (λc=>?_) (λc=>?_)<;>(try simp at c)<;>(try simp[c]at h)<;>(try simp[c])<;>(try exact .done h)
 . refine aG.intro (λc=>?_) (λc=>?_)<;>(try simp at c)<;>(try simp[c]at h)<;>(try simp[c])<;>(try exact .done h)
theorem Kj{l}(b:l≠[])(c:l.length<=1000000000)(h:∀a σ',cz σ σ' a 1 (l.map int)->KF (.val a) σ'):aA prog m 188 [ints l] σ KF:=by
 refine fs [] Tryz.func188 rfl (by kernel_rfl) ?_;simp[Tryz.f188];refine Eb lay rfl dK rfl rfl (.inr (.inl ⟨rfl,by simp_all,rfl⟩)) (.inl ⟨rfl,rfl⟩) ?_;apply rn;simp;refine pq lay rfl rfl rfl dK rfl dK rfl sb (by decide) (by simp;omega) (σ0:=σ) (es:=[]) (xs:=l.map int) (.empty σ 1) (.inl (.inr ⟨_,rfl⟩)) (by simp) λd σ' e=>?_
 apply rn;simp;exact .done (h _ _ (by simp_all))
def dT(lt:Int->Int->Bool)(x:Int):adQ->adQ
 |[]=>[x]
 |y::r=>if lt x y then y::dT lt x r else x::y::r
def dv(lt:Int->Int->Bool)(l:adQ):adQ:=l.foldl (λr x=>dT lt x r) []
theorem Fw  lt   x :∀r,(dT lt x r).length=r.length+1
 |[]=>rfl
 |y::r=>by unfold dT;split<;>simp[Fw lt x r]
theorem kH  lt   l :(dv lt l).length=l.length:=by
 have key:∀(l r:adQ),(l.foldl (λr x=>dT lt x r) r).length=r.length+l.length:=by
  intro l;induction l with
  |nil=>intro r;rfl
  |cons a l b=>intro r;rw[abS,b,Fw];simp;omega
 rw[dv,key];simp
theorem Fx  lt   x :∀  r   y ,y∈dT lt x r↔y=x\/y∈r
 |[],y=>by simp[dT]
 | z ::r,y=>by
   unfold dT;split
   . rw[abp,Fx lt x r y,abp]
     grind
   . simp
theorem rE  lt   l   y :y∈dv lt l↔y∈l:=by
 have key:∀(l r:adQ),y∈l.foldl (λr x=>dT lt x r) r↔y∈r\/y∈l:=by
  intro l;induction l with
  |nil=>grind
  | cons a l b=>
    intro r;rw[abS,b,Fx,abp]
    grind
 rw[dv,key];simp
def Fy(m:Mo)(y:AV)(c:Int->Int->Int)(In:Int->Prop):Prop:=∀(a b:Int) (σ:ab) (KF:adC),In a->In b->KF (.val (int (c a b))) σ->cG prog m y [int a,int b] σ KF
theorem UG{α:Type}{A B}{x y:α}{n}(a:A.length=n):(A++y::x::B)[n]?=some y/\(A++y::x::B)[n+1]?=some x/\((A++y::x::B).set n x).set (n+1) y=A++x::y::B/\((A++y::x::B).set (n+1) y).set n x=A++x::y::B:=by simp_all
theorem Hp{y c In l b cap rest}(W:Fy m y c In)(J:∀x∈l,In x)(hl:l.length<=1000000)(hb:σ b=some (.cells (l.map int++rest)))
 (h:KF (.val (.cI [])) (σ.set b (.cells ((dv (λa b=>decide (c a b<0)) l).reverse.map int++rest)))):aA prog m 202 [.ga b 0 l.length cap,int 0,int l.length,y] σ KF:=by
 refine fs Wu Tryz.func202 rfl (by kernel_rfl) ?_
 simp[Tryz.f202];obtain⟨lt,D⟩:∃lt,lt=λa b=>decide (c a b<0):=⟨_,rfl⟩
 rw[<-D]at h;refine aa.loop l.length (λi s=>∃env g,s=⟨env,g,[],.no⟩/\env 0=.ga b 0 l.length cap/\env 1=int 0/\env 2=int l.length/\env 3=y/\env 8=int ((i:Int)+1)/\g=σ.set b (.cells ((dv lt (l.take (i+1))).reverse.map int++((l.drop (i+1)).map int++rest)))) ⟨_,_,rfl,by simp,by simp,by simp,by simp,by simp,?_⟩ ?_
 . have e:(dv lt (l.take 1)).reverse.map int++((l.drop 1).map int++rest)=l.map int++rest:=by
    cases l with
    |nil=>simp[dv]
    |cons a l=>simp[dv,dT]
   rw[e]
   funext d
   by_cases q:d=b
   . simp_all
   . rw[ab.ah _ _ q]
 rintro c0 i _ hi ⟨env,g,rfl,t,u,v,E,w,j⟩ X
 rcases abk (i+1) l.length with g1|g1
 . have Q:(i:Int)+1<l.length:=by omega
   obtain⟨S,M⟩:∃S,S=dv lt (l.take (i+1)):=⟨_,rfl⟩;have R:S.length=i+1:=by rw[M,kH,abP];omega
   have T:∀x∈S,In x:=λx N=>J x (acQ ((rE lt _ x).1 (M ▸ N)))
   have F:dv lt (l.take (i+1+1))=dT lt l[i+1] S:=by rw[M,dv,zG g1,abC];rfl
   obtain⟨x,N⟩:∃x,x=l[i+1]:=⟨_,rfl⟩;have K:In x:=J x (by simp_all)
   have U:l.drop (i+1)=x::l.drop (i+2):=by rw[N];exact abH g1
   rw[<-M,U]at j;rw[<-N]at F;apply rn;simp[v,w,Q]
   refine aa.loop (i+1) (λk s=>∃env g r f,s=⟨env,g,[],.no⟩/\env 0=.ga b 0 l.length cap/\env 1=int 0/\env 2=int l.length/\env 3=y/\env 8=int ((i:Int)+1)/\env 9=int f.length/\S=r++f/\f.length+k=i+1/\dT lt x S=r++dT lt x f/\
    g=σ.set b (.cells ((f.reverse.map int)++int x::(r.reverse.map int++((l.drop (i+2)).map int++rest))))) ⟨_,_,[],S,rfl,by simp[t],by simp[u],by simp[v],by simp[E],by simp[w],by simp[R],rfl,by omega,rfl,by grind⟩ ?_
   clear t u v E w j
   rintro c1 k _ hk ⟨env,g,r,f,rfl,t,u,v,E,w,O,G,hlen,p,j⟩ V
   cases f with
   | nil=>
     simp only[abJ,acm]at hlen;simp only[abB]at G;subst G
     have o:g=σ.set b (.cells ((dv lt (l.take (i+1+1))).reverse.map int++((l.drop (i+1+1)).map int++rest))):=by rw[j,F,p];simp[dT]
     apply rn;simp[u,O];refine⟨?_,?_⟩
     all_goals
      apply rn;simp[w];refine⟨by omega,X _ (by omega) ⟨_,_,rfl,?_,?_,?_,?_,?_,o⟩⟩<;>simp[t,u,v,E]
   | cons z f=>
     obtain⟨e1,e2,e3,e4⟩:=UG (A:=f.reverse.map int) (B:=r.reverse.map int++((l.drop (i+2)).map int++rest)) (x:=int x) (y:=int z) (n:=f.length) (by simp)
     have C:g b=some (.cells (f.reverse.map int++int z::int x::(r.reverse.map int++((l.drop (i+2)).map int++rest)))):=by rw[j,ab.ai];simp
     have L:In z:=T z (by grind)
     have f1:(0:Int)<(f.length:Int)+1:=by omega
     have Y:(f.length:Int)+1<l.length:=by grind
     have Z:(f.length:Int)<l.length:=by omega
     have f4:(0:Int)<=(f.length:Int)+1:=by omega
     have f5:((f.length:Int)+1).toNat=f.length+1:=by omega
     have I:-9223372036854775808<=(f.length:Int)/\(f.length:Int)<=9223372036854775807:=by omega
     apply rn;simp[t,u,E,O,f1,Y,Z,f4,f5,I.1,I.2,C];refine⟨W _ _ _ _ K L ?_,W _ _ _ _ K L ?_⟩
     all_goals
      apply pg;simp;apply rn;simp
      by_cases P:c x z<0
      . have f7:f.length+1+1<=f.length+(r.length+(l.length-(i+2)+rest.length)+1+1):=by omega
        have f8:f.length+1<=f.length+(r.length+(l.length-(i+2)+rest.length)+1+1):=by omega
        have H:dT lt x (z::f)=z::dT lt x f:=by rw[D];simp[dT,P]
        simp[t,O,P,f5,I.1,I.2,Y,Z,f4,C,f7,f8];apply rn;simp[O,I.1,I.2];refine V _ (by simp at hlen;omega) ⟨_,_,r++[z],f,rfl,by simp[t],by simp[u],by simp[v],by simp[E],by simp[w],by simp,by rw[G];simp,by simp at hlen;omega,by rw[p,H];simp,?_⟩
        rw[j];simp
      . have H:dT lt x (z::f)=x::z::f:=by rw[D];simp[dT,P]
        have o:g=σ.set b (.cells ((dv lt (l.take (i+1+1))).reverse.map int++((l.drop (i+1+1)).map int++rest))):=by rw[j,F,p,H];simp
        simp[w,P];refine⟨by omega,X _ (by omega) ⟨_,_,rfl,?_,?_,?_,?_,?_,o⟩⟩<;>simp[t,u,v,E]
 . have o:(dv lt (l.take (i+1))).reverse.map int++((l.drop (i+1)).map int++rest)=(dv lt l).reverse.map int++rest:=by
    rw[aca (by omega),List.drop_of_length_le (by omega)];simp
   rw[o]at j;have g2:¬(i:Int)+1<l.length:=by omega
   apply rn;simp[v,w,g2];rw[j];exact .done h
theorem Dl{y c In l b cap rest}(q:Fy m y c In)(g:∀x∈l,In x)(w:l.length<20)(hb:σ b=some (.cells (l.map int++rest)))
 (h:KF (.val (.cI [])) (σ.set b (.cells ((dv (λa b=>decide (c a b<0)) l).reverse.map int++rest)))):aA prog m 201 [.ga b 0 l.length cap,int l.length,y] σ KF:=by
 refine fs [] Tryz.func201 rfl (by kernel_rfl) ?_;simp[Tryz.f201];have r:¬(20:Int)<=l.length:=by omega
 have t:¬(20:Int)<l.length:=by omega
 refine aa.loop 1 (λk s=>∃env,s=⟨env,σ,[],.no⟩/\env 0=.ga b 0 l.length cap/\env 1=int l.length/\env 2=y/\env 6=int 20/\env 7=int 0/\env 8=int 20) ⟨_,rfl,by simp⟩ ?_;rintro z k _ u ⟨env,rfl,j,e,n,f,o,p⟩ v;apply rn;simp[j,e,n,o,p,r];refine cf Tryz.func202 rfl (Hp q g (by omega) hb ?_);apply rn;simp;refine aa.loop 1 (λk s=>∃env d,s=⟨env,d,[],.no⟩/\env 1=int l.length/\env 6=int 20/\d=σ.set b (.cells ((dv (λa b=>decide (c a b<0)) l).reverse.map int++rest))) ⟨_,_,rfl,by simp[e,f]⟩ ?_;clear j e n f o p;rintro A k _ u ⟨env,d,rfl,e,f,i⟩ v;apply rn;simp[e,f,t];rw[i];exact .done h
theorem uH{y c In l b cap rest}(e:Fy m y c In)(d:∀x∈l,In x)(f:l.length<20)(hb:σ b=some (.cells (l.map int++rest)))
 (h:KF (.val (.cI [])) (σ.set b (.cells ((dv (λa b=>decide (c a b<0)) l).reverse.map int++rest)))):aA prog m 189 [.ga b 0 l.length cap,y] σ KF:=by
 refine fs [] Tryz.func189 rfl (by kernel_rfl) ?_;simp[Tryz.f189];refine cf Tryz.func201 rfl (Dl e d f hb ?_);apply rn;simp;exact .done (by simpa using h)
theorem Q2{y c In l}(r:Fy m y c In)(f:∀x∈l,In x)(s:l.length<20)(g:l≠[])(i:y.cells=[y]/\y.flat=true)(h:KF (.val (ints (dv (λa b=>decide (c a b<0)) l).reverse)) σ):aA prog m 168 [.agg [y],ints l] σ KF:=by
 refine fs [] Tryz.func168 rfl (by kernel_rfl) ?_;simp[Tryz.f168,i.2];refine cf Tryz.func188 rfl (Kj g (by omega) λa j k=>?_)
 obtain⟨b,cap,rest,rfl,n,o,v,p,q⟩:∃b cap rest,a=.ga b 0 (l.map int).length cap/\σ b=none/\(l.map int).length<=cap/\(∀e∈l.map int,e.cells.length=1)/\j b=some (.cells (flatten (l.map int)++rest))/\rest.length=(cap-(l.map int).length)*1:=by
  rcases k.2 with⟨e,_⟩|h
  . simp_all
  . exact h
 have d:∀l:adQ,flatten (l.map int)=l.map int:=λl=>by
  induction l with
  |nil=>rfl
  |cons a l t=>simp[flatten_cons,AV.cells,t]
 rw[d]at p;rw[abh]at o q ⊢;apply rn;simp;refine cf Tryz.func189 rfl (uH r f s p ?_);apply rn;simp;refine cz.thaw (σ0:=σ) (kk:=1) (es:=(dv (λa b=>decide (c a b<0)) l).reverse.map int) ⟨ab.fX k.1 n,.inr ⟨b,cap,rest,?_,n,?_,λe u=>?_,?_,?_⟩⟩ h
 . simp[kH]
 . simpa[kH]using o
 . obtain⟨x,_,rfl⟩:=aax.1 u;rfl
 . rw[d];simp
 . simpa[kH]using q
def vH(f:Fr)(a b:Int):Int:=Dh (aM f a).hour (aM f b).hour
theorem Q3{b mb f x y}(d:0<=x/\x<f.au.length)(e:0<=y/\y<f.au.length)(h:KF (.val (int (vH f x y))) σ):aA prog m 166 [int x,int y,.cp (mW b mb f 0) 0] σ KF:=by
 have a:x.toNat<f.au.length:=by omega
 have c:y.toNat<f.au.length:=by omega
 have ex:aM f x=f.au[x.toNat]:=by simp[aM,zD,a]
 have g:aM f y=f.au[y.toNat]:=by simp[aM,zD,c]
 unfold vH at h;rw[ex,g]at h;refine fs Wr Tryz.func166 rfl (by kernel_rfl) ?_;simp[Tryz.f166,a,c,d.1,e.1];refine cf Tryz.func167 rfl (Hk ?_);apply pg;simp;apply rn;simp;exact .done h
theorem NA{b mb f}:Fy m (.fn (.func 166) [] [.cp (mW b mb f 0) 0]) (vH f) (λn=>0<=n/\n<f.au.length):=λx y σ KF a c h=>by refine eU Tryz.func166 rfl rfl rfl (Q3 a c h)
structure PM(f:Fr)(l:adQ):Prop where
 mem:∀n∈l,0<=n/\n<f.au.length
 ne:l≠[]
 len:l.length<=1000000
def dz(f:Fr)(l:adQ):Bool:=l.any λn=>decide ((aM f n).ck≠(aM f (l.getD 0 0)).ck)
theorem jq{f x}  h :aM f x=f.au[x.toNat]:=by simp[aM,zD,h]
theorem Hq{b mb f l}(u:PM f l)(h:KF (.val (bool (dz f l))) σ):aA prog m 241 [.agg [],mW b mb f 0,ints l] σ KF:=by
 obtain⟨i,g,hlen⟩:=u;have a:0<l.length:=List.length_pos_iff.2 g;obtain⟨v,A⟩:=i _ (zj a);have j:l[0].toNat<f.au.length:=by omega
 have w:l.getD 0 0=l[0]:=by simp_all
 unfold dz at h;rw[w]at h;refine fs Wv Tryz.func241 rfl (by kernel_rfl) ?_;simp[Tryz.f241];refine aa.loop l.length (λk s=>∃env,s=⟨env,σ,[],.no⟩/\env 1=mW b mb f 0/\env 2=ints l/\env 9=ints l/\env 10=int l.length/\env 11=int k/\∀n∈l.take k,(aM f n).ck=(aM f l[0]).ck) ⟨_,rfl,by simp⟩ ?_;rintro B k _ C ⟨env,rfl,o,p,q,c,d,e⟩ x;rcases abk k l.length with g1|g1
 . obtain⟨y0,D⟩:=i _ (zj g1)
   have r:l[k].toNat<f.au.length:=by omega
   have E:=jq r;have F:=jq j;apply rn;simp[o,p,q,c,d,g1,a,y0,r,v,j];apply rn;simp;by_cases t:f.au[l[k].toNat].ck=f.au[l[0].toNat].ck
   . simp[d,t]
     refine⟨by omega,x _ g1 ⟨_,rfl,by simp[o],by simp[p],by simp[q],by simp[c],by simp,λn y=>?_⟩⟩;rw[zG g1,aaC,lb]at y
     grind
   . have z:(f.au[l[k].toNat].ck !=f.au[l[0].toNat].ck)=true:=by simp[t]
     have:l.any (λn=>decide ((aM f n).ck≠(aM f l[0]).ck))=true:=abr.2 ⟨_,zj g1,by simp_all⟩;rw[this]at h;simp[z];exact .done h
 . have:k=l.length:=by omega
   subst this;rw[aaD]at e;have:l.any (λn=>decide ((aM f n).ck≠(aM f l[0]).ck))=false:=by simp_all
   rw[this]at h;apply rn;simp[c,d];exact .done h
def cJ(f:Fr)(l:adQ):Bool:=decide (fT f l=[])
theorem Hr{b mb f l}(g:f.Good)(c:PM f l)(h:KF (.val (bool (cJ f l))) σ):aA prog m 242 [.agg [],mW b mb f 0,ints l] σ KF:=by
 refine fs [] Tryz.func242 rfl (by kernel_rfl) ?_;simp[Tryz.f242];refine cf Tryz.func243 rfl (Hm g c.ne c.len c.mem ?_);apply rn;simp;unfold cJ at h;cases d:fT f l with
 |nil=>rw[d]at h;exact .done h
 | cons a r=>
   rw[d]at h;have e:((r.length:Int)+1==0)=false:=by grind
   refine .done ?_;simpa[e]using h
def ew(f:Fr)(x y:Int):Bool:=decide ((aM f y).hour-(aM f x).hour<rd f.roads (aM f x).place.toNat (aM f y).place.toNat+f.cL*bI (aU (aM f x).marks) (aU (aM f y).marks))
def bG(f:Fr)(l:adQ):Bool:=(List.range (l.length-1)).any λi=>ew f (l.getD i 0) (l.getD (i+1) 0)
theorem lQ:∀{l p},m9 p l=0->∀n∈l,0<=n/\n<=4
 |[],_,_,n,hn=>by simp at hn
 | a::l,p,h,n,hn=>by
   unfold m9 at h;split at h
   . cases h
   next b=>
   split at h
   . cases h
   next c=>
   rcases abp.1 hn with rfl|hn
   . simp[bC]at b;omega
   . exact lQ h n hn
theorem Kk:∀a:Fin 32,∀n:Fin 5,0<=cu (a.val:Int) (n.val:Int)/\cu (a.val:Int) (n.val:Int)<32:=by decide
theorem iy{l}(h:∀n∈l,0<=n/\n<=4):0<=aU l/\aU l<32:=by
 have key:∀(l:adQ) (a:Int),(∀n∈l,0<=n/\n<=4)->0<=a/\a<32->0<=l.foldl cu a/\l.foldl cu a<32:=by
  intro l;induction l with
  |nil=>simp_all
  | cons x l c=>
    intro a b e;rw[abS];refine c _ (λn d=>b n (acd _ d)) ?_;obtain⟨f,g⟩:=b x (ada ..);have:=Kk ⟨a.toNat,by omega⟩ ⟨x.toNat,by omega⟩;have i:(a.toNat:Int)=a:=by omega
    have j:(x.toNat:Int)=x:=by omega
    simp_all
 exact key l 0 h (by omega)
theorem NB:∀a:Fin 32,∀b:Fin 32,uG 8 (zF (a.val:Int) (b.val:Int))=0/\0<=bI (a.val:Int) (b.val:Int)/\bI (a.val:Int) (b.val:Int)<=5:=by decide +kernel
theorem Ch{a b}(c:0<=a/\a<32)(hb:0<=b/\b<32):uG 8 (zF a b)=0/\0<=bI a b/\bI a b<=5:=by
 have:=NB ⟨a.toNat,by omega⟩ ⟨b.toNat,by omega⟩
 grind
theorem Fr.Good.row{f:Fr}(a:f.Good){i}(hi:i<f.roads.length):f.roads[i].length=f.roads.length/\∀x∈f.roads[i],0<=x/\x<=9:=by
 have h:=a.Jd;unfold fB at h;split at h
 . cases h
 split at h
 . cases h
 split at h
 . omega
 next q=>
 obtain⟨b,c⟩:=iI (by simpa using q) _ (zj hi);exact⟨b,λx d=>dI (c x d)⟩
theorem Ht{b mb f l}(j:f.Good)(hl:PM f l)(h:KF (.val (bool (bG f l))) σ):aA prog m 245 [.agg [],mW b mb f 0,ints l] σ KF:=by
 obtain⟨S,a7,hlen⟩:=hl;have p:=j.cL;unfold bG at h;refine fs Wx Tryz.func245 rfl (by kernel_rfl) ?_
 simp[Tryz.f245];refine aa.loop (l.length-1) (λk s=>∃env a,s=⟨env,a,[],.no⟩/\σ.Le a/\env 1=mW b mb f 0/\env 2=ints l/\env 7=int ((k:Int)+1)/\∀i<k,ew f (l.getD i 0) (l.getD (i+1) 0)=false) ⟨_,_,rfl,ab.le_refl _,by simp⟩ ?_
 rintro c0 k _ hk ⟨env,a,rfl,q,r,w,x,T⟩ U
 rcases abk (k+1) l.length with g1|g1
 . have K:(k:Int)+1<l.length:=by omega
   have L:k<l.length:=by omega
   obtain⟨x0,x1⟩:=S _ (zj L);obtain⟨y0,y1⟩:=S _ (zj g1);have y:l[k].toNat<f.au.length:=by omega
   have z:l[k+1].toNat<f.au.length:=by omega
   have f1:-9223372036854775808<=(k:Int)/\(k:Int)<=9223372036854775807:=by omega
   have f2:((k:Int)+1).toNat=k+1:=by omega
   have f3:(0:Int)<=(k:Int)+1:=by omega
   obtain⟨A,C⟩:∃A,A=f.au[l[k].toNat]:=⟨_,rfl⟩;obtain⟨B,D⟩:∃B,B=f.au[l[k+1].toNat]:=⟨_,rfl⟩;have V:=jq y;have W:=jq z;rw[<-C]at V;rw[<-D]at W;have bA:=kR (j.qB A (by grind))
   have bB:=kR (j.qB B (by grind))
   apply rn;simp[r,w,x,K,L,g1,x0,y,y0,z,f1.1,f1.2,f2,f3,<-C,<-D];have e:=λ{c:Nat}(t:a c=none)=>q.none t
   have E:A.place.toNat<f.roads.length:=by omega
   obtain⟨r1,r2⟩:=j.row E;have F:B.place.toNat<f.roads[A.place.toNat].length:=by omega
   obtain⟨r3,r4⟩:=r2 _ (zj F);have M:rd f.roads A.place.toNat B.place.toNat=f.roads[A.place.toNat][B.place.toNat]:=dO E F;have N:=lQ bA.2.2.2.2.2;have O:=lQ bB.2.2.2.2.2;have lA:=iy N;have lB:=iy O;obtain⟨X,P,Y⟩:=Ch lA lB;obtain⟨ch,g⟩:∃ch,ch=bI (aU A.marks) (aU B.marks):=⟨_,rfl⟩;rw[<-g]at P Y
   have hmul:0<=f.cL*ch/\f.cL*ch<=30:=by
    constructor
    . exact Int.mul_nonneg (by omega) P
    . calc f.cL*ch<=6*5:=acZ p.2 Y P (by omega)
       _=30:=by rfl
   have Z:ew f l[k] l[k+1]=decide (B.hour-A.hour<f.roads[A.place.toNat][B.place.toNat]+f.cL*ch):=by unfold ew;rw[V,W,M,g]
   have a8:l.getD k 0=l[k]:=by simp[zD,L]
   have a9:l.getD (k+1) 0=l[k+1]:=by simp[zD,g1]
   have G:-9223372036854775808<=B.hour-A.hour/\B.hour-A.hour<=9223372036854775807:=by omega
   have H:-9223372036854775808<=f.cL*ch/\f.cL*ch<=9223372036854775807:=by omega
   have I:-9223372036854775808<=f.roads[A.place.toNat][B.place.toNat]+f.cL*ch/\f.roads[A.place.toNat][B.place.toNat]+f.cL*ch<=9223372036854775807:=by omega
   refine⟨qw.intro λc t=>?_,qw.intro λc t=>?_⟩
   . simp
     refine qw.intro λd hd=>?_
     obtain⟨J,u,hd⟩:=ab.aS hd;have Q:=e t;have R:=e hd;simp[J,u,ab.ah];refine aa.bg 8 (b:=c) (aZ A) (by simp[u,ab.ah]) (by simp) rfl ?_
     refine aa.bg 9 (b:=d) (aZ B) (by simp[J,ab.del]) (by simp) rfl ?_
     apply rn;simp[r,G.1,G.2,E,F];refine⟨by omega,by omega,?_⟩
     refine cf Tryz.func246 rfl (pY (by have:=j.fits.marks A (by rw[C];exact zj y);omega) (λn o=>(N n o).1) ?_)
     apply pg;simp;refine cf Tryz.func246 rfl (pY (by have:=j.fits.marks B (by rw[D];exact zj z);omega) (λn o=>(O n o).1) ?_)
     apply pg;simp;refine cf Tryz.func247 rfl (zI X ?_);rw[<-g];apply pg;simp[H.1,H.2,I.1,I.2];apply rn;simp
     by_cases v:B.hour-A.hour<f.roads[A.place.toNat][B.place.toNat]+f.cL*ch
     . simp[v]
       have:(List.range (l.length-1)).any (λi=>ew f (l.getD i 0) (l.getD (i+1) 0))=true:=abr.2 ⟨k,LK.2 (by omega),by grind⟩
       rw[this]at h;exact .less (by repeat (first|exact ab.le_refl _|assumption|refine ab.fX ?_ (by assumption)|refine ab.mG ?_ (by assumption))) (.done h)
     . simp[x,v]
       refine⟨by omega,U _ (by omega) ⟨_,_,rfl,(by repeat (first|exact ab.le_refl _|assumption|refine ab.fX ?_ (by assumption)|refine ab.mG ?_ (by assumption))),by simp[r],by simp[w],by simp,λi hi=>?_⟩⟩
       grind
   . simp
     refine qw.intro λd hd=>?_
     obtain⟨J,u,hd⟩:=ab.aS hd;have Q:=e t;have R:=e hd;simp[u,ab.ah];refine aa.bg 8 (b:=d) (aZ A) (by simp[J,ab.ah]) (by simp) rfl ?_
     refine aa.bg 9 (b:=c) (aZ B) (by simp[u,ab.del]) (by simp) rfl ?_
     apply rn;simp[r,G.1,G.2,E,F];refine⟨by omega,by omega,?_⟩
     refine cf Tryz.func246 rfl (pY (by have:=j.fits.marks A (by rw[C];exact zj y);omega) (λn o=>(N n o).1) ?_)
     apply pg;simp;refine cf Tryz.func246 rfl (pY (by have:=j.fits.marks B (by rw[D];exact zj z);omega) (λn o=>(O n o).1) ?_)
     apply pg;simp;refine cf Tryz.func247 rfl (zI X ?_);rw[<-g];apply pg;simp[H.1,H.2,I.1,I.2];apply rn;simp
     by_cases v:B.hour-A.hour<f.roads[A.place.toNat][B.place.toNat]+f.cL*ch
     . simp[v]
       have:(List.range (l.length-1)).any (λi=>ew f (l.getD i 0) (l.getD (i+1) 0))=true:=abr.2 ⟨k,LK.2 (by omega),by grind⟩
       rw[this]at h;exact .less (by repeat (first|exact ab.le_refl _|assumption|refine ab.fX ?_ (by assumption)|refine ab.mG ?_ (by assumption))) (.done h)
     . simp[x,v]
       refine⟨by omega,U _ (by omega) ⟨_,_,rfl,(by repeat (first|exact ab.le_refl _|assumption|refine ab.fX ?_ (by assumption)|refine ab.mG ?_ (by assumption))),by simp[r],by simp[w],by simp,λi hi=>?_⟩⟩
       grind
 . have g2:¬(k:Int)+1<l.length:=by omega
   have:(List.range (l.length-1)).any (λi=>ew f (l.getD i 0) (l.getD (i+1) 0))=false:=by grind
   rw[this]at h;apply rn;simp[w,x,g2];exact .less q (.done h)
theorem WG:(((prog.info? 260).bind λi=>i.methods.find? (·.name==  "palfrey/mark.breaks")).map λmt=>(mt.path,mt.func))=some (#[],some (241,false)):=by kernel_rfl
theorem WH:(((prog.info? 261).bind λi=>i.methods.find? (·.name==  "palfrey/mark.breaks")).map λmt=>(mt.path,mt.func))=some (#[],some (242,false)):=by kernel_rfl
theorem WI:(((prog.info? 262).bind λi=>i.methods.find? (·.name==  "palfrey/mark.breaks")).map λmt=>(mt.path,mt.func))=some (#[],some (245,false)):=by kernel_rfl
theorem Tf{a}:pF prog 260  "palfrey/mark.breaks" 241 a a:=by obtain⟨mt,b,e⟩:=abi.1 WG;obtain⟨info,c,d⟩:=acH.1 b;obtain⟨f,g⟩:=Prod.mk.inj e;exact ta lay Wg c d (by rw[f]) g rfl
theorem Tg{a}:pF prog 261  "palfrey/mark.breaks" 242 a a:=by obtain⟨mt,b,e⟩:=abi.1 WH;obtain⟨info,c,d⟩:=acH.1 b;obtain⟨f,g⟩:=Prod.mk.inj e;exact ta lay Wh c d (by rw[f]) g rfl
theorem Ti{a}:pF prog 262  "palfrey/mark.breaks" 245 a a:=by obtain⟨mt,b,e⟩:=abi.1 WI;obtain⟨info,c,d⟩:=acH.1 b;obtain⟨f,g⟩:=Prod.mk.inj e;exact ta lay Wi c d (by rw[f]) g rfl
def aN(f:Fr)(l:adQ):adQ:=(dv (λa b=>decide (vH f a b<0)) l).reverse
def jv(f:Fr)(l:adQ):Int:=if dz f (aN f l)then 1 else if cJ f (aN f l)then 2 else if bG f (aN f l)then 3 else 0
abbrev WJ(n:Int):AV:=if n=1 then .m5 260 (.agg [])else if n=2 then .m5 261 (.agg [])else if n=3 then .m5 262 (.agg [])else .lit .nilIface
theorem PM.sort{f l}(h:PM f l):PM f (aN f l):=
 ⟨fun n a=>h.mem n ((rE _ _ _).1 (by simpa[aN]using a)),λe=>h.ne (by
   have:(aN f l).length=l.length:=by simp[aN,kH]
   grind),by simp[aN,kH,h.len]⟩
theorem Tj{b mb f l}(y:f.Good)(v:PM f l)(d:l.length<20)(h:KF (.val (WJ (jv f l))) σ):aA prog m 126 [mW b mb f 0,ints l] σ KF:=by
 have t:=v.sort;refine fs [] Tryz.func126 rfl (by kernel_rfl) ?_;simp[Tryz.f126];refine bV.intro λc B=>?_
 simp;refine cf Tryz.func168 rfl (Q2 NA v.mem d v.ne ⟨rfl,rfl⟩ ?_);obtain⟨S,z⟩:∃S,S=(dv (λa b=>decide (vH f a b<0)) l).reverse:=⟨_,rfl⟩;have r:aN f l=S:=z.symm;rw[r]at t;unfold jv at h;rw[r]at h;rw[<-z];apply rn;simp;refine aa.loop 3 (λk s=>∃env j,s=⟨env,j,[],.no⟩/\σ.Le j/\env 1=ints S/\env 2=.cp (mW b mb f 0) 0/\env 19=.sl 1 [.m5 260 (.agg []),.m5 261 (.agg []),.m5 262 (.agg [])] .exact/\env 20=int 3/\env 21=int k/\(1<=k->dz f S=false)/\(2<=k->cJ f S=false)/\(3<=k->bG f S=false)) ⟨_,_,rfl,ab.sT (ab.le_refl _) B,by simp⟩ ?_;rintro E k _ F ⟨env,j,rfl,e,o,p,i,d,g,w,A,C⟩ x;obtain rfl|rfl|rfl|rfl:k=0\/k=1\/k=2\/k=3:=by omega
 . apply rn
   simp[o,p,i,d,g];refine aa.invoke rfl rfl rfl (by simp) rfl Tf Tryz.func241 rfl rfl ?_;refine Hq t ?_;apply rn;simp;cases hb:dz f S
   . simp[g]
     refine x _ (by omega) ⟨_,_,rfl,e,?_,?_,?_,?_,?_,λ_=>hb,λq=>(by omega),λq=>(by omega)⟩<;>simp[o,p,i,d]
   . simp
     simp[hb]at h;exact .less e (.done h)
 . have n:=w (by omega)
   apply rn;simp[o,p,i,d,g];refine aa.invoke rfl rfl rfl (by simp) rfl Tg Tryz.func242 rfl rfl ?_;refine Hr y t ?_;apply rn;simp;cases hb:cJ f S
   . simp[g]
     refine x _ (by omega) ⟨_,_,rfl,e,?_,?_,?_,?_,?_,λ_=>n,λ_=>hb,λq=>(by omega)⟩<;>simp[o,p,i,d]
   . simp
     simp[hb,n]at h;exact .less e (.done h)
 . have n:=w (by omega)
   have u:=A (by omega);apply rn;simp[o,p,i,d,g];refine aa.invoke rfl rfl rfl (by simp) rfl Ti Tryz.func245 rfl rfl ?_;refine Ht y t ?_;apply rn;simp;cases hb:bG f S
   . simp[g]
     refine x _ (by omega) ⟨_,_,rfl,e,?_,?_,?_,?_,?_,λ_=>n,λ_=>u,λ_=>hb⟩<;>simp[o,p,i,d]
   . simp
     simp[hb,n,u]at h;exact .less e (.done h)
 . have n:=w (by omega)
   have u:=A (by omega);have D:=C (by omega);simp[n,u,D]at h;apply rn;simp[d,g];exact .less e (.done h)
end
open Go Go.bU
abbrev nn:Ev:=⟨104,105,142,143,174,176,130,131,144,129,173,175,190,191,193,194,196,270,222,21⟩
theorem NC:∀(a:Fl) b o kind,aV prog a [0,5] (LD prog nn b o kind) un=some (vp prog nn b o kind):=by intro a b o kind;kernel_rfl
theorem ND:∀(a:Fl) b o kind,aV prog a [0] (vp prog nn b o kind) tt=some (RH prog nn b o kind):=by intro a b o kind;kernel_rfl
theorem NF:∀(a:Fl) b o kind,aV prog a [0,2,3,4,5,12] (vp prog nn b o kind) ff=some (Xg prog nn b o kind):=by intro a b o kind;kernel_rfl
theorem NG:∀(a:Fl) b o kind,aV prog a [8] (RH prog nn b o kind) un=some (Uf prog nn b o kind):=by intro a b o kind;kernel_rfl
theorem NH:∀(a:Fl) b o kind,aV prog a [9] (Uf prog nn b o kind) (pt b o)=some (RI prog nn b o kind):=by intro a b o kind;kernel_rfl
theorem NI:∀(a:Fl) b o kind,aV prog a [] (RI prog nn b o kind) un=some (BK nn kind):=by intro a b o kind;kernel_rfl
theorem Kl:∀(a:Fl) b o kind L K S aw sv it,qR prog a [0,2,3,4,5,6] (SJ prog nn b o kind aw sv it) (.word L K S 0)=some (HD prog nn b o kind L K S aw sv it):=by intro a b o kind L K S aw sv it;kernel_rfl
theorem Km:∀(a:Fl) b o kind L K S aw sv it,qR prog a [0,2,3,4,5,6] (Ii prog nn b o kind aw sv it) (.word L K S 0)=some (HD prog nn b o kind L K S aw sv it):=by intro a b o kind L K S aw sv it;kernel_rfl
theorem Kn:∀(a:Fl) b o kind L K S aw sv it,qR prog a [0,2,3,4,5,6] (SK prog nn b o kind aw sv it) (.word L K S 0)=some (HD prog nn b o kind L K S aw sv it):=by intro a b o kind L K S aw sv it;kernel_rfl
theorem NJ:∀(a:Fl) b o kind K aw sv it,Vh prog a [0,2,3,4,5,6,17,18] (HD prog nn b o kind true K false aw sv it)=SQ prog nn b o kind K aw sv it:=by intro a b o kind K aw sv it;cases K<;>cases aw<;>cases sv<;>kernel_rfl
theorem NK:∀(a:Fl) b o kind L K S aw sv it,(L && !S)=false->(aw && !K)=false->Vh prog a [0,2,3,4,5,6,77,78,79] (HD prog nn b o kind L K S aw sv it)=Ey prog nn b o kind L K S aw sv it:=by intro a b o kind L K S aw sv it c d;cases L<;>cases K<;>cases S<;>cases aw<;>cases sv<;>first|exact absurd c (by decide)|exact absurd d (by decide)|kernel_rfl
theorem Ko:∀(a:Fl) b o kind it,aV prog {a with n0:=false} [0,2,3,4,5,33,36,37,39] (SQ prog nn b o kind false false false it) tt=some (SW prog nn b o kind it):=by intro a b o kind it;kernel_rfl
theorem Hu:∀(a:Fl) b o kind n0 K aw sv it,(!aw && !K && !n0)=false->aV prog {a with n0:=n0} [0,2,3,4,5] (SQ prog nn b o kind K aw sv it) tt=some (DS prog nn b o kind aw sv it):=by intro a b o kind n0 K aw sv it h;cases n0<;>cases K<;>cases aw<;>cases sv<;>first|exact absurd h (by decide)|kernel_rfl
theorem Kr:∀(a:Fl) b o kind K aw sv it,(aw && !K)=false->aV prog a [0,2,3,4,5,6,77,78,79] (SQ prog nn b o kind K aw sv it) ff=some (Ey prog nn b o kind true K false aw sv it):=by intro a b o kind K aw sv it h;cases K<;>cases aw<;>cases sv<;>first|exact absurd h (by decide)|kernel_rfl
theorem Ks:∀(a:Fl) b o kind r it,aV prog a [0,2,3,4,5] (SW prog nn b o kind it) (bl r)=some (DS prog nn b o kind r false it):=by intro a b o kind r it;cases r<;>kernel_rfl
theorem Hv:∀(a:Fl) b o kind aw sv,aV prog a [0,2,3,4,5,47] (DS prog nn b o kind aw sv 0) un=some (Ii prog nn b o kind aw sv 1):=by intro a b o kind aw sv;kernel_rfl
theorem Hw:∀(a:Fl) b o kind aw sv,aV prog a [0,2,3,4,5,47] (DS prog nn b o kind aw sv 1) un=some (Ii prog nn b o kind aw sv 2):=by intro a b o kind aw sv;kernel_rfl
theorem Hx:∀(a:Fl) b o kind aw sv,aV prog a [0,2,3,4,5,47] (DS prog nn b o kind aw sv 2) un=some (Ii prog nn b o kind aw sv 3):=by intro a b o kind aw sv;kernel_rfl
theorem Hy:∀(a:Fl) b o kind aw sv,aV prog a [0,2,3,4,5,47] (DS prog nn b o kind aw sv 3) un=some (Ii prog nn b o kind aw sv 4):=by intro a b o kind aw sv;kernel_rfl
theorem Kt:∀(a:Fl) b o kind K aw sv it,aV prog a [0] (Ey prog nn b o kind false K false aw sv it) tt=some (PG prog nn b o kind):=by intro a b o kind K aw sv it;cases K<;>kernel_rfl
theorem Hz:∀(a:Fl) b o kind L K S aw sv it,(L||S)=true->aV prog {a with wz:=true} [0,3] (Ey prog nn b o kind L K S aw sv it) tt=some (T1 prog nn b o kind sv):=by intro a b o kind L K S aw sv it h;cases L<;>cases K<;>cases S<;>first|exact absurd h (by decide)|kernel_rfl
theorem HA:∀(a:Fl) b o kind L K S aw sv it,(L||S)=true->aV prog {a with wz:=false} [0,2,3,91] (Ey prog nn b o kind L K S aw sv it) tt=some (PK prog nn b o kind sv):=by intro a b o kind L K S aw sv it h;cases L<;>cases K<;>cases S<;>first|exact absurd h (by decide)|kernel_rfl
theorem Ku:∀(a:Fl) b o kind L K S aw sv it,aV prog a [0,2,3,4,5,133] (Ey prog nn b o kind L K S aw sv it) ff=some (SK prog nn b o kind aw sv it):=by intro a b o kind L K S aw sv it;kernel_rfl
theorem Kv:∀(a:Fl) b o kind sv,aV prog a [0,2,3,91] (T1 prog nn b o kind sv) .Jw=some (PK prog nn b o kind sv):=by intro a b o kind sv;kernel_rfl
theorem HB:∀(a:Fl) b o kind,aV prog a [0,2,3,103] (PK prog nn b o kind true) un=some (UP prog nn b o kind true):=by intro a b o kind;kernel_rfl
theorem HC:∀(a:Fl) b o kind,aV prog a [0,2,95] (PK prog nn b o kind false) un=some (TQ prog nn b o kind):=by intro a b o kind;kernel_rfl
theorem Kw:∀(a:Fl) b o kind x,aV prog {a with tb:=x} [0,2,3,103] (TQ prog nn b o kind) .now=some (UP prog nn b o kind x):=by intro a b o kind x;cases x<;>kernel_rfl
theorem Kx:∀(a:Fl) b o kind sv n1,aV prog {a with n0:=false,n1:=n1} [0,128,129] (UP prog nn b o kind sv) (.word false false true 0)=some (AD prog nn b o kind (if !sv||n1 then -11 else -7)):=by intro a b o kind sv n1;cases sv<;>cases n1<;>kernel_rfl
theorem Ky:∀(a:Fl) b o kind L K sv,qR prog a [0,2,3,4,5,6] (UP prog nn b o kind sv) (.word L K false 0)=some (HD prog nn b o kind L K false true sv 0):=by intro a b o kind L K sv;cases L<;>cases K<;>kernel_rfl
theorem Kz:∀(a:Fl) b o kind d,aV prog a [0] (AD prog nn b o kind d) .cR=some (PG prog nn b o kind):=by intro a b o kind d;kernel_rfl
theorem KA:∀(a:Fl) b o kind,aV prog a [136] (PG prog nn b o kind) un=some (Ug prog nn b o kind):=by intro a b o kind;kernel_rfl
theorem KB:∀(a:Fl) b o kind,aV prog a [137] (Ug prog nn b o kind) (pt b o)=some (RK prog nn b o kind):=by intro a b o kind;kernel_rfl
theorem KG:∀(a:Fl) b o kind,aV prog a [] (RK prog nn b o kind) un=some (BK nn kind):=by intro a b o kind;kernel_rfl
theorem NL:∀(a:Fl) b o kind,aV prog a [0,7] (U0 prog nn b o kind) .cR=some (Uh prog nn b o kind):=by intro a b o kind;kernel_rfl
theorem NM:∀(a:Fl) b o kind,aV prog a [0,8] (Uh prog nn b o kind) (pt b o)=some (UR prog nn b o kind):=by intro a b o kind;kernel_rfl
theorem NN:∀(a:Fl) b o kind,aV prog a [0] (UR prog nn b o kind) un=some (UD prog nn b o kind):=by intro a b o kind;kernel_rfl
theorem NO:∀(a:Fl) b o kind,aV prog a [0,13] (UD prog nn b o kind) un=some (sV prog nn b o kind):=by intro a b o kind;kernel_rfl
theorem NP:∀(a:Fl) b o kind n0 K,(n0||K)=true->aV prog {a with n0:=n0} [] (sV prog nn b o kind) (.word false K false 0)=some (UE prog nn b o kind):=by intro a b o kind n0 K h;cases n0<;>cases K<;>first|exact absurd h (by decide)|kernel_rfl
theorem KH:∀(a:Fl) b o kind n0 K,aV prog {a with n0:=n0} [41] (sV prog nn b o kind) (.word false K true 0)=some (G9 prog nn b o kind):=by intro a b o kind n0 K;cases n0<;>cases K<;>kernel_rfl
theorem KI:∀(a:Fl) b o kind,aV prog {a with n0:=false} [0,27,28,29] (sV prog nn b o kind) (.word false false false 0)=some (UC prog nn b o kind):=by intro a b o kind;kernel_rfl
theorem KJ:∀(a:Fl) b o kind,aV prog a [33] (UC prog nn b o kind) tt=some (G7 prog nn b o kind):=by intro a b o kind;kernel_rfl
theorem KL:∀(a:Fl) b o kind,aV prog a [0,37] (UC prog nn b o kind) ff=some (PH prog nn b o kind):=by intro a b o kind;kernel_rfl
theorem NQ:∀(a:Fl) b o kind n0 L K S,(n0||L||K||S)=true->aV prog {a with n0:=n0} [] (PH prog nn b o kind) (.word L K S 0)=some (UE prog nn b o kind):=by intro a b o kind n0 L K S h;cases n0<;>cases L<;>cases K<;>cases S<;>first|exact absurd h (by decide)|kernel_rfl
theorem KM:∀(a:Fl) b o kind,aV prog {a with n0:=false} [0,27,28,29] (PH prog nn b o kind) (.word false false false 0)=some (UC prog nn b o kind):=by intro a b o kind;kernel_rfl
theorem NR:∀(a:Fl) b o kind,aV prog a [] (G7 prog nn b o kind) un=some (UE prog nn b o kind):=by intro a b o kind;kernel_rfl
theorem NS:∀(a:Fl) b o kind,aV prog a [] (G9 prog nn b o kind) un=some (UE prog nn b o kind):=by intro a b o kind;kernel_rfl
theorem KN:∀(a:Fl) b o kind,aV prog a [] (UE prog nn b o kind) un=some (Vp nn kind):=by intro a b o kind;kernel_rfl
theorem NT:∀b o kind,bj (LD prog nn b o kind).1=some (nn.j7,[])/\(LD prog nn b o kind).1.kind=.normal:=by intro b o kind;exact⟨by kernel_rfl,by kernel_rfl⟩
theorem NU:∀b o kind,bj (vp prog nn b o kind).1=some (nn.lx,[pt b o,i32 0,i32 1]):=by intro b o kind;kernel_rfl
theorem NV:∀b o kind,bj (RH prog nn b o kind).1=some (nn.en,[]):=by intro b o kind;kernel_rfl
theorem NW:∀b o kind,lD (Uf prog nn b o kind).1=some (nn.tM,nn.tU,pt b o):=by intro b o kind;kernel_rfl
theorem NX:∀b o kind,bj (RI prog nn b o kind).1=some (nn.acq,[pt b o]):=by intro b o kind;kernel_rfl
theorem KO:∀b o kind aw sv it,sc (SJ prog nn b o kind aw sv it).1=some (nn.tI,pt b o):=by intro b o kind aw sv it;kernel_rfl
theorem KP:∀b o kind aw sv it,sc (Ii prog nn b o kind aw sv it).1=some (nn.tI,pt b o):=by intro b o kind aw sv it;kernel_rfl
theorem KQ:∀b o kind aw sv it,sc (SK prog nn b o kind aw sv it).1=some (nn.tI,pt b o):=by intro b o kind aw sv it;kernel_rfl
theorem NY:∀b o kind K aw sv it,bj (SQ prog nn b o kind K aw sv it).1=some (nn.Jy,[i64 it]):=by intro b o kind K aw sv it;kernel_rfl
theorem NZ:∀b o kind it,bj (SW prog nn b o kind it).1=some (nn.lx,[pt b o,.word true false false 0,.word true true false 0]):=by intro b o kind it;kernel_rfl
theorem N1:∀b o kind aw sv it,bj (DS prog nn b o kind aw sv it).1=some (nn.vo,[]):=by intro b o kind aw sv it;kernel_rfl
theorem KR:∀b o kind L K S aw sv it,bj (Ey prog nn b o kind L K S aw sv it).1=some (nn.lx,[pt b o,.word L K S 0,Qg L K S aw sv]):=by intro b o kind L K S aw sv it;kernel_rfl
theorem KS:∀b o kind sv,bj (T1 prog nn b o kind sv).1=some (nn.nano,[]):=by intro b o kind sv;kernel_rfl
theorem KT:∀b o kind sv,bj (PK prog nn b o kind sv).1=some (nn.GG,[pt b (o+1),.cR,i64 2]):=by intro b o kind sv;kernel_rfl
theorem KU:∀b o kind,bj (TQ prog nn b o kind).1=some (nn.nano,[]):=by intro b o kind;kernel_rfl
theorem KV:∀b o kind sv,sc (UP prog nn b o kind sv).1=some (nn.tI,pt b o):=by intro b o kind sv;kernel_rfl
theorem KW:∀b o kind d,bj (AD prog nn b o kind d).1=some (nn.add,[pt b o,i32 d]):=by intro b o kind d;kernel_rfl
theorem KX:∀b o kind,bj (PG prog nn b o kind).1=some (nn.en,[]):=by intro b o kind;kernel_rfl
theorem KY:∀b o kind,lD (Ug prog nn b o kind).1=some (nn.tM,nn.tU,pt b o):=by intro b o kind;kernel_rfl
theorem KZ:∀b o kind,bj (RK prog nn b o kind).1=some (nn.acq,[pt b o]):=by intro b o kind;kernel_rfl
theorem K0:∀b o kind,sc (U0 prog nn b o kind).1=some (nn.tI,pt b o)/\(U0 prog nn b o kind).1.kind=.normal/\(U0 prog nn b o kind).1.fn=nn.xy:=by intro b o kind;exact⟨by kernel_rfl,by kernel_rfl,by kernel_rfl⟩
theorem K1:∀b o kind,lD (Uh prog nn b o kind).1=some (nn.tM,nn.tU,pt b o):=by intro b o kind;kernel_rfl
theorem K2:∀b o kind,bj (UR prog nn b o kind).1=some (nn.rel,[pt b o]):=by intro b o kind;kernel_rfl
theorem K3:∀b o kind,bj (UD prog nn b o kind).1=some (nn.j7,[]):=by intro b o kind;kernel_rfl
theorem K4:∀b o kind,bj (sV prog nn b o kind).1=some (nn.add,[pt b o,i32 (-1)]):=by intro b o kind;kernel_rfl
theorem K5:∀b o kind,bj (UC prog nn b o kind).1=some (nn.lx,[pt b o,wf,.word false true false (-1)]):=by intro b o kind;kernel_rfl
theorem K6:∀b o kind,bj (G7 prog nn b o kind).1=some (nn.pJ,[pt b (o+1),ff,i64 2]):=by intro b o kind;kernel_rfl
theorem K7:∀b o kind,bj (G9 prog nn b o kind).1=some (nn.pJ,[pt b (o+1),tt,i64 2]):=by intro b o kind;kernel_rfl
theorem K8:∀b o kind,sc (PH prog nn b o kind).1=some (nn.tI,pt b o):=by intro b o kind;kernel_rfl
theorem K9:∀b o kind,bj (UE prog nn b o kind).1=some (nn.en,[]):=by intro b o kind;kernel_rfl
theorem N2:∀b o kind,(Vm prog nn b o kind).all (·.env.all plain)=true/\(LD prog nn b o kind).1.env.all plain=true/\(LD prog nn b o kind).2=Vm prog nn b o kind:=by intro b o kind;exact⟨by kernel_rfl,by kernel_rfl,by kernel_rfl⟩
theorem N3:∀b o kind,(Xf prog nn b o kind).all (·.env.all plain)=true:=by intro b o kind;kernel_rfl
theorem N4:∀b o kind,(Vo prog nn b o kind).all (·.env.all plain)=true/\(U0 prog nn b o kind).1.env.all plain=true/\(U0 prog nn b o kind).2=Vo prog nn b o kind:=by intro b o kind;exact⟨by kernel_rfl,by kernel_rfl,by kernel_rfl⟩
theorem N5:∀b o kind,(XH prog nn b o kind).all (·.env.all plain)=true:=by intro b o kind;kernel_rfl
theorem BJ:ij prog nn where
 e1:=NC
 e2:=ND
 e3:=NF
 e4:=NG
 e5:=NH
 e6:=NI
 YJ:=Kl
 SL:=Km
 YK:=Kn
 e8:=NJ
 e9:=NK
 aJ:=Ko
 Vq:=Hu
 aF:=Kr
 aT:=Ks
 GJ:=Hv
 GK:=Hw
 Vr:=Hx
 Vt:=Hy
 bX:=Kt
 Vu:=Hz
 Vv:=HA
 dw:=Ku
 bJ:=Kv
 Vw:=HB
 Vx:=HC
 gT:=Kw
 Qh:=Kx
 Ax:=Ky
 xz:=Kz
 xA:=KA
 Lx:=KB
 xB:=KG
 u1:=NL
 u2:=NM
 u3:=NN
 u4:=NO
 u5:=NP
 YL:=KH
 YM:=KI
 YN:=KJ
 YO:=KL
 u7:=NQ
 YP:=KM
 u8:=NR
 u9:=NS
 YQ:=KN
 o1:=NT
 o2:=NU
 o3:=NV
 o4:=NW
 o5:=NX
 YR:=KO
 YS:=KP
 YT:=KQ
 o7:=NY
 o8:=NZ
 o9:=N1
 XI:=KR
 YU:=KS
 XJ:=KT
 YV:=KU
 YW:=KV
 YX:=KW
 YY:=KX
 YZ:=KY
 Y0:=KZ
 XK:=K0
 Y1:=K1
 Y2:=K2
 Y3:=K3
 XL:=K4
 XN:=K5
 XO:=K6
 XP:=K7
 Y4:=K8
 Y5:=K9
 p1:=N2
 p2:=N3
 p3:=N4
 p4:=N5
theorem BL:ik prog nn where
 j7:=⟨_,rfl,rfl,rfl,rfl,rfl⟩
 en:=⟨_,rfl,rfl,rfl,rfl,rfl⟩
 acq:=⟨_,rfl,rfl,rfl,rfl,rfl⟩
 rel:=⟨_,rfl,rfl,rfl,rfl,rfl⟩
 lx:=⟨_,rfl,rfl,rfl,rfl,rfl⟩
 add:=⟨_,rfl,rfl,rfl,rfl,rfl⟩
 Jy:=⟨_,rfl,rfl,rfl,rfl,rfl⟩
 vo:=⟨_,rfl,rfl,rfl,rfl,rfl⟩
 nano:=⟨_,rfl,rfl,rfl,rfl,rfl⟩
 Mw:=⟨_,rfl,rfl⟩
 GG:=⟨_,rfl,rfl,rfl,rfl,rfl⟩
 pJ:=⟨_,rfl,rfl,rfl,rfl,rfl⟩
 Vy:=by kernel_rfl
 Y6:=⟨_,rfl,rfl,rfl⟩
 nS:=⟨_,rfl,rfl⟩
 nU:=⟨_,rfl,rfl⟩
 nV:=⟨_,rfl,rfl⟩

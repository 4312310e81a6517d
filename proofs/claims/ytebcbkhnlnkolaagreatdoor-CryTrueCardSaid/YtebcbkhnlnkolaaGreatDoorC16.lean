import Derived.Test.YtebcbkhnlnkolaaGreatDoorProg
import Derived.Test.YtebcbkhnlnkolaaGreatDoorC15
set_option linter.all false
set_option maxHeartbeats 1000000
set_option maxRecDepth 100000
namespace Go.Proofs.YtebcbkhnlnkolaaGreatDoor
open Go.Proofs.Tryz (prog)
section
open Go.cE
@[simp] def adj:TI:=⟨.func,1,8,.nilFunc,[]⟩
@[simp] def adn:TI:=⟨.int .i64,1,8,(.int .i64 0),[]⟩
@[simp] def adA:TI:=⟨.bool,1,1,(.bool false),[]⟩
@[simp] def adm:TI:=⟨.int .u8,1,1,(.int .u8 0),[]⟩
@[simp] def ads:TI:=⟨.struct,4,24,(.agg #[(.int .i64 0),(.int .i64 0),(.bool false),(.int .u8 0)]),[(0,1,2),(1,1,3),(2,1,4),(3,1,6)]⟩
@[simp] def adp:TI:=⟨.string,1,16,(.string ByteArray.empty),[]⟩
@[simp] def ado:TI:=⟨.int .u64,1,8,(.int .u64 0),[]⟩
@[simp] def adt:TI:=⟨.struct,2,24,(.agg #[(.string ByteArray.empty),(.int .u64 0)]),[(0,1,9),(1,1,12)]⟩
@[simp] def adB:TI:=⟨.pointer 304,1,8,(.pointer none),[]⟩
@[simp] def adC:TI:=⟨.pointer 307,1,8,(.pointer none),[]⟩
@[simp] def adD:TI:=⟨.pointer 315,1,8,(.pointer none),[]⟩
@[simp] def adq:TI:=⟨.struct,1,8,(.agg #[(.pointer none)]),[(0,1,17)]⟩
@[simp] def adl:TI:=⟨.iface,1,16,.nilIface,[]⟩
@[simp] def adr:TI:=⟨.int .i32,1,4,(.int .i32 0),[]⟩
@[simp] def adE:TI:=⟨.slice 3,1,24,(.slice none 0 0),[]⟩
@[simp] def adF:TI:=⟨.pointer 71,1,8,(.pointer none),[]⟩
@[simp] def adG:TI:=⟨.slice 42,1,24,(.slice none 0 0),[]⟩
@[simp] def adH:TI:=⟨.slice 22,1,24,(.slice none 0 0),[]⟩
@[simp] def adu:TI:=⟨.struct,2,16,(.agg #[(.int .i64 0),(.int .i64 0)]),[(0,1,3),(1,1,3)]⟩
@[simp] def adv:TI:=⟨.struct,6,80,(.agg #[(.slice none 0 0),(.slice none 0 0),(.int .i64 0),(.int .i64 0),(.int .i64 0),(.int .i64 0)]),[(0,1,25),(1,1,26),(2,2,28),(4,1,3),(5,1,3)]⟩
@[simp] def adI:TI:=⟨.slice 38,1,24,(.slice none 0 0),[]⟩
@[simp] def adJ:TI:=⟨.slice 45,1,24,(.slice none 0 0),[]⟩
@[simp] def adw:TI:=⟨.struct,9,136,(.agg #[(.slice none 0 0),(.slice none 0 0),(.int .i64 0),(.int .i64 0),(.int .i64 0),(.int .i64 0),(.int .i64 0),(.slice none 0 0),(.slice none 0 0)]),[(0,6,30),(6,1,3),(7,1,31),(8,1,32)]⟩
@[simp] def adK:TI:=⟨.struct,5,40,(.agg #[(.int .i64 0),(.int .i64 0),(.int .i64 0),(.int .i64 0),(.int .i64 0)]),[(0,1,3),(1,1,3),(2,1,3),(3,2,28)]⟩
@[simp] def adL:TI:=⟨.struct,6,64,(.agg #[(.int .i64 0),(.int .i64 0),(.int .i64 0),(.slice none 0 0),(.int .i64 0),(.int .i64 0)]),[(0,1,3),(1,1,3),(2,1,3),(3,1,22),(4,1,3),(5,1,3)]⟩
@[simp] def adM:TI:=⟨.struct,8,80,(.agg #[(.int .i64 0),(.int .i64 0),(.int .i64 0),(.slice none 0 0),(.int .i64 0),(.int .i64 0),(.int .i64 0),(.int .i64 0)]),[(0,6,42),(6,1,3),(7,1,3)]⟩
@[simp] def adN:TI:=⟨.struct,3,40,(.agg #[(.slice none 0 0),(.int .i64 0),(.int .u64 0)]),[(0,1,22),(1,1,3),(2,1,69)]⟩
@[simp] def adO:TI:=⟨.slice 28,1,24,(.slice none 0 0),[]⟩
@[simp] def adP:TI:=⟨.pointer 147,1,8,(.pointer none),[]⟩
@[simp] def adk:TI:=⟨.struct,0,0,(.agg #[]),[]⟩
@[simp] def adQ:TI:=⟨.pointer 246,1,8,(.pointer none),[]⟩
@[simp] def adR:TI:=⟨.struct,2,2,(.agg #[(.int .u8 0),(.int .u8 0)]),[(0,1,102),(1,1,102)]⟩
@[simp] def adS:TI:=⟨.struct,2,32,(.agg #[(.slice none 0 0),(.int .i64 0)]),[(0,1,22),(1,1,3)]⟩
@[simp] def adT:TI:=⟨.pointer 34,1,8,(.pointer none),[]⟩
@[simp] def adU:TI:=⟨.struct,1,8,(.agg #[.nilFunc]),[(0,1,53)]⟩
@[simp] def adV:TI:=⟨.array 2 3,2,16,(.agg #[(.int .i64 0),(.int .i64 0)]),[]⟩
@[simp] def adW:TI:=⟨.int .u32,1,4,(.int .u32 0),[]⟩
@[simp] def adX:TI:=⟨.struct,2,8,(.agg #[(.int .i32 0),(.int .u32 0)]),[(0,1,21),(1,1,139)]⟩
@[simp] def adY:TI:=⟨.struct,2,8,(.agg #[(.int .i32 0),(.int .u32 0)]),[(0,0,138),(0,2,141)]⟩
@[simp] def adZ:TI:=⟨.array 3 3,3,24,(.agg #[(.int .i64 0),(.int .i64 0),(.int .i64 0)]),[]⟩
@[simp] def aea:TI:=⟨.map 104 165,1,8,(.map none),[]⟩
@[simp] def aeb:TI:=⟨.struct,15,176,(.agg #[(.slice none 0 0),(.slice none 0 0),(.int .i64 0),(.int .i64 0),(.int .i64 0),(.int .i64 0),(.int .i64 0),(.slice none 0 0),(.slice none 0 0),(.int .i32 0),(.int .u32 0),(.int .i64 0),(.int .i64 0),(.int .i64 0),(.map none)]),[(0,9,34),(9,2,143),(11,3,144),(14,1,145)]⟩
@[simp] def aec:TI:=⟨.struct,1,8,(.agg #[.nilFunc]),[(0,1,74)]⟩
@[simp] def aed:TI:=⟨.array 3 97,3,48,(.agg #[.nilIface,.nilIface,.nilIface]),[]⟩
@[simp] def aee:TI:=⟨.struct,1,4,(.agg #[(.int .u32 0)]),[(0,0,157),(0,1,139)]⟩
@[simp] def adx:TI:=⟨.struct,3,12,(.agg #[(.int .u32 0),(.int .i32 0),(.int .u32 0)]),[(0,0,138),(0,1,159),(1,2,143)]⟩
@[simp] def aef:TI:=⟨.array 6 156,18,288,(.agg #[.nilIface,.nilIface,.nilIface,.nilIface,.nilIface,.nilIface,.nilIface,.nilIface,.nilIface,.nilIface,.nilIface,.nilIface,.nilIface,.nilIface,.nilIface,.nilIface,.nilIface,.nilIface]),[]⟩
@[simp] def aeg:TI:=⟨.struct,21,304,(.agg #[(.int .u32 0),(.int .i32 0),(.int .u32 0),.nilIface,.nilIface,.nilIface,.nilIface,.nilIface,.nilIface,.nilIface,.nilIface,.nilIface,.nilIface,.nilIface,.nilIface,.nilIface,.nilIface,.nilIface,.nilIface,.nilIface,.nilIface]),[(0,3,161),(3,18,162)]⟩
@[simp] def aeh:TI:=⟨.pointer 164,1,8,(.pointer none),[]⟩
@[simp] def aei:TI:=⟨.array 3 102,3,3,(.agg #[(.int .u8 0),(.int .u8 0),(.int .u8 0)]),[]⟩
@[simp] def ady:TI:=⟨.struct,1,8,(.agg #[(.int .u64 0)]),[(0,0,157),(0,0,181),(0,1,69)]⟩
@[simp] def aej:TI:=⟨.struct,2,16,(.agg #[(.int .u64 0),(.int .u32 0)]),[(0,0,138),(0,1,183),(1,1,139)]⟩
@[simp] def aek:TI:=⟨.array 4 3,4,32,(.agg #[(.int .i64 0),(.int .i64 0),(.int .i64 0),(.int .i64 0)]),[]⟩
@[simp] def ael:TI:=⟨.slice 88,1,24,(.slice none 0 0),[]⟩
@[simp] def aem:TI:=⟨.pointer 185,1,8,(.pointer none),[]⟩
@[simp] def aen:TI:=⟨.pointer 139,1,8,(.pointer none),[]⟩
@[simp] def aeo:TI:=⟨.pointer 143,1,8,(.pointer none),[]⟩
@[simp] def adz:TI:=⟨.struct,1,8,(.agg #[(.int .i64 0)]),[(0,1,46)]⟩
@[simp] def aep:TI:=⟨.pointer 236,1,8,(.pointer none),[]⟩
@[simp] def aeq:TI:=⟨.pointer 161,1,8,(.pointer none),[]⟩
@[simp] def aer:TI:=⟨.map 248 4,1,8,(.map none),[]⟩
@[simp] def aes:TI:=⟨.struct,9,96,(.agg #[(.slice none 0 0),(.slice none 0 0),(.int .i64 0),(.int .i64 0),(.int .i64 0),(.int .i64 0),(.int .i32 0),(.int .u32 0),(.map none)]),[(0,6,30),(6,2,143),(8,1,244)]⟩
@[simp] def aet:TI:=⟨.struct,1,1,(.agg #[(.int .u8 0)]),[(0,1,5)]⟩
@[simp] def aeu:TI:=⟨.array 6 248,6,6,(.agg #[(.int .u8 0),(.int .u8 0),(.int .u8 0),(.int .u8 0),(.int .u8 0),(.int .u8 0)]),[]⟩
@[simp] def aev:TI:=⟨.pointer 255,1,8,(.pointer none),[]⟩
@[simp] def aew:TI:=⟨.struct,1,8,(.agg #[.nilFunc]),[(0,1,40)]⟩
@[simp] def aex:TI:=⟨.slice 217,1,24,(.slice none 0 0),[]⟩
@[simp] def aey:TI:=⟨.struct,3,24,(.agg #[(.pointer none),(.pointer none),(.int .u64 0)]),[(0,1,17),(1,1,222),(2,1,276)]⟩
@[simp] def aez:TI:=⟨.chan 3,1,8,(.chan none),[]⟩
@[simp] def aeA:TI:=⟨.pointer 159,1,8,(.pointer none),[]⟩
@[simp] def aeB:TI:=⟨.struct,4,40,(.agg #[(.pointer none),(.pointer none),(.pointer none),(.string ByteArray.empty)]),[(0,1,17),(1,1,17),(2,1,17),(3,1,9)]⟩
@[simp] def aeC:TI:=⟨.array 0 16,0,0,(.agg #[]),[]⟩
@[simp] def aeD:TI:=⟨.struct,0,0,(.agg #[]),[(0,0,305)]⟩
@[simp] def aeE:TI:=⟨.pointer 5,1,8,(.pointer none),[]⟩
@[simp] def aeF:TI:=⟨.struct,11,48,(.agg #[(.int .u64 0),(.int .u64 0),(.int .u32 0),(.int .u8 0),(.int .u8 0),(.int .u8 0),(.int .u8 0),.nilFunc,(.pointer none),(.int .i32 0),(.int .i32 0)]),[(0,1,12),(1,1,12),(2,1,139),(3,1,309),(4,1,5),(5,1,5),(6,1,281),(7,1,310),(8,1,311),(9,1,312),(10,1,313)]⟩
def Mm:List (Nat × TI):=[
 (1,adj),
 (2,adn),
 (3,adn),
 (4,adA),
 (5,adm),
 (6,adm),
 (7,ads),
 (8,ads),
 (9,adp),
 (10,adp),
 (11,adp),
 (12,ado),
 (13,adt),
 (14,adt),
 (15,adB),
 (16,adC),
 (17,adD),
 (18,adq),
 (19,adq),
 (20,adl),
 (21,adr),
 (22,adE),
 (23,adF),
 (24,adj),
 (25,adG),
 (26,adH),
 (27,adu),
 (28,adu),
 (29,adv),
 (30,adv),
 (31,adI),
 (32,adJ),
 (33,adw),
 (34,adw),
 (38,adK),
 (40,adj),
 (42,adL),
 (43,adj),
 (45,adM),
 (46,adn),
 (49,adj),
 (53,adj),
 (67,adj),
 (69,ado),
 (71,adN),
 (73,adj),
 (74,adj),
 (79,adO),
 (84,adP),
 (86,adj),
 (88,adl),
 (92,adk),
 (93,adk),
 (94,adj),
 (97,adl),
 (98,adk),
 (99,adQ),
 (101,adj),
 (102,adm),
 (104,adR),
 (110,adS),
 (113,adj),
 (114,adj),
 (115,adj),
 (121,adj),
 (127,adj),
 (131,adT),
 (134,adU),
 (137,adV),
 (138,adk),
 (139,adW),
 (141,adX),
 (143,adY),
 (144,adZ),
 (145,aea),
 (147,aeb),
 (149,adl),
 (152,ado),
 (155,aec),
 (156,aed),
 (157,adk),
 (159,aee),
 (160,adx),
 (161,adx),
 (162,aef),
 (164,aeg),
 (165,aeh),
 (166,adj),
 (167,adk),
 (170,aei),
 (175,adj),
 (181,adk),
 (182,ady),
 (183,ady),
 (185,aej),
 (188,aek),
 (197,adq),
 (199,adl),
 (202,adl),
 (204,adl),
 (205,ael),
 (217,adl),
 (220,aem),
 (223,adn),
 (227,aen),
 (231,aeo),
 (236,adz),
 (238,aep),
 (240,aeq),
 (241,adk),
 (244,aer),
 (246,aes),
 (248,aet),
 (249,aeu),
 (252,adj),
 (255,adz),
 (257,aev),
 (259,aew),
 (260,adk),
 (261,adk),
 (262,adk),
 (263,aex),
 (276,ado),
 (278,aey),
 (281,adm),
 (285,aez),
 (286,aeA),
 (304,aeB),
 (305,aeC),
 (307,aeD),
 (309,adm),
 (310,adj),
 (311,aeE),
 (312,adr),
 (313,adr),
 (315,aeF),
 (321,adm)]
theorem I6:(Mm.all λx=>x.2.check Tryz.prog x.1)=true:=by kernel_rfl
def B1(t:Nat):Option TI:=(Mm.find? λx=>x.1==t).map (·.2)
theorem F5(t:Nat)(i:TI)(h:B1 t=some i):i.check Tryz.prog t=true:=by unfold B1 at h;obtain⟨x,a,rfl⟩:=aat.1 h;have c:=List.find?_some a;have b:=aap.1 I6 x (List.mem_of_find?_eq_some a);rw[abu.1 c]at b;exact b
def lay:jj Tryz.prog:=⟨B1,F5,by kernel_rfl⟩
theorem rn{m:Mo}{fid n:Nat}{ro:acQ}{hold:acO}{s:St}{K:cE.Exit->St->Prop}{todo:acU}(h:bD lay m fid n ro [] hold 1000 todo s K):aa Tryz.prog m fid n ro hold todo s K:=aa.run lay [] h
theorem pg{m:Mo}{ops:acP}{n:Nat}{Kp:acI}{R:acH}{p:ot}{env:Env}{σ:af}(h:iq lay m [] ops n Kp p env σ R):aM Tryz.prog m ops n Kp p env σ R:=aM.go lay [] h
theorem cf{m:Mo}{f:FuncId}{fn:Func}{args:ade}{σ:af}{KF:acJ}(a:Tryz.prog.funcs[f]?=some fn)(hb:(fn.body.isSome && !(fn.name== "runtime.NumGoroutine"))=true)(h:aA Tryz.prog m f args σ KF):bK Tryz.prog m (.fn (.func f) [] []) args σ KF:=by
 simp only[zj,abP]at hb;exact ao a hb.1 hb.2 h
theorem fs{m:Mo}{f:FuncId}{fn:Func}{args:ade}{σ:af}{KF:acJ}{body:Code}(hold:acO)(b:Tryz.prog.funcs[f]?=some fn)(hb:fn.body=some body)(c:(ou fn args.length&&kU hold body)=true)(h:bD lay m f fn.ntmps none [] hold 1000 [.code body] ⟨du args,σ,[],.no⟩ (SC lay m fn.results.toList (nD KF))):aA Tryz.prog m f args σ KF:=by simp only[zj]at c;exact aA.start lay [] hold _ b hb rfl c.1 c.2 h
@[simp] theorem tt1:lay.tt 1=some adj:=rfl
@[simp] theorem tt2:lay.tt 2=some adn:=rfl
@[simp] theorem rp:lay.tt 3=some adn:=rfl
@[simp] theorem ZH:lay.tt 4=some adA:=rfl
@[simp] theorem Yl:lay.tt 5=some adm:=rfl
@[simp] theorem tt6:lay.tt 6=some adm:=rfl
@[simp] theorem tt7:lay.tt 7=some ads:=rfl
@[simp] theorem tt8:lay.tt 8=some ads:=rfl
@[simp] theorem tt9:lay.tt 9=some adp:=rfl
@[simp] theorem ZI:lay.tt 10=some adp:=rfl
@[simp] theorem ZJ:lay.tt 11=some adp:=rfl
@[simp] theorem ZK:lay.tt 12=some ado:=rfl
@[simp] theorem ZL:lay.tt 13=some adt:=rfl
@[simp] theorem ZM:lay.tt 14=some adt:=rfl
@[simp] theorem ZN:lay.tt 15=some adB:=rfl
@[simp] theorem ZO:lay.tt 16=some adC:=rfl
@[simp] theorem ZP:lay.tt 17=some adD:=rfl
@[simp] theorem ZQ:lay.tt 18=some adq:=rfl
@[simp] theorem ZR:lay.tt 19=some adq:=rfl
@[simp] theorem ZS:lay.tt 20=some adl:=rfl
@[simp] theorem ZT:lay.tt 21=some adr:=rfl
@[simp] theorem dC:lay.tt 22=some adE:=rfl
@[simp] theorem ZU:lay.tt 23=some adF:=rfl
@[simp] theorem ZV:lay.tt 24=some adj:=rfl
@[simp] theorem nk:lay.tt 25=some adG:=rfl
@[simp] theorem qg:lay.tt 26=some adH:=rfl
@[simp] theorem ZW:lay.tt 27=some adu:=rfl
@[simp] theorem Xf:lay.tt 28=some adu:=rfl
@[simp] theorem ZX:lay.tt 29=some adv:=rfl
@[simp] theorem ZY:lay.tt 30=some adv:=rfl
@[simp] theorem R9:lay.tt 31=some adI:=rfl
@[simp] theorem PW:lay.tt 32=some adJ:=rfl
@[simp] theorem ZZ:lay.tt 33=some adw:=rfl
@[simp] theorem Z1:lay.tt 34=some adw:=rfl
@[simp] theorem Vb:lay.tt 38=some adK:=rfl
@[simp] theorem Z2:lay.tt 40=some adj:=rfl
@[simp] theorem zw:lay.tt 42=some adL:=rfl
@[simp] theorem Z3:lay.tt 43=some adj:=rfl
@[simp] theorem Vd:lay.tt 45=some adM:=rfl
@[simp] theorem Z4:lay.tt 46=some adn:=rfl
@[simp] theorem Z5:lay.tt 49=some adj:=rfl
@[simp] theorem Z6:lay.tt 53=some adj:=rfl
@[simp] theorem Z7:lay.tt 67=some adj:=rfl
@[simp] theorem Z8:lay.tt 69=some ado:=rfl
@[simp] theorem Z9:lay.tt 71=some adN:=rfl
@[simp] theorem Z':lay.tt 73=some adj:=rfl
@[simp] theorem aaa:lay.tt 74=some adj:=rfl
@[simp] theorem Ve:lay.tt 79=some adO:=rfl
@[simp] theorem aab:lay.tt 84=some adP:=rfl
@[simp] theorem aac:lay.tt 86=some adj:=rfl
@[simp] theorem I7:lay.tt 88=some adl:=rfl
@[simp] theorem aad:lay.tt 92=some adk:=rfl
@[simp] theorem aae:lay.tt 93=some adk:=rfl
@[simp] theorem aaf:lay.tt 94=some adj:=rfl
@[simp] theorem Vf:lay.tt 97=some adl:=rfl
@[simp] theorem aag:lay.tt 98=some adk:=rfl
@[simp] theorem aah:lay.tt 99=some adQ:=rfl
@[simp] theorem Ym:lay.tt 101=some adj:=rfl
@[simp] theorem Mn:lay.tt 102=some adm:=rfl
@[simp] theorem Yn:lay.tt 104=some adR:=rfl
@[simp] theorem Yo:lay.tt 110=some adS:=rfl
@[simp] theorem Yp:lay.tt 113=some adj:=rfl
@[simp] theorem Yq:lay.tt 114=some adj:=rfl
@[simp] theorem Yr:lay.tt 115=some adj:=rfl
@[simp] theorem Ys:lay.tt 121=some adj:=rfl
@[simp] theorem Yt:lay.tt 127=some adj:=rfl
@[simp] theorem Yu:lay.tt 131=some adT:=rfl
@[simp] theorem Yv:lay.tt 134=some adU:=rfl
@[simp] theorem Q5:lay.tt 137=some adV:=rfl
@[simp] theorem Yw:lay.tt 138=some adk:=rfl
@[simp] theorem Yx:lay.tt 139=some adW:=rfl
@[simp] theorem Yy:lay.tt 141=some adX:=rfl
@[simp] theorem Yz:lay.tt 143=some adY:=rfl
@[simp] theorem YA:lay.tt 144=some adZ:=rfl
@[simp] theorem YB:lay.tt 145=some aea:=rfl
@[simp] theorem YC:lay.tt 147=some aeb:=rfl
@[simp] theorem YD:lay.tt 149=some adl:=rfl
@[simp] theorem YE:lay.tt 152=some ado:=rfl
@[simp] theorem YF:lay.tt 155=some aec:=rfl
@[simp] theorem YG:lay.tt 156=some aed:=rfl
@[simp] theorem YH:lay.tt 157=some adk:=rfl
@[simp] theorem YI:lay.tt 159=some aee:=rfl
@[simp] theorem YJ:lay.tt 160=some adx:=rfl
@[simp] theorem YK:lay.tt 161=some adx:=rfl
@[simp] theorem YL:lay.tt 162=some aef:=rfl
@[simp] theorem YM:lay.tt 164=some aeg:=rfl
@[simp] theorem Vg:lay.tt 165=some aeh:=rfl
@[simp] theorem YN:lay.tt 166=some adj:=rfl
@[simp] theorem YO:lay.tt 167=some adk:=rfl
@[simp] theorem Vh:lay.tt 170=some aei:=rfl
@[simp] theorem YP:lay.tt 175=some adj:=rfl
@[simp] theorem YQ:lay.tt 181=some adk:=rfl
@[simp] theorem YR:lay.tt 182=some ady:=rfl
@[simp] theorem YS:lay.tt 183=some ady:=rfl
@[simp] theorem YT:lay.tt 185=some aej:=rfl
@[simp] theorem YU:lay.tt 188=some aek:=rfl
@[simp] theorem YV:lay.tt 197=some adq:=rfl
@[simp] theorem YW:lay.tt 199=some adl:=rfl
@[simp] theorem YX:lay.tt 202=some adl:=rfl
@[simp] theorem YY:lay.tt 204=some adl:=rfl
@[simp] theorem YZ:lay.tt 205=some ael:=rfl
@[simp] theorem Q6:lay.tt 217=some adl:=rfl
@[simp] theorem Y0:lay.tt 220=some aem:=rfl
@[simp] theorem Y1:lay.tt 223=some adn:=rfl
@[simp] theorem Y2:lay.tt 227=some aen:=rfl
@[simp] theorem Y3:lay.tt 231=some aeo:=rfl
@[simp] theorem Y4:lay.tt 236=some adz:=rfl
@[simp] theorem Y5:lay.tt 238=some aep:=rfl
@[simp] theorem Y6:lay.tt 240=some aeq:=rfl
@[simp] theorem Y7:lay.tt 241=some adk:=rfl
@[simp] theorem Y8:lay.tt 244=some aer:=rfl
@[simp] theorem Y9:lay.tt 246=some aes:=rfl
@[simp] theorem Y':lay.tt 248=some aet:=rfl
@[simp] theorem Za:lay.tt 249=some aeu:=rfl
@[simp] theorem Zb:lay.tt 252=some adj:=rfl
@[simp] theorem Zc:lay.tt 255=some adz:=rfl
@[simp] theorem Zd:lay.tt 257=some aev:=rfl
@[simp] theorem Ze:lay.tt 259=some aew:=rfl
@[simp] theorem Vi:lay.tt 260=some adk:=rfl
@[simp] theorem Vj:lay.tt 261=some adk:=rfl
@[simp] theorem Vk:lay.tt 262=some adk:=rfl
@[simp] theorem Zf:lay.tt 263=some aex:=rfl
@[simp] theorem Zg:lay.tt 276=some ado:=rfl
@[simp] theorem Zh:lay.tt 278=some aey:=rfl
@[simp] theorem Zi:lay.tt 281=some adm:=rfl
@[simp] theorem HQ:lay.tt 285=some aez:=rfl
@[simp] theorem Zj:lay.tt 286=some aeA:=rfl
@[simp] theorem Zk:lay.tt 304=some aeB:=rfl
@[simp] theorem Zl:lay.tt 305=some aeC:=rfl
@[simp] theorem Zm:lay.tt 307=some aeD:=rfl
@[simp] theorem Zn:lay.tt 309=some adm:=rfl
@[simp] theorem Zo:lay.tt 310=some adj:=rfl
@[simp] theorem Zp:lay.tt 311=some aeE:=rfl
@[simp] theorem Zq:lay.tt 312=some adr:=rfl
@[simp] theorem Zr:lay.tt 313=some adr:=rfl
@[simp] theorem Zs:lay.tt 315=some aeF:=rfl
@[simp] theorem Zt:lay.tt 321=some adm:=rfl
abbrev pl9:acO:=[⟨14,.take [0,1,2,3,4,5,6,7,8] true (.done)⟩,⟨20,.take [0,1,2,3,4,5,6,7,8,9,10,11,12,13,14,15,16,17,18,19] true (.done)⟩,⟨21,.take [0,1,2,3,4,5] false (.one 6 (.take [7,8,9,10,11] true (.done)))⟩]
abbrev Xg:acO:=[⟨4,.take [0,1,2,3,4,5,6,7,8] true (.done)⟩]
abbrev Vl:acO:=[⟨8,.take [0,1,2,3,4,5,7] false (.both 6 (.both 8 (.take [9] false (.one 10 (.one 11 (.done)))) (.one 10 (.one 8 (.take [9] true (.one 11 (.done)))))) (.one 10 (.one 6 (.one 8 (.take [9] true (.one 11 (.done)))))))⟩,⟨12,.take [0,1,2,3,4,6,7,8,9] false (.one 5 (.one 10 (.done)))⟩]
abbrev Xh:acO:=[⟨19,.take [0,2,3,4,6,7,11] false (.both 1 (.both 5 (.one 8 (.one 9 (.take [10] true (.one 12 (.done))))) (.one 8 (.one 5 (.one 9 (.take [10] true (.one 12 (.done))))))) (.both 5 (.both 1 (.one 8 (.one 9 (.take [10] true (.one 12 (.done))))) (.one 8 (.both 1 (.one 9 (.take [10] true (.one 12 (.done)))) (.one 9 (.take [1,10] true (.one 12 (.done))))))) (.one 8 (.both 1 (.one 5 (.one 9 (.take [10] true (.one 12 (.done))))) (.one 5 (.both 1 (.one 9 (.take [10] true (.one 12 (.done)))) (.one 9 (.take [1,10] true (.one 12 (.done))))))))))⟩]
abbrev Xi:acO:=[⟨3,.take [0,1,2] false (.both 3 (.one 4 (.one 5 (.one 6 (.one 7 (.one 8 (.one 9 (.done))))))) (.one 4 (.both 3 (.one 5 (.one 6 (.one 7 (.one 8 (.one 9 (.done)))))) (.one 5 (.both 3 (.one 6 (.one 7 (.one 8 (.one 9 (.done))))) (.one 6 (.both 3 (.one 7 (.one 8 (.one 9 (.done)))) (.one 7 (.one 3 (.one 8 (.one 9 (.done))))))))))))⟩]
abbrev Xj:acO:=[⟨3,.take [0,1,2,3,4,5,6,7,8,9] true (.done)⟩,⟨4,.take [0,1,2,3,4,5,6,7,8,9,10,11,12,13,14] true (.take [15] true (.done))⟩,⟨6,.take [0,1,2,3,5,6,7,11,12] false (.take [4,8,9,10] true (.one 13 (.done)))⟩]
abbrev Xk:acO:=[⟨7,.take [0,2,6] false (.both 1 (.one 3 (.one 4 (.one 5 (.one 7 (.done))))) (.one 3 (.both 1 (.one 4 (.one 5 (.one 7 (.done)))) (.one 4 (.take [1] true (.one 5 (.one 7 (.done))))))))⟩,⟨15,.take [0,2,5,6,8,11,12,13] false (.both 1 (.take [3,4,14] false (.one 7 (.take [9,10,16] false (.one 15 (.one 17 (.done)))))) (.one 7 (.take [9,10,16] false (.take [1,3,4,14] true (.one 15 (.one 17 (.done)))))))⟩,⟨21,.take [0,2,3,7] false (.both 1 (.one 4 (.one 5 (.one 6 (.one 8 (.done))))) (.one 4 (.both 1 (.one 5 (.one 6 (.one 8 (.done)))) (.one 5 (.take [1] true (.one 6 (.one 8 (.done))))))))⟩]
abbrev Xl:acO:=[⟨6,.take [0,1,2,3,4,5,6,7,8] true (.done)⟩]
abbrev Xm:acO:=[⟨26,.take [0,1,2,3] false (.one 4 (.one 5 (.one 6 (.take [7,8,9,10,11] true (.done)))))⟩]
abbrev Xn:acO:=[⟨1,.take [0,1,2,3,4] false (.both 5 (.one 6 (.one 7 (.done))) (.one 6 (.one 5 (.one 7 (.done)))))⟩,⟨4,.take [0,1,2,3,4,5] true (.one 6 (.done))⟩]
abbrev Vm:acO:=[⟨7,.take [0,1,2,3] true (.done)⟩]
abbrev Xo:acO:=[⟨1,.take [0,1,2,3,4,5,6,7,8,9] true (.done)⟩]
abbrev Vn:acO:=[⟨7,.take [0,1,2] false (.one 3 (.one 4 (.take [5,6,7,8,9] true (.done))))⟩]
abbrev Q7:acO:=[⟨4,.take [0,1,2,3,4,5] false (.one 6 (.done))⟩]
abbrev Vo:acO:=[⟨16,.take [0,1,2,4,5,6,8,9,12] false (.both 3 (.one 7 (.one 10 (.one 11 (.one 13 (.done))))) (.one 7 (.both 3 (.one 10 (.one 11 (.one 13 (.done)))) (.one 10 (.take [3] true (.one 11 (.one 13 (.done))))))))⟩]
abbrev Vp:acO:=[⟨0,.take [0,1,3,4,6,7] false (.both 2 (.both 5 (.take [11] false (.both 8 (.take [12] false (.one 9 (.one 10 (.done)))) (.one 9 (.one 8 (.take [12] false (.one 10 (.done))))))) (.one 9 (.one 5 (.take [11] false (.one 8 (.take [12] false (.one 10 (.done)))))))) (.one 9 (.one 2 (.one 5 (.take [11] false (.one 8 (.take [12] false (.one 10 (.done)))))))))⟩,⟨8,.take [0,1,2,3,5,6,7,8] false (.one 4 (.one 9 (.done)))⟩]
abbrev Vq:acO:=[⟨6,.take [0,1,2,3] true (.done)⟩]
abbrev Vr:acO:=[⟨1,.take [0,1,2,3,4,5,6] true (.done)⟩]
abbrev Vt:acO:=[⟨24,.take [0,1,2,3,4,5,6,7,8,9,10,11,12,13,14,15,16,17,18,19,20,21,22,23,24] true (.done)⟩,⟨29,.take [0,1,2,3,4,5,6,7,8,9,10,11,12,13,14,15,16,17,18,19,20,21,22] true (.done)⟩]
abbrev Vu:acO:=[⟨4,.take [0,2,4] false (.take [1] true (.one 3 (.one 5 (.done))))⟩,⟨5,.take [0,1,2] false (.one 3 (.one 4 (.take [5,6,8,9,10,12,15,16,17] false (.both 7 (.both 11 (.both 13 (.both 14 (.one 18 (.one 19 (.take [20,21] true (.done)))) (.one 18 (.one 14 (.one 19 (.take [20,21] true (.done)))))) (.one 18 (.one 13 (.one 14 (.one 19 (.take [20,21] true (.done))))))) (.both 13 (.both 11 (.both 14 (.one 18 (.one 19 (.take [20,21] true (.done)))) (.one 18 (.one 14 (.one 19 (.take [20,21] true (.done)))))) (.one 18 (.one 11 (.one 14 (.one 19 (.take [20,21] true (.done))))))) (.one 18 (.both 11 (.one 13 (.one 14 (.one 19 (.take [20,21] true (.done))))) (.one 13 (.one 11 (.one 14 (.one 19 (.take [20,21] true (.done)))))))))) (.both 11 (.both 7 (.both 13 (.both 14 (.one 18 (.one 19 (.take [20,21] true (.done)))) (.one 18 (.one 14 (.one 19 (.take [20,21] true (.done)))))) (.one 18 (.one 13 (.one 14 (.one 19 (.take [20,21] true (.done))))))) (.both 13 (.both 7 (.both 14 (.one 18 (.one 19 (.take [20,21] true (.done)))) (.one 18 (.one 14 (.one 19 (.take [20,21] true (.done)))))) (.both 14 (.both 7 (.one 18 (.one 19 (.take [20,21] true (.done)))) (.one 18 (.one 7 (.one 19 (.take [20,21] true (.done)))))) (.one 18 (.both 7 (.one 14 (.one 19 (.take [20,21] true (.done)))) (.one 14 (.one 7 (.one 19 (.take [20,21] true (.done))))))))) (.one 18 (.both 7 (.one 13 (.one 14 (.one 19 (.take [20,21] true (.done))))) (.one 13 (.both 7 (.one 14 (.one 19 (.take [20,21] true (.done)))) (.one 14 (.one 7 (.one 19 (.take [20,21] true (.done))))))))))) (.both 13 (.both 7 (.both 11 (.both 14 (.one 18 (.one 19 (.take [20,21] true (.done)))) (.one 18 (.one 14 (.one 19 (.take [20,21] true (.done)))))) (.one 18 (.one 11 (.one 14 (.one 19 (.take [20,21] true (.done))))))) (.both 11 (.both 7 (.both 14 (.one 18 (.one 19 (.take [20,21] true (.done)))) (.one 18 (.one 14 (.one 19 (.take [20,21] true (.done)))))) (.both 14 (.both 7 (.one 18 (.one 19 (.take [20,21] true (.done)))) (.one 18 (.one 7 (.one 19 (.take [20,21] true (.done)))))) (.one 18 (.both 7 (.one 14 (.one 19 (.take [20,21] true (.done)))) (.one 14 (.one 7 (.one 19 (.take [20,21] true (.done))))))))) (.one 18 (.both 7 (.one 11 (.one 14 (.one 19 (.take [20,21] true (.done))))) (.one 11 (.both 7 (.one 14 (.one 19 (.take [20,21] true (.done)))) (.one 14 (.one 7 (.one 19 (.take [20,21] true (.done))))))))))) (.one 18 (.both 7 (.both 11 (.one 13 (.one 14 (.one 19 (.take [20,21] true (.done))))) (.one 13 (.one 11 (.one 14 (.one 19 (.take [20,21] true (.done))))))) (.both 11 (.both 7 (.one 13 (.one 14 (.one 19 (.take [20,21] true (.done))))) (.one 13 (.both 7 (.one 14 (.one 19 (.take [20,21] true (.done)))) (.one 14 (.one 7 (.one 19 (.take [20,21] true (.done)))))))) (.one 13 (.both 7 (.one 11 (.one 14 (.one 19 (.take [20,21] true (.done))))) (.one 11 (.both 7 (.one 14 (.one 19 (.take [20,21] true (.done)))) (.one 14 (.one 7 (.one 19 (.take [20,21] true (.done))))))))))))))))))⟩]
abbrev Vv:acO:=[⟨1,.take [0,1,2,3,4,5] true (.one 6 (.done))⟩]
abbrev Vw:acO:=[⟨3,.take [0,1,2,3] false (.one 4 (.one 5 (.take [6,7,8,9,10] true (.done))))⟩,⟨6,.take [0,1,2,3,4,5] true (.one 6 (.done))⟩]
abbrev Vx:acO:=[⟨1,.take [0,1,2,3,4,5,6,7,8,9,10,11,12,13,14,15,16,17] false (.one 18 (.take [19] true (.done)))⟩]
abbrev Vy:acO:=[⟨0,.take [0,1,2,3] false (.one 4 (.one 5 (.done)))⟩]
abbrev Vz:acO:=[⟨4,.take [0,1,2,3,4,5,6,7,9,10,11,12] false (.both 8 (.one 13 (.one 14 (.take [15,16] true (.done)))) (.one 13 (.one 8 (.one 14 (.take [15,16] true (.done))))))⟩,⟨6,.take [0,1,2,3,4,5,6,7,8,10,11,12,14,16] false (.take [9,13] true (.one 15 (.one 17 (.done))))⟩]
abbrev VA:acO:=[⟨4,.take [0,1,2,3,4,5,6,7,8,9,10,11,12,13,14,15,16,17,18,19,20] true (.done)⟩]
abbrev VB:acO:=[⟨8,.take [0,1,2,3,4,5,6,7,8,9,10,11,12,13,14] true (.done)⟩,⟨11,.take [0,1,3,4,5,6,7,8,10] false (.one 2 (.take [9,11] false (.one 12 (.one 13 (.take [14] true (.done))))))⟩,⟨17,.take [0,1,2,3] false (.one 4 (.one 5 (.take [6] true (.done))))⟩]
abbrev VC:acO:=[⟨4,.take [0,1,2,3,4,5,6,7,8,9,10,11,12,13,14,15,16,17,18,19,20,21,22] false (.both 23 (.one 24 (.one 25 (.one 26 (.done)))) (.one 24 (.one 23 (.one 25 (.one 26 (.done))))))⟩,⟨5,.take [0,1,2,3,4,5,6,7,8,9,10,11,12,13,14,15,16,17,18,19,20,21,22,23,24,26,27] false (.one 25 (.one 28 (.one 29 (.take [30,31,32] true (.done)))))⟩]
attribute [simp] OU
abbrev int(n:Int):AV:=.lit (.int .i64 n)
abbrev u8(n:Int):AV:=.lit (.int .u8 n)
abbrev bool(b:Bool):AV:=.lit (.bool b)
abbrev ints(l:acX):AV:=.sl 1 (l.map int) .any
abbrev rows(l:acD):AV:=.sl 1 (l.map ints) .any
structure yn where
 hour:Int
 place:Int
 cU:Int
 marks:acX
 bu:Int
 jJ:Int
 deriving DecidableEq
structure Fr where
 aD:List yn
 roads:acD
 aU:Int
 eT:Int
 cP:Int
 aR:Int
 deriving DecidableEq
abbrev bx(e:yn):AV:=.agg [int e.hour,int e.place,int e.cU,ints e.marks,int e.bu,int e.jJ]
abbrev jC(l:List yn):AV:=.sl 6 (l.map bx) .any
abbrev DX(f:Fr):ade:=[jC f.aD,rows f.roads,int f.aU,int f.eT,int f.cP,int f.aR]
abbrev cy(f:Fr):AV:=.agg (DX f)
abbrev kQ(b mb:Nat)(f:Fr)(o:Nat):AV:=.kp b [jC f.aD,rows f.roads,int f.aU,int f.eT,int f.cP,int f.aR,.lit (.int .i32 0),.lit (.int .u32 0),.map mb] [6,7] o
def bz(a lo hi:Int):Bool:=decide (lo<=a) && decide (a<=hi)
def rK:Option Int->Int->Bool
 |some q,h=>decide (h<=q)
 |none,_=>false
def tD:Option Int->acX->Int
 |_,[]=>0
 |p,h::l=>if bz h 0 4=false then 3 else if rK p h=true then 5 else tD (some h) l
def cL(places:Int)(e:yn):Int:=
 if bz e.hour 0 72=false then 1 else if bz e.place 0 (places-1)=false then 3 else if bz e.cU 0 5=false then 1 else if tD none e.marks≠0 then tD none e.marks
 else if bz e.bu 0 30=false then 1 else if bz e.jJ 0 2=false then 8 else 0
def fU(f:yn->Int):List yn->Int
 |[]=>0
 |d::l=>if f d=0 then fU f l else f d
theorem PX(l:acX)  i   h   p :tD p (l.drop i)=if bz l[i] 0 4=false then 3 else if rK p l[i]=true then 5 else tD (some l[i]) (l.drop (i+1)):=by rw[aaM h,tD]
theorem DY  f  (l:List yn)  i   h :fU f (l.drop i)=if f l[i]=0 then fU f (l.drop (i+1))else f l[i]:=by rw[aaM h,fU]
theorem B2{α:Type}{l a:List α}{k}  g  (g':k<a.length) (h:l.take k=a.take k) (e:l[k]=a[k]):l.take (k+1)=a.take (k+1):=by rw[zG g,zG g',h,e]
def rd(r:acD)(i j:Nat):Int:=(r.getD i []).getD j 0
def dQ(r:acD)(i j:Nat):Bool:=rd r i i !=0||rd r i j !=rd r j i||(List.range r.length).any λk=>decide (rd r i j>rd r i k+rd r k j)
def lY(n:Nat)(l:acX):Int:=if l.length≠n then 9 else if l.all (bz · 0 9)then 0 else 1
def gZ(n:Nat):acD->Int
 |[]=>0
 |l::r=>if lY n l=0 then gZ n r else lY n l
def fV(r:acD):Int:=
 if r.length<1 then 7 else if 3<r.length then 6 else if gZ r.length r≠0 then gZ r.length r
 else if(List.range r.length).any (λi=>(List.range r.length).any λj=>dQ r i j)then 9 else 0
def check(f:Fr):Int:=
 if fV f.roads≠0 then fV f.roads else if(bz f.aU 0 3 && bz f.eT 0 3)=false then 1 else if f.eT<f.aU then 5
 else if(bz f.cP 1 6 && bz f.aR 1 6)=false then 1 else if(6:Int)<f.aD.length then 6 else fU (cL f.roads.length) f.aD
theorem F6  n  (l:acD)  i   h :gZ n (l.drop i)=if lY n l[i]=0 then gZ n (l.drop (i+1))else lY n l[i]:=by rw[aaM h,gZ]
structure Fr.Fits(f:Fr):Prop where
 aD:f.aD.length<1152921504606846976
 roads:f.roads.length<1152921504606846976
 row:∀r∈f.roads,r.length<1152921504606846976
 marks:∀e∈f.aD,e.marks.length<1152921504606846976
def iA(i:Int):acX->Int->Int
 |[],_=>-1
 |x::l,v=>if x=v then i else iA (i+1) l v
def lZ(l:acX)(v:Int):Int:=iA 0 l v
theorem Au(l:acX)  v   i   h   c :iA c (l.drop i) v=if l[i]=v then c else iA (c+1) (l.drop (i+1)) v:=by rw[aaM h,iA]
theorem yo  v :∀  l   i ,0<=i->(0<=iA i l v↔v∈l)
 |[],i,h=>by simp[iA]
 | x::l,i,h=>by
   unfold iA;split
   . simp_all
   . next e=>rw[yo v l (i+1) (by omega)];grind
theorem kq  l   v :0<=lZ l v↔v∈l:=yo v l 0 (abq _)
def je(f:Fr)(e:yn):acX:=if e.jJ≠0 then(List.range (f.eT-f.aU+1).toNat).map λi:Nat=>e.bu-f.eT+(i:Int)else[]
def bW(f:Fr)(e:yn):acX:=if e.jJ≠1/\e.bu∉je f e then je f e++[e.bu]else je f e
def iK(first:acX)(others:acD):acX:=first.filter λx=>others.all λl=>decide (x∈l)
def aS(f:Fr)(i:Int):yn:=f.aD.getD i.toNat ⟨0,0,0,[],0,0⟩
def gg(f:Fr)(l:acX):acX:=match l.map λi=>bW f (aS f i)with|[]=>[]|a::r=>iK a r
def iQ(f:Fr):Option Int->acX->Int
 |_,[]=>0
 |p,n::l=>if bz n 0 (f.aD.length-1)=false then 3 else if rK p n=true then 5 else iQ f (some n) l
def uU(f:Fr)(l:acX):Int:=if l.length=0 then 7 else iQ f none l
theorem F7  f  (l:acX)  i   h   p :iQ f p (l.drop i)=if bz l[i] 0 (f.aD.length-1)=false then 3 else if rK p l[i]=true then 5 else iQ f (some l[i]) (l.drop (i+1)):=by rw[aaM h,iQ]
abbrev Xp(n:Int):AV:=if n=0 then .lit .nilIface else .lE 255 (.agg [int n])
def VD(a b:Int):Int:=IntKind.u8.wrap (((BitVec.ofInt 8 a|||BitVec.ofInt 8 b).toNat:Nat):Int)
def DZ(a b:Int):Int:=IntKind.u8.wrap (((BitVec.ofInt 8 a &&& BitVec.ofInt 8 b).toNat:Nat):Int)
def yp(a b:Int):Int:=IntKind.u8.wrap (((BitVec.ofInt 8 a ^^^ BitVec.ofInt 8 b).toNat:Nat):Int)
def Q8(a b:Int):Int:=IntKind.u8.wrap (a-b)
theorem tE  a b :pz .or .u8 a b=some (.int .u8 (VD a b)):=rfl
theorem uV  a b :pz .and .u8 a b=some (.int .u8 (DZ a b)):=rfl
theorem I8  a b :pz .xor .u8 a b=some (.int .u8 (yp a b)):=rfl
theorem I9  a b :pz .sub .u8 a b=some (.int .u8 (Q8 a b)):=rfl
def bV(m n:Int):Int:=VD m (IntKind.u8.wrap (2 ^ min n.toNat IntKind.u8.bits))
def fM(m n:Int):Bool:=DZ (m.fdiv (2 ^ min n.toNat IntKind.u8.bits)) 1==1
def aB(m:Int):acX:=((List.range 6).map λn:Nat=>(n:Int)).filter λn=>fM m n
def aT(l:acX):Int:=l.foldl bV 0
end
section
open Go.cE Go.Conc
variable{m:Mo}{σ:af}{KF:acJ}
theorem dW{a lo hi}(h:KF (.val (bool (bz a lo hi))) σ):aA prog m 117 [int a,int lo,int hi] σ KF:=by
 unfold bz at h;refine fs [] Tryz.func117 rfl (by kernel_rfl) ?_;simp[Tryz.f117];refine uh.intro (λb=>?_) (λb=>?_)<;>simp[b]
 . exact .done (by simp_all)
 . exact .done (by simp_all)
theorem D5{l v}(j:l.length<1152921504606846976)(h:KF (.val (int (lZ l v))) σ):aA prog m 57 [ints l,int v] σ KF:=by
 refine fs [] Tryz.func57 rfl (by kernel_rfl) ?_;simp[Tryz.f57];refine aa.loop l.length (λk s=>∃env,s=⟨env,σ,[],.no⟩/\env 0=ints l/\env 1=int v/\env 7=int l.length/\env 8=int k/\iA 0 l v=iA k (l.drop k) v) ⟨_,rfl,by simp⟩ ?_;rintro n k _ o ⟨env,rfl,e,f,g,d,a⟩ i;apply rn;simp[g,d];apply aH.intro<;>intro c<;>simp at c<;>simp[e,f,d,c]
 . rw[Au l v k c]at a
   refine aH.intro (λb=>?_) (λb=>?_)<;>(try simp at b)<;>(try simp[b]at a)<;>(try simp[d,b])<;>(try exact .done a)
   . subst b
     unfold lZ at h;rw[a]at h;exact .done h
   . refine⟨by omega,i _ c ⟨_,rfl,?_,?_,?_,?_,by grind⟩⟩<;>simp[e,f,g]
 . have:k=l.length:=by omega
   subst this;unfold lZ at h;rw[a]at h;simp[iA]at h;exact .done h
theorem kr{l v}(a:l.length<1152921504606846976)(h:KF (.val (bool (decide (v∈l)))) σ):aA prog m 55 [ints l,int v] σ KF:=by
 refine fs [] Tryz.func55 rfl (by kernel_rfl) ?_;simp[Tryz.f55];refine cf Tryz.func57 rfl (D5 a ?_);apply rn;simp;rw[<-decide_eq_decide.2 (kq l v)]at h;exact .done h
theorem qh{l v}(i:l.length<1152921504606846976)(h:KF (.val (int (lZ l v))) σ):aA prog m 21 [ints l,int v] σ KF:=by
 refine fs [] Tryz.func21 rfl (by kernel_rfl) ?_;simp[Tryz.f21];refine aa.loop l.length (λk s=>∃env,s=⟨env,σ,[],.no⟩/\env 0=ints l/\env 1=int v/\env 5=int k/\iA 0 l v=iA k (l.drop k) v) ⟨_,rfl,by simp⟩ ?_;rintro j k _ n ⟨env,rfl,d,f,e,a⟩ g;apply rn;simp[d,e];apply aH.intro<;>intro c<;>simp at c<;>simp[d,f,e,c]
 . rw[Au l v k c]at a
   refine aH.intro (λb=>?_) (λb=>?_)<;>(try simp at b)<;>(try simp[b]at a)<;>(try simp[e,b])<;>(try exact .done a)
   . subst b
     unfold lZ at h;rw[a]at h;exact .done h
   . refine⟨by omega,g _ c ⟨_,rfl,?_,?_,?_,by grind⟩⟩<;>simp[d,f]
 . have:k=l.length:=by omega
   subst this;unfold lZ at h;rw[a]at h;simp[iA]at h;exact .done h
theorem vL{a b}(r:a.length<1152921504606846976)(hb:b.length<1152921504606846976)(h:KF (.val (bool (decide (a=b)))) σ):aA prog m 18 [ints a,ints b] σ KF:=by
 refine fs Xg Tryz.func18 rfl (by kernel_rfl) ?_;simp[Tryz.f18];refine aa.loop a.length (λk s=>∃env,s=⟨env,σ,[],.no⟩/\env 0=ints a/\env 1=ints b/\env 5=int k/\k<=b.length/\a.take k=b.take k) ⟨_,rfl,by simp⟩ ?_;rintro t k _ u ⟨env,rfl,d,i,f,o,n⟩ p;apply rn;simp[d,f];refine uh.intro (λc=>?_) (λc=>?_)<;>(try simp[-Nat.not_lt,-Nat.not_le]at c)<;>(try simp[d,i,f,c])
 . refine aH.intro (λg=>?_) (λg=>?_)<;>(try simp[-Nat.not_lt,-Nat.not_le]at g)<;>(try simp[d,i,f,g,c])
   . apply rn
     simp;apply aH.intro<;>intro j<;>simp at j<;>simp[f,j]
     . have:a≠b:=λe=>by simp_all
       simp[this]at h;exact .done h
     . refine⟨by omega,p _ c ⟨_,rfl,?_,?_,?_,by omega,B2 c g n j⟩⟩<;>simp[d,i]
   . have:a≠b:=λe=>by simp_all
     have l:((a.length:Int)==b.length)=false:=by grind
     rw[l];exact .done (by simp_all)
 . have:k=a.length:=by omega
   subst this;rw[aav]at n;by_cases e:a.length=b.length
   . have:a=b:=by grind
     exact .done (by grind)
   . have:a≠b:=λq=>e (by rw[q])
     have l:((a.length:Int)==b.length)=false:=by grind
     rw[l];exact .done (by grind)
theorem D9{n}(h:KF (.val (bool false)) σ):aA prog m 187 [int n] σ KF:=by
 refine fs [] Tryz.func187 rfl (by kernel_rfl) ?_;simp[Tryz.f187];exact .done h
def B3(x y:Int):Int:=if x<y then -1 else if y<x then 1 else 0
theorem F8{x y}(h:KF (.val (int (B3 x y))) σ):aA prog m 167 [int x,int y] σ KF:=by
 unfold B3 at h;refine fs [] Tryz.func167 rfl (by kernel_rfl) ?_;simp[Tryz.f167];refine cf Tryz.func187 rfl (D9 ?_);apply rn;simp;refine cf Tryz.func187 rfl (D9 ?_);apply rn;simp;refine aH.intro (λa=>?_) (λa=>?_)<;>(try simp[-Int.not_lt,-Int.not_le]at a)<;>(try simp[a]at h)<;>(try simp[a])<;>(try exact .done h);refine aH.intro (λb=>?_) (λb=>?_)<;>(try simp[-Int.not_lt,-Int.not_le]at b)<;>(try simp[b]at h)<;>(try simp[b])<;>(try exact .done h)
theorem zx{e places}(w:0<=places/\places<1152921504606846976)(x:e.marks.length<1152921504606846976)(h:KF (.val (int (cL places e))) σ):aA prog m 154 [bx e,int places] σ KF:=by
 unfold cL at h;refine fs [] Tryz.func154 rfl (by kernel_rfl) ?_;simp[Tryz.f154];refine cf Tryz.func117 rfl (dW ?_);apply rn;simp;refine aH.intro (λi=>?_) (λi=>?_)<;>(try simp at i)<;>(try simp[i]at h)<;>(try simp[i])<;>(try exact .done h);refine⟨by omega,?_⟩;refine cf Tryz.func117 rfl (dW ?_);apply rn;simp;refine aH.intro (λj=>?_) (λj=>?_)<;>(try simp at j)<;>(try simp[j]at h)<;>(try simp[j])<;>(try exact .done h);refine cf Tryz.func117 rfl (dW ?_);apply rn;simp;refine aH.intro (λl=>?_) (λl=>?_)<;>(try simp at l)<;>(try simp[l]at h)<;>(try simp[l])<;>(try exact .done h);refine aa.loop e.marks.length (λk s=>∃env,s=⟨env,σ,[],.no⟩/\env 2=.cp (bx e) 0/\env 22=ints e.marks/\env 23=int e.marks.length/\env 24=int k/\tD none e.marks=tD (if k=0 then none else e.marks[k-1]?) (e.marks.drop k)) ⟨_,rfl,by simp⟩ ?_
 rintro y k _ z ⟨env,rfl,n,f,g,b,a⟩ r;apply rn;simp[g,b];apply aH.intro<;>intro o<;>simp at o<;>simp[n,f,b,o]
 . rw [PX _ k o]at a
   refine cf Tryz.func117 rfl (dW ?_);apply rn;simp;refine aH.intro (λc=>?_) (λc=>?_)<;>(try simp at c)<;>(try simp[c]at a)<;>(try simp[c])<;>(try exact .done a)
   . refine uh.intro (λd=>?_) (λd=>?_)<;>(try simp at d)<;>(try simp[d]at a)<;>(try simp[n,b,d])<;>(try exact .done a)
     . have t:(k:Int)-1=((k-1:Nat):Int):=by omega
       have q:k-1<e.marks.length:=by omega
       have u:¬k=0:=by omega
       simp[t,q];repeat refine⟨by omega,?_⟩
       try simp[q,u,rK]at a
       refine aH.intro (λp=>?_) (λp=>?_)<;>(try simp at p)<;>(try simp[p]at a)<;>(try simp[b,p])<;>(try exact .done a)
       . simp[a]at h
         exact .done h
       . refine⟨by omega,r _ o ⟨_,rfl,by simp[n],by simp[f],by simp[g],by simp,?_⟩⟩
         grind
     . have v:k=0:=by omega
       subst v;simp[rK]at a
       simp_all
   . simp[a]at h
     exact .done h
 . have:k=e.marks.length:=by omega
   subst this;simp[tD]at a;simp[a]at h;refine cf Tryz.func117 rfl (dW ?_);apply rn;simp;refine aH.intro (λc=>?_) (λc=>?_)<;>(try simp at c)<;>(try simp[c]at h)<;>(try simp[n,c])<;>(try exact .done h);refine cf Tryz.func117 rfl (dW ?_);apply rn;simp;refine aH.intro (λd=>?_) (λd=>?_)<;>(try simp at d)<;>(try simp[d]at h)<;>(try simp[d])<;>(try exact .done h)
theorem kY{n}:∀{r},gZ n r=0->∀l∈r,l.length=n/\∀x∈l,bz x 0 9=true
 |[],_,l,b=>by simp at b
 | a :: r,h,l,b=>by
   unfold gZ at h;split at h
   . next c=>
     rcases aaD.1 b with rfl|b
     . unfold lY at c
       grind
     . exact kY h l b
   omega
theorem nP{r i j}  hi  (hj:j<r[i].length):rd r i j=r[i][j]:=by simp[rd,zs,hi,hj]
theorem dE{a lo hi}(h:bz a lo hi=true):lo<=a/\a<=hi:=by simpa[bz]using h
theorem zy{r}(hr:r.length<1152921504606846976)(hl:∀l∈r,l.length<1152921504606846976)(h:KF (.val (int (fV r))) σ):aA prog m 153 [rows r] σ KF:=by
 unfold fV at h;refine fs Vt Tryz.func153 rfl (by kernel_rfl) ?_
 simp[Tryz.f153];refine aH.intro (λV=>?_) (λV=>?_)<;>simp at V<;>simp[V]
 . rw[aal (show r.length<1 by omega)]at h
   exact .done h
 refine aH.intro (λW=>?_) (λW=>?_)<;>simp at W<;>simp[W]
 . have X:¬r.length<1:=by omega
   have P:3<r.length:=by omega
   rw[aaj (show ¬r.length<1 by omega),aal P]at h
   exact .done h
 have X:¬r.length<1:=by omega
 have P:¬3<r.length:=by omega
 rw[aaj X,aaj P]at h;refine aa.loop r.length (λk s=>∃env,s=⟨env,σ,[],.no⟩/\env 0=rows r/\env 19=rows r/\env 20=int r.length/\env 21=int k/\gZ r.length r=gZ r.length (r.drop k)) ⟨_,rfl,by simp⟩ ?_
 rintro c0 k _ hk ⟨env,rfl,a,n,o,g,v⟩ Q
 apply rn;simp[o,g];apply aH.intro<;>intro H<;>simp at H<;>simp[a,n,g,H]
 . rw [F6 _ _ k H]at v
   obtain⟨l,I⟩:∃l,l=r[k]:=⟨_,rfl⟩;simp only[<-I]at v ⊢;have al:l.length<1152921504606846976:=hl l (by rw[I];exact zD H)
   refine aH.intro (λb=>?_) (λb=>?_)<;>simp at b<;>simp[b]
   . have w:l.length≠r.length:=λe=>b (by rw[e])
     simp[lY,w]at v;simp[v]at h;exact .done h
   have w:l.length=r.length:=by omega
   refine aa.loop l.length (λj s=>∃env,s=⟨env,σ,[],.no⟩/\env 0=rows r/\env 19=rows r/\env 20=int r.length/\env 21=int k/\env 30=ints l/\env 31=int l.length/\env 32=int j/\(l.take j).all (bz · 0 9)=true) ⟨_,rfl,by simp[a,n,o,g,w]⟩ ?_
   clear a n o g
   rintro c1 j _ R ⟨env,rfl,a,n,o,g,J,K,B,x⟩ C
   apply rn;simp[K,B];apply aH.intro<;>intro p<;>simp at p<;>simp[g,J,B,p]
   . refine cf Tryz.func117 rfl (dW ?_)
     apply rn;simp;refine aH.intro (λu=>?_) (λu=>?_)<;>(try simp at u)<;>(try simp[B,u])
     . refine⟨by omega,C _ p ⟨_,rfl,by simp[a],by simp[n],by simp[o],by simp[g],by simp[J],by simp[K],by simp,?_⟩⟩
       rw[zG p,List.all_append,x];simp[u]
     . have:l.all (bz · 0 9)=false:=by
        rw[List.all_eq_false];exact⟨_,zD p,by simp[u]⟩
       simp[lY,w,this]at v;simp[v]at h;exact .done h
   . have:j=l.length:=by omega
     subst this;rw[aav]at x;have Y:lY r.length l=0:=by unfold lY;rw[aaj (by simp[w]),aal x]
     rw[aal Y]at v;refine⟨by omega,Q _ H ⟨_,rfl,?_,?_,?_,?_,v⟩⟩<;>simp[a,n,o]
 have:k=r.length:=by omega
 subst this;simp[gZ]at v;rw[aaj (by omega)]at h
 clear Q;have ad:∀(i:Nat) (F:i<r.length),r[i].length=r.length:=λi F=>(kY v _ (zD F)).1
 have L:∀(i:Nat) (F:i<r.length) (j:Nat) (R:j<r[i].length),0<=r[i][j]/\r[i][j]<=9:=λi F j R=>dE ((kY v _ (zD F)).2 _ (zD R))
 refine aa.loop r.length (λi s=>∃env,s=⟨env,σ,[],.no⟩/\env 0=rows r/\env 41=rows r/\env 42=int r.length/\env 43=int i/\∀i'<i,∀j<r.length,dQ r i' j=false) ⟨_,rfl,by simp[a]⟩ ?_
 clear a n o g
 rintro c1 i _ F ⟨env,rfl,a,f,d,c,Z⟩ Q
 apply rn;simp[d,c];apply aH.intro<;>intro b<;>simp at b<;>simp[a,c,b]
 . refine aa.loop r.length (λj s=>∃env,s=⟨env,σ,[],.no⟩/\env 0=rows r/\env 41=rows r/\env 42=int r.length/\env 43=int i/\env 8=int i/\env 46=rows r/\env 47=int r.length/\env 48=int j/\∀D<j,dQ r i D=false) ⟨_,rfl,by simp[a,f,d,c]⟩ ?_
   clear a f d c
   rintro c2 j _ R ⟨env,rfl,a,f,d,c,z,y,t,q,av⟩ C
   apply rn;simp[t,q];apply aH.intro<;>intro p<;>simp at p<;>simp[a,c,z,q,p]
   . have q1 : i<r[i].length:=by grind
     have G:j<r[i].length:=by grind
     have q3:i<r[j].length:=by grind
     simp[z,b,q1];refine OJ.intro (λu=>?_) (λu=>?_)<;>(try simp at u)<;>(try simp[a,z,u,b,p,G,q3])
     . apply rn
       simp;apply aH.intro<;>intro S<;>simp at S<;>simp[a,S]
       ·
        have hb:dQ r i j=true:=by unfold dQ;rw[nP b G,nP p q3];simp[S]
        have:((List.range r.length).any λi=>(List.range r.length).any λj=>dQ r i j)=true:=aaN.2 ⟨i,aai.2 b,aaN.2 ⟨j,aai.2 p,hb⟩⟩
        rw[aal this]at h;exact .done h
       . refine aa.loop r.length (λk s=>∃env,s=⟨env,σ,[],.no⟩/\env 0=rows r/\env 41=rows r/\env 42=int r.length/\env 43=int i/\env 8=int i/\env 46=rows r/\env 47=int r.length/\env 48=int j/\env 9=int j/\env 76=rows r/\env 77=int r.length/\env 78=int k/\∀M<k,¬rd r i j>rd r i M+rd r M j) ⟨_,rfl,by simp[a,f,d,c,z,y,t,q]⟩ ?_
         clear a f d c z y t q
         rintro c3 k _ hk ⟨env,rfl,a,f,d,c,z,y,t,q,h9,a7,N,E,a8⟩ a9
         apply rn;simp[N,E];apply aH.intro<;>intro A<;>simp at A<;>simp[a,z,q,E,A]
         . have T:k<r[i].length:=by grind
           have U:j<r[k].length:=by grind
           have b1:=L i b k T;have b2:=L k A j U;have f1:-9223372036854775808<=r[i][k]+r[k][j]:=by omega
           have f2:r[i][k]+r[k][j]<=9223372036854775807:=by omega
           simp[a,z,h9,b,A,G,T,U,f1,f2];apply rn;simp;apply aH.intro<;>intro O<;>simp at O<;>simp[E,O]
           . have hb:dQ r i j=true:=by
              unfold dQ;have:((List.range r.length).any λk=>decide (rd r i j>rd r i k+rd r k j))=true:=aaN.2 ⟨k,aai.2 A,by rw[nP b G,nP b T,nP A U];grind⟩
              grind
             have:((List.range r.length).any λi=>(List.range r.length).any λj=>dQ r i j)=true:=aaN.2 ⟨i,aai.2 b,aaN.2 ⟨j,aai.2 p,hb⟩⟩
             rw[aal this]at h;exact .done h
           . refine⟨by omega,a9 _ A ⟨_,rfl,by simp[a],by simp[f],by simp[d],by simp[c],by simp[z],by simp[y],by simp[t],by simp[q],by simp[h9],by simp[a7],by simp[N],by simp,λM ax=>?_⟩⟩
             by_cases e:M=k
             . subst e
               rw[nP b G,nP b T,nP A U];omega
             . exact a8 M (by omega)
         . have:k=r.length:=by omega
           subst this;refine⟨by omega,C _ p ⟨_,rfl,by simp[a],by simp[f],by simp[d],by simp[c],by simp[z],by simp[y],by simp[t],by simp,λD ab=>?_⟩⟩
           by_cases e:D=j
           . subst e
             unfold dQ
             have X:((List.range r.length).any λk=>decide (rd r i D>rd r i k+rd r k D))=false:=by
              rw[abA]
              grind
             have P:rd r i i=0:=by rw[nP b q1];exact u
             have e3:rd r i D=rd r D i:=by rw[nP b G,nP p q3];exact S
             grind
           grind
     . have e:(r[i][i] !=0)=true:=by simp[u]
       simp[e];apply rn;simp
       have hb:dQ r i j=true:=by unfold dQ;rw[nP b q1];simp[u]
       have:((List.range r.length).any λi=>(List.range r.length).any λj=>dQ r i j)=true:=aaN.2 ⟨i,aai.2 b,aaN.2 ⟨j,aai.2 p,hb⟩⟩
       rw[aal this]at h;exact .done h
   . have:j=r.length:=by omega
     subst this;refine⟨by omega,Q _ b ⟨_,rfl,by simp[a],by simp[f],by simp[d],by simp,λi' ay j ab=>?_⟩⟩
     grind
 . have:i=r.length:=by omega
   subst this
   have:((List.range r.length).any λi=>(List.range r.length).any λj=>dQ r i j)=false:=by grind
   rw[this]at h;exact .done (by grind)
theorem Ea{f}(g:f.Fits)(h:KF (.val (int (check f))) σ):aA prog m 116 [cy f] σ KF:=by
 unfold check at h;have z:=g.roads;have x:=g.aD;refine fs [] Tryz.func116 rfl (by kernel_rfl) ?_;simp[Tryz.f116];refine cf Tryz.func153 rfl (zy g.roads g.row ?_);apply rn;simp;refine aH.intro (λn=>?_) (λn=>?_)<;>(try simp at n)<;>(try simp[n]at h)<;>(try simp[n])<;>(try exact .done h);refine cf Tryz.func117 rfl (dW ?_);apply rn;simp;refine uh.intro (λo=>?_) (λo=>?_)<;>(try simp at o)<;>(try simp[o]at h)<;>(try simp[o])<;>(try exact .done h);refine cf Tryz.func117 rfl (dW ?_);apply rn;simp;refine aH.intro (λp=>?_) (λp=>?_)<;>(try simp at p)<;>(try simp[p]at h)<;>(try simp[p])<;>(try exact .done h);refine aH.intro (λq=>?_) (λq=>?_)<;>(try simp[-Int.not_lt,-Int.not_le]at q)<;>(try simp[q]at h)<;>(try simp[q])<;>(try exact .done h)
 refine cf Tryz.func117 rfl (dW ?_);apply rn;simp;refine uh.intro (λr=>?_) (λr=>?_)<;>(try simp at r)<;>(try simp[r]at h)<;>(try simp[r])<;>(try exact .done h);refine cf Tryz.func117 rfl (dW ?_);apply rn;simp;refine aH.intro (λt=>?_) (λt=>?_)<;>(try simp at t)<;>(try simp[t]at h)<;>(try simp[t])<;>(try exact .done h);refine aH.intro (λu=>?_) (λu=>?_)<;>(try simp[-Int.not_lt,-Int.not_le]at u)<;>(try simp[u]at h)<;>(try simp[u])<;>(try exact .done h);refine aa.loop f.aD.length (λk s=>∃env a,s=⟨env,a,[],.no⟩/\σ.Le a/\env 1=.cp (cy f) 0/\env 47=jC f.aD/\env 48=int f.aD.length/\env 49=int k/\fU (cL f.roads.length) f.aD=fU (cL f.roads.length) (f.aD.drop k)) ⟨_,_,rfl,af.le_refl _,by simp⟩ ?_;rintro A k _ B ⟨env,a,rfl,c,w,i,j,d,e⟩ y;apply rn;simp[j,d];apply aH.intro<;>intro l<;>simp at l<;>simp[i,d,l]
 . rw[DY _ _ k l]at e
   refine bM.intro λb hb=>?_
   simp[w];refine cf Tryz.func154 rfl (zx ⟨by omega,by omega⟩ (g.marks _ (zD l)) ?_);apply rn;simp;refine aH.intro (λv=>?_) (λv=>?_)<;>(try simp at v)<;>(try simp[v]at e)<;>(try simp[d,v])<;>(try exact .done e)
   . rw[e]at h
     exact .less (af.pS c hb) (.done h)
   . refine⟨by omega,y _ l ⟨_,_,rfl,af.pS c hb,?_,?_,?_,?_,e⟩⟩<;>simp[w,i,j]
 . have:k=f.aD.length:=by omega
   subst this;simp[fU]at e;rw[e]at h;exact .less c (.done h)
structure tF(σ:af)  b mb   σ' :Prop where
 hb:σ b=none
 Cy:σ mb=none
 ne:b≠mb
 eq:σ'=(σ.set mb (mapA .u8 [])).set b (.part (bH 6))
def Mp(f:Fr)(σ:af):acJ:=λr a=>∃b mb,r=.val (.ref b 0)/\σ b=none/\σ mb=none/\b≠mb/\a=(σ.set mb (mapA .u8 [])).set b (.cells [jC f.aD,rows f.roads,int f.aU,int f.eT,int f.cP,int f.aR,.lit (.int .i32 0),.lit (.int .u32 0),.map mb])
theorem F9{f}(h:∀b mb σ',tF σ b mb σ'->KF (.val (kQ b mb f 0)) σ'):aA prog m 118 [cy f] σ KF:=by
 refine aA.share (KF0:=Mp f σ) ?_ ?_
 . refine aA.start lay [6] [] 1 Tryz.func118 rfl rfl (by rfl) (by kernel_rfl) ?_
   simp[Tryz.f118];refine vw (Io .u8) rfl λmb Cy=>?_
   refine aa.run lay [6] ?_;simp[aK];refine bM.intro λb hb=>?_
   obtain⟨d,e,hb⟩:=af.aP hb;simp;exact .done ⟨b,mb,rfl,hb,Cy,d,rfl⟩
 . rintro r σ' ⟨b,mb,rfl,hb,Cy,a,rfl⟩
   refine .inr ⟨b,_,[6,7],bH 6,rfl,af.aj _ _ _,λi v c=>?_,λi=>?_,?_⟩
   . unfold bH at c
     split at c
     . simp_all
     simp_all
   . unfold bH
     grind
   . exact h b mb _ ⟨hb,Cy,a,by simp⟩
def hQ(f:Fr)(l:acX):Int:=if check f≠0 then check f else if l.all (bz · 0 (f.aD.length-1))then 0 else 3
theorem B4{f l}(o:f.Fits)(v:l.length<1152921504606846976)(h:hQ f l≠0->KF (.val (.cq [.lit (.pointer none),int (hQ f l)])) σ)
 (q:hQ f l=0->∀b mb σ',tF σ b mb σ'->KF (.val (.cq [kQ b mb f 0,int 0])) σ'):aA prog m 82 [cy f,ints l] σ KF:=by
 have r:=o.aD;refine fs [] Tryz.func82 rfl (by kernel_rfl) ?_
 simp[Tryz.f82];refine cf Tryz.func116 rfl (Ea o ?_);apply rn;simp;refine aH.intro (λi=>?_) (λi=>?_)<;>simp at i<;>simp[i]
 . have:hQ f l=check f:=by unfold hQ;omega
   rw[this]at h;exact .done (h i)
 refine aa.loop l.length (λk s=>∃env,s=⟨env,σ,[],.no⟩/\env 2=.cp (cy f) 0/\env 14=ints l/\env 15=int l.length/\env 16=int k/\(l.take k).all (bz · 0 (f.aD.length-1))=true) ⟨_,rfl,by simp⟩ ?_
 rintro w k _ x ⟨env,rfl,p,d,g,c,a⟩ t
 apply rn;simp[g,c];apply aH.intro<;>intro j<;>simp at j<;>simp[p,d,c,j]
 . refine⟨by omega,?_⟩
   refine cf Tryz.func117 rfl (dW ?_);apply rn;simp;refine aH.intro (λn=>?_) (λn=>?_)<;>(try simp at n)<;>(try simp[c,n])
   . refine⟨by omega,t _ j ⟨_,rfl,by simp[p],by simp[d],by simp[g],by simp,?_⟩⟩
     rw[zG j,List.all_append,a];simp[n]
   . have e:l.all (bz · 0 (f.aD.length-1))=false:=by
      grind
     have:hQ f l=3:=by unfold hQ;simp_all
     rw[this]at h;exact .done (h (by simp))
 . have:k=l.length:=by omega
   subst this;rw[aav]at a;have:hQ f l=0:=by unfold hQ;simp_all
   refine cf Tryz.func118 rfl (F9 λb mb σ' u=>?_)
   apply rn;simp;exact .done (q this b mb σ' u)
theorem PY{b mb f l}(t:f.Fits)(z:l.length<1152921504606846976)(h:KF (.val (Xp (uU f l))) σ):aA prog m 165 [kQ b mb f 0,ints l] σ KF:=by
 have u:=t.aD;unfold uU at h;refine fs [] Tryz.func165 rfl (by kernel_rfl) ?_;simp[Tryz.f165];refine aH.intro (λg=>?_) (λg=>?_)<;>simp at g<;>simp[g]
 . rw[aal (by simp[g])]at h
   exact .done h
 rw[aaj (by simp_all)]at h;refine aa.loop l.length (λk s=>∃env,s=⟨env,σ,[],.no⟩/\env 0=kQ b mb f 0/\env 1=ints l/\env 12=ints l/\env 13=int l.length/\env 14=int k/\iQ f none l=iQ f (if k=0 then none else l[k-1]?) (l.drop k)) ⟨_,rfl,by simp⟩ ?_;rintro A k _ B ⟨env,rfl,p,q,d,e,c,a⟩ v;apply rn;simp[e,c];apply aH.intro<;>intro i<;>simp at i<;>simp[p,d,c,i]
 . rw [F7 f _ k i]at a
   refine⟨by omega,?_⟩;refine cf Tryz.func117 rfl (dW ?_);apply rn;simp;refine aH.intro (λj=>?_) (λj=>?_)<;>(try simp at j)<;>(try simp[j]at a)<;>(try simp[j])<;>(try exact .done a)
   . refine uh.intro (λn=>?_) (λn=>?_)<;>(try simp at n)<;>(try simp[n]at a)<;>(try simp[q,c,n])<;>(try exact .done a)
     . have w:(k:Int)-1=((k-1:Nat):Int):=by omega
       have r:k-1<l.length:=by omega
       have x:¬k=0:=by omega
       simp[w,r];repeat refine⟨by omega,?_⟩
       try simp[r,x,rK]at a
       refine aH.intro (λo=>?_) (λo=>?_)<;>(try simp at o)<;>(try simp[o]at a)<;>(try simp[c,o])<;>(try exact .done a)
       . rw[a]at h
         exact .done h
       . refine⟨by omega,v _ i ⟨_,rfl,by simp[p],by simp[q],by simp[d],by simp[e],by simp,?_⟩⟩
         grind
     . have y:k=0:=by omega
       subst y;simp[rK]at a
       simp_all
   . rw[a]at h
     exact .done h
 . have:k=l.length:=by omega
   subst this;simp[iQ]at a;rw[a]at h;exact .done h
theorem Q9{a}(h:KF (.val (bool false)) σ):aA prog m 149 [.lit .nilIface,a] σ KF:=by
 refine fs [] Tryz.func149 rfl (by kernel_rfl) ?_;simp[Tryz.f149];refine dT lay rfl I7 rfl (.inl ⟨rfl,rfl⟩) (.inl ⟨rfl,rfl⟩) ?_;apply rn;simp;exact .done h
end
open Go.cE Go.Conc
set_option maxRecDepth 4000
variable{m:Mo}{σ:af}{KF:acJ}
theorem rL(first:acX)  others   k   h :iK (first.take (k+1)) others=iK (first.take k) others++if others.all (λl=>decide (first[k]∈l))then[first[k]]else[]:=by
 unfold iK;rw[zG h,abt]
 grind
theorem B5  first   others :(iK first others).length<=first.length:=aaU _ _
theorem I'{first others sp f}(B:first.length<=1000000000)(C:others.length<1152921504606846976)(u:∀l∈others,l.length<1152921504606846976)(h:KF (.val (ints (iK first others))) σ):aA prog m 244 [.sl 1 (first.map int) sp,.sl 1 (others.map ints) f] σ KF:=by
 refine fs [] Tryz.func244 rfl (by kernel_rfl) ?_;simp[Tryz.f244];refine aa.loop first.length (λk s=>∃env e,s=⟨env,e,[],.no⟩/\env 0=.sl 1 (first.map int) sp/\env 1=.sl 1 (others.map ints) f/\env 10=.sl 1 (first.map int) sp/\env 11=int first.length/\env 12=int k/\Tok σ e (env 5) 1 ((iK (first.take k) others).map int)) ⟨_,_,rfl,by simp,by simp,by simp,by simp,by simp,.nil σ 1⟩ ?_
 rintro D k _ E ⟨env,e,rfl,n,g,c,d,b,a⟩ x;apply rn;simp[d,b];have hlen:=B5 (first.take k) others;rw[abk]at hlen;apply aH.intro<;>intro o<;>simp at o<;>simp[g,c,b,o]
 . refine aa.loop others.length (λj s=>∃env,s=⟨env,e,[],.no⟩/\env 0=.sl 1 (first.map int) sp/\env 1=.sl 1 (others.map ints) f/\env 10=.sl 1 (first.map int) sp/\env 11=int first.length/\env 12=int k/\Tok σ e (env 5) 1 ((iK (first.take k) others).map int)/\env 7=int first[k]/\env 16=.sl 1 (others.map ints) f/\env 17=int others.length/\env 18=int j/\∀l∈others.take j,first[k]∈l) ⟨_,rfl,by simp[n,g,c,d,b,a]⟩ ?_
   clear n g c d b a;rintro F j _ G ⟨env,rfl,n,g,c,d,b,a,y,p,q,i,r⟩ v;apply rn;simp[q,i];apply aH.intro<;>intro t<;>simp at t<;>simp[y,p,i,t]
   . refine cf Tryz.func55 rfl (kr (u _ (zD t)) ?_)
     apply rn;simp;apply aH.intro<;>intro z<;>simp at z<;>simp[b,i,z]
     . refine⟨by omega,v _ t ⟨_,rfl,by simp[n],by simp[g],by simp[c],by simp[d],by simp[b],by simpa using a,by simp[y],by simp[p],by simp[q],by simp,λl u=>?_⟩⟩
       rw[zG t,aaq,lb]at u
       grind
     . refine⟨by omega,x _ o ⟨_,_,rfl,by simp[n],by simp[g],by simp[c],by simp[d],by simp,?_⟩⟩
       have:others.all (λl=>decide (first[k]∈l))=false:=by grind
       rw[rL _ _ _ o,this];simpa using a
   . have:j=others.length:=by omega
     subst this;rw[aav]at r;refine aN lay rfl rfl rfl dC rfl dC rfl rp (by decide) (by simp;omega) (σ0:=σ) (es:=(iK (first.take k) others).map int) (xs:=[int first[k]]) (by simpa using a) (.inr ⟨_,rfl⟩) λH A w=>?_
     apply rn;simp[b];refine⟨by omega,x _ o ⟨_,_,rfl,by simp[n],by simp[g],by simp[c],by simp[d],by simp,?_⟩⟩;have:others.all (λl=>decide (first[k]∈l))=true:=by grind
     rw[rL _ _ _ o,this];simpa using w
 . have:k=first.length:=by omega
   subst this;rw[aav]at a;exact .pD a.W (.less a.1 (.done h))
structure Fr.Good(f:Fr):Prop where
 fits:f.Fits
 fr:0<=f.aU/\f.aU<=3
 to:0<=f.eT/\f.eT<=3
 le:f.aU<=f.eT
 cP:1<=f.cP/\f.cP<=6
 aR:1<=f.aR/\f.aR<=6
 px:f.aD.length<=6
 tH:∀e∈f.aD,cL f.roads.length e=0
 Kv:fV f.roads=0
theorem rN  g :∀{l},fU g l=0->∀e∈l,g e=0
 |[],_,e,he=>by simp at he
 | a ::l,h,e,he=>by
   unfold fU at h;split at h
   . next b=>
     rcases aaD.1 he with rfl|he
     . exact b
     . exact rN g h e he
   omega
theorem Fr.nQ{f}(c:f.Fits)(h:check f=0):f.Good:=by
 unfold check at h;split at h
 . omega
 next d=>
 split at h
 . cases h
 next a=>
 split at h
 . cases h
 next e=>
 split at h
 . cases h
 next b=>
 split at h
 . cases h
 next g=>
 simp only[Bool.not_eq_false,zj]at a b;exact⟨c,dE a.1,dE a.2,by omega,dE b.1,dE b.2,by omega,rN _ h,by omega⟩
theorem nR{p e}(h:cL p e=0):(0<=e.hour/\e.hour<=72)/\(0<=e.place/\e.place<=p-1)/\(0<=e.cU/\e.cU<=5)/\(0<=e.bu/\e.bu<=30)/\(0<=e.jJ/\e.jJ<=2)/\tD none e.marks=0:=by
 unfold cL at h;split at h
 . cases h
 next a=>
 split at h
 . cases h
 next b=>
 split at h
 . cases h
 next c=>
 split at h
 . omega
 next g=>
 split at h
 . cases h
 next d=>
 split at h
 . cases h
 next f=>
 simp only[Bool.not_eq_false]at a b c d f;exact⟨dE a,dE b,dE c,dE d,dE f,by omega⟩
theorem Av{f}(a:f.Good)  e :(je f e).length<=4:=by
 unfold je;have:=a.fr;have:=a.to
 grind
theorem Aw{f}(a:f.Good)  e :(bW f e).length<=5:=by
 unfold bW;have:=Av a e
 grind
theorem Mq{f e}(h:e.jJ≠0):je f e=(List.range (f.eT-f.aU+1).toNat).map λi:Nat=>e.bu-f.eT+(i:Int):=aal h
theorem Ga{b mb f l}(H:f.Good)(Y:l≠[])(hl:l.length<=1000000)(hb:∀n∈l,0<=n/\n<f.aD.length)(h:KF (.val (ints (gg f l))) σ):aA prog m 243 [kQ b mb f 0,ints l] σ KF:=by
 have h6:=H.px;have ad:=H.fr;have al:=H.to;have av:=H.le;refine fs VB Tryz.func243 rfl (by kernel_rfl) ?_
 simp[Tryz.f243];refine aa.loop l.length (λk s=>∃env A,s=⟨env,A,[],.no⟩/\env 0=kQ b mb f 0/\env 11=ints l/\env 12=int l.length/\env 13=int k/\Tok σ A (env 5) 1 ((l.take k).map λn=>ints (bW f (aS f n)))) ⟨_,_,rfl,by simp,by simp,by simp,by simp,.nil σ 1⟩ ?_
 rintro c0 k _ hk ⟨env,A,rfl,C,p,g,o,d⟩ S
 rcases aaP k l.length with g1|g1
 . obtain ⟨L,n1⟩:=hb _ (zD g1)
   have n2:l[k].toNat<f.aD.length:=by omega
   obtain⟨e,he⟩:∃e,e=f.aD[l[k].toNat]:=⟨_,rfl⟩;have Z:aS f l[k]=e:=by simp[aS,zs,n2,he]
   have ax:=nR (H.tH e (by simp_all))
   have t:(l.take (k+1)).map (λn=>ints (bW f (aS f n)))=(l.take k).map (λn=>ints (bW f (aS f n)))++[ints (bW f e)]:=by rw[zG g1,aax];simp[Z]
   apply rn;simp[C,p,g,o,g1,L,n2,<-he];refine bM.intro λc hc=>?_
   simp
   have a7:σ c=none:=by
    cases q:σ c with
    |none=>rfl
    |some x=>rw[d.1 c x q]at hc;cases hc
   have B:Tok σ (A.set c (.cells [int e.hour,int e.place,int e.cU,ints e.marks,int e.bu,int e.jJ])) (env 5) 1 ((l.take k).map λn=>ints (bW f (aS f n))):=d.beside a7 (λq=>by obtain⟨_,x,hx⟩:=d.aY q;grind)
   have G:(A.set c (.cells [int e.hour,int e.place,int e.cU,ints e.marks,int e.bu,int e.jJ])) c=some (.cells [int e.hour,int e.place,int e.cU,ints e.marks,int e.bu,int e.jJ]):=af.aj _ _ _;generalize A.set c (.cells [int e.hour,int e.place,int e.cU,ints e.marks,int e.bu,int e.jJ])=D at B G;refine aH.intro (λM=>?_) (λM=>?_)<;>simp at M<;>simp[M]
   . have f1:-9223372036854775808<=f.eT-f.aU/\f.eT-f.aU<=9223372036854775807:=by omega
     have f2:-9223372036854775808<=f.eT-f.aU+1/\f.eT-f.aU+1<=9223372036854775807:=by omega
     simp[C,f1.1,f1.2,f2.1,f2.2];apply rn;simp;obtain⟨a5,I⟩:∃a,a=env 5:=⟨_,rfl⟩;rw[<-I]at B;obtain⟨cnt,O⟩:∃cnt:Nat,(cnt:Int)=f.eT-f.aU+1:=⟨(f.eT-f.aU+1).toNat,by omega⟩
     have ay:cnt<=4:=by omega
     have a8:je f e=(List.range cnt).map λi:Nat=>e.bu-f.eT+(i:Int):=by rw[Mq M];grind
     refine aa.loop cnt (λj s=>∃env J,s=⟨env,J,[],.no⟩/\env 0=kQ b mb f 0/\env 11=ints l/\env 12=int l.length/\env 13=int k/\env 5=a5/\env 8=.ref c 0/\env 41=int cnt/\env 42=int j/\Tok D J (env 9) 1 (((List.range j).map λi:Nat=>e.bu-f.eT+(i:Int)).map int)) ⟨_,_,rfl,by simp[C,p,g,o,<-I,O,Tok.nil]⟩ ?_
     clear C p g o d I
     rintro c1 j _ hj ⟨env,J,rfl,C,p,g,o,T,N,E,F,u⟩ a9
     have v:=u.1 _ _ G
     rcases aaP j cnt with g3|g3
     . have f3:-9223372036854775808<=e.bu-f.eT/\e.bu-f.eT<=9223372036854775807:=by omega
       have f4:-9223372036854775808<=e.bu-f.eT+j/\e.bu-f.eT+j<=9223372036854775807:=by omega
       apply rn;simp[C,N,E,F,g3,v,f3.1,f3.2,f4.1,f4.2];refine aN lay rfl rfl rfl dC rfl dC rfl rp (by decide) (by simp only[aaC,abT,aaI,abi];omega) (σ0:=D) (es:=((List.range j).map λi:Nat=>e.bu-f.eT+(i:Int)).map int) (xs:=[int (e.bu-f.eT+j)]) (by simpa using u) (.inr ⟨_,rfl⟩) λa' P w=>?_
       apply pg;simp;apply rn;simp[F];refine⟨by omega,a9 _ g3 ⟨_,_,rfl,by simp[C],by simp[p],by simp[g],by simp[o],by simp[T],by simp[N],by simp[E],by simp,?_⟩⟩
       rw[aaz,aax,aax];simpa using w
     . have:j=cnt:=by omega
       subst this;rw[<-a8]at u;have aC:=Av H e;have U:Wl [env 9,int e.bu] [ints (je f e),int e.bu]:=.cons u.W (.cons (.refl _) .nil)
       by_cases V:e.jJ=1
       . refine aa.HO 9 u.W ?_
         have y:bW f e=je f e:=aaj λq=>q.1 V
         apply rn;simp[T,N,E,F,v,V];refine aN lay rfl rfl rfl qg rfl qg rfl dC (by decide) (by simp;omega) (σ0:=σ) (es:=(l.take k).map λn=>ints (bW f (aS f n))) (xs:=[ints (bW f e)]) (by simpa using B.up u.1) (.inr ⟨_,by rw[y];simp;rfl⟩) λa4 K z=>?_
         apply rn;simp[o];refine⟨by omega,S _ g1 ⟨_,_,rfl,by simp[C],by simp[p],by simp[g],by simp,?_⟩⟩
         rw[t];simpa using z
       . have Q:(e.jJ !=1)=true:=by simp[V]
         by_cases X:e.bu∈je f e
         . have y:bW f e=je f e:=aaj λq=>q.2 X
           apply rn;simp[N,E,F,v,Q];refine bS Tryz.func55 rfl rfl U (kr (by omega) ?_)
           refine aa.HO 9 (a':=ints (je f e)) (by simpa using u.W) ?_
           apply rn;simp[T,X];refine aN lay rfl rfl rfl qg rfl qg rfl dC (by decide) (by simp;omega) (σ0:=σ) (es:=(l.take k).map λn=>ints (bW f (aS f n))) (xs:=[ints (bW f e)]) (by simpa using B.up u.1) (.inr ⟨_,by rw[y];simp;rfl⟩) λa4 K z=>?_
           apply rn;simp[o];refine⟨by omega,S _ g1 ⟨_,_,rfl,by simp[C],by simp[p],by simp[g],by simp,?_⟩⟩
           rw[t];simpa using z
         . have y:bW f e=je f e++[e.bu]:=aal ⟨V,X⟩
           apply rn;simp[N,E,F,v,Q];refine bS Tryz.func55 rfl rfl U (kr (by omega) ?_)
           apply rn;simp[N,X,v];refine aN lay rfl rfl rfl dC rfl dC rfl rp (by decide) (by simp;omega) (σ0:=D) (es:=(je f e).map int) (xs:=[int e.bu]) (by simpa using u) (.inr ⟨_,rfl⟩) λa' P w=>?_
           refine aa.HO 74 (a':=AV.sl 1 ((je f e).map int++[int e.bu]) .any) (by simpa using w.W) ?_
           apply rn;simp[T];refine aN lay rfl rfl rfl qg rfl qg rfl dC (by decide) (by simp;omega) (σ0:=σ) (es:=(l.take k).map λn=>ints (bW f (aS f n))) (xs:=[ints (bW f e)]) (by simpa using B.up w.1) (.inr ⟨_,by rw[y];simp;rfl⟩) λa4 K z=>?_
           apply rn;simp[o];refine⟨by omega,S _ g1 ⟨_,_,rfl,by simp[C],by simp[p],by simp[g],by simp,?_⟩⟩
           rw[t];simpa using z
   . have y:bW f e=[e.bu]:=by
      simp[bW,je,M]
     simp[G,M];have U:Wl [AV.lit (.slice none 0 0),int e.bu] [ints [],int e.bu]:=.cons (eU 1) (.cons (.refl _) .nil);refine bS Tryz.func55 rfl rfl U (kr (by simp) ?_)
     apply rn;simp[G];refine aN lay rfl rfl rfl dC rfl dC rfl rp (by decide) (by simp) (σ0:=D) (es:=[]) (xs:=[int e.bu]) (by simpa using Tok.nil D 1) (.inr ⟨_,rfl⟩) λa' P w=>?_
     refine aa.HO 74 (a':=AV.sl 1 [int e.bu] .any) (by simpa using w.W) ?_
     apply rn;simp;refine aN lay rfl rfl rfl qg rfl qg rfl dC (by decide) (by simp;omega) (σ0:=σ) (es:=(l.take k).map λn=>ints (bW f (aS f n))) (xs:=[ints (bW f e)]) (by simpa using B.up w.1) (.inr ⟨_,by rw[y];simp;rfl⟩) λa4 K z=>?_
     apply rn;simp[o];refine⟨by omega,S _ g1 ⟨_,_,rfl,by simp[C],by simp[p],by simp[g],by simp,?_⟩⟩
     rw[t];simpa using z
 . have:k=l.length:=by omega
   subst this;rw[aav]at d;refine aa.HO 5 d.W ?_;have R:0<l.length:=List.length_pos_iff.2 Y;apply rn;simp[g,o,R];refine rX lay rfl qg rfl dC (es:=l.map λn=>ints (bW f (aS f n))) (sp:=.any) (l:=1) (h:=l.length) ?_ (λcap ab=>⟨rfl,⟨rfl,by simp⟩,⟨_,rfl⟩,by omega⟩) (by simp) ?_
   . simp
   obtain⟨L,r,rfl⟩:∃L r,l=L::r:=by
    cases l with
    |nil=>simp_all
    |cons a r=>simp_all
   apply pg;simp
   have e:List.take r.length (List.map (λn=>ints (bW f (aS f n))) r)=(r.map λn=>bW f (aS f n)).map ints:=by
    rw[abe (by simp)]
    simp
   rw[e];have hlen:=Aw H (aS f L);refine cf Tryz.func244 rfl (I' (first:=bW f (aS f L)) (others:=r.map λn=>bW f (aS f n)) (by omega) (by grind) (λx hx=>?_) ?_)
   . obtain⟨n,_,rfl⟩:=aaA.1 hx
     have:=Aw H (aS f n);omega
   apply pg;simp;apply rn;simp;refine .less d.1 (.done ?_);simpa[gg]using h
theorem vM{f}(h:check f=0):hQ f []=0:=by unfold hQ;simp_all
theorem Gb{f}{l:acX}(h:check f=0)(a:∀n∈l,0<=n/\n<f.aD.length):hQ f l=0:=by
 unfold hQ;rw[aaj (by simp[h]),aal];rw[aap];intro n b;have:=a n b;simp[bz];omega
theorem tF.le{σ σ' b mb}(h:tF σ b mb σ'):σ.Le σ':=by rw[h.eq];exact af.pS (af.pS (af.le_refl _) h.Cy) (by rw[af.ai _ _ h.ne];exact h.hb)
structure Sa  f   l :Prop where
 ok:uU f l=0
 len:l.length<=1000000
theorem HR  f :∀{l p},iQ f p l=0->∀n∈l,0<=n/\n<f.aD.length
 |[],_,_,n,hn=>by simp at hn
 | a::l,p,h,n,hn=>by
   unfold iQ at h;split at h
   . cases h
   next b=>
   split at h
   . cases h
   next c=>
   rcases aaD.1 hn with rfl|hn
   . simp[bz]at b;omega
   . exact HR f h n hn
theorem Sa.mem{f l}(h:Sa f l):∀n∈l,0<=n/\n<f.aD.length:=by
 have:=h.ok;unfold uU at this;split at this
 . cases this
 . exact HR f this
theorem Sa.ne{f l}(h:Sa f l):l≠[]:=λe=>by have:=h.ok;subst e;simp[uU]at this
theorem Ja{f l}(e:f.Fits)(i:check f=0)(g:Sa f l)(h:∀b mb σ',tF σ b mb σ'->KF (.val (.cq [kQ b mb f 0,int 0])) σ'):aA prog m 125 [cy f,ints l] σ KF:=by
 have j:=g.len;refine fs Vq Tryz.func125 rfl (by kernel_rfl) ?_;simp[Tryz.f125];have a:=vM i;have k:Wl [AV.agg (DX f),AV.lit (.slice none 0 0)] [cy f,ints []]:=.cons (.refl _) (.cons (eU 1) .nil);refine bS Tryz.func82 rfl rfl k (B4 e (by simp) (λq=>absurd a q) λ_ b mb σ' n=>?_);apply rn;simp;refine bM.intro λc d=>?_
 simp;refine cf Tryz.func165 rfl (PY e (by omega) ?_);rw[g.ok];apply rn;simp;refine cf Tryz.func149 rfl (Q9 ?_);apply rn;simp;exact .less (af.pS (af.le_refl _) d) (.done (h b mb σ' n))
theorem B6{a n}(b:0<=n)(h:KF (.val (u8 (bV a n))) σ):aA prog m 248 [u8 a,int n] σ KF:=by
 refine fs [] Tryz.func248 rfl (by kernel_rfl) ?_;simp[Tryz.f248];refine⟨b,?_⟩;simp[tE];exact .done h
theorem oW{l}(o:l.length<1152921504606846976)(f:∀n∈l,0<=n)(h:KF (.val (u8 (aT l))) σ):aA prog m 246 [ints l] σ KF:=by
 refine fs [] Tryz.func246 rfl (by kernel_rfl) ?_;simp[Tryz.f246];refine aa.loop l.length (λk s=>∃env,s=⟨env,σ,[],.no⟩/\env 3=u8 (aT (l.take k))/\env 4=.fn (.func 248) [u8 (aT (l.take k))] []/\env 9=ints l/\env 10=int l.length/\env 11=int k) ⟨_,rfl,by simp[aT]⟩ ?_;rintro p k _ q ⟨env,rfl,g,i,d,b,a⟩ j;apply rn;simp[b,a];apply aH.intro<;>intro c<;>simp at c<;>simp[g,i,d,a,c]
 . have e:aT (l.take (k+1))=bV (aT (l.take k)) l[k]:=by
    unfold aT;rw[zG c,aaS];rfl
   refine dh Tryz.func248 rfl rfl rfl (B6 (f _ (zD c)) ?_);rw[<-e];apply rn;simp[a];exact⟨by omega,j _ c ⟨_,rfl,by simp[d,b]⟩⟩
 . have:k=l.length:=by omega
   subst this;rw[aav];exact .done h
def B7(x:Int):Int:=DZ x (Q8 x 1)
def tJ:Nat->Int->Int
 |0,x=>x
 |n+1,x=>B7 (tJ n x)
def Jb:Nat->Int->Int
 |0,_=>0
 |n+1,x=>if x=0 then 0 else 1+Jb n (B7 x)
def bP(a b:Int):Int:=Jb 8 (yp a b)
theorem yq{a b}(l:tJ 8 (yp a b)=0)(h:KF (.val (int (bP a b))) σ):aA prog m 247 [u8 a,u8 b] σ KF:=by
 refine fs [] Tryz.func247 rfl (by kernel_rfl) ?_
 simp[Tryz.f247,I8];refine aa.loop 8 (λk s=>∃env,s=⟨env,σ,[],.no⟩/\env 5=int k/\env 6=u8 (tJ k (yp a b))/\bP a b=k+Jb (8-k) (tJ k (yp a b))) ⟨_,rfl,by simp,by simp;rfl,by simp[tJ,bP]⟩ ?_
 rintro n k _ o ⟨env,rfl,g,f,c⟩ i
 apply rn;simp[f];apply aH.intro<;>intro d<;>simp at d<;>simp[g,f,d]
 . have j:k<8:=by
    grind
   refine⟨by omega,?_⟩
   simp[uV,I9];refine i _ j ⟨_,rfl,by simp,by simp[tJ,B7],?_⟩
   have e:8-k=(8-(k+1))+1:=by omega
   rw[e,Jb,aaj d]at c;rw[c];simp only[tJ];omega
 . rw[d]at c
   have e:Jb (8-k) 0=0:=by cases 8-k<;>simp[Jb]
   rw[e]at c;rw[c]at h;exact .done (by grind)
abbrev yr(x:Int):AV:=.agg [u8 x]
theorem PZ{x n}(a:0<=n)(h:KF (.val (yr (bV x n))) σ):aA prog m 158 [yr x,int n] σ KF:=by
 refine aA.start lay [2] Vv 2 Tryz.func158 rfl rfl (by rfl) (by kernel_rfl) ?_;simp[Tryz.f158];refine bM.intro λc f=>?_
 simp;refine bM.intro λd hd=>?_
 obtain⟨b,e,hd⟩:=af.aP hd;simp[e,af.ai,tE,a];refine aa.run lay [2] ?_;simp[b,af.ai];exact .less (by repeat (first|exact af.le_refl _|assumption|refine af.fj ?_ (by assumption)|refine af.lJ ?_ (by assumption))) (.done h)
theorem Mr{x}(h:KF (.val (ints (aB x))) σ):aA prog m 186 [yr x] σ KF:=by
 refine fs [] Tryz.func186 rfl (by kernel_rfl) ?_;simp[Tryz.f186];refine aa.loop 6 (λk s=>∃env b,s=⟨env,b,[],.no⟩/\env 1=.cp (yr x) 0/\env 5=int k/\Tok σ b (env 3) 1 ((((List.range k).map λn:Nat=>(n:Int)).filter λn=>fM x n).map int)) ⟨_,_,rfl,by simp,by simp,.nil σ 1⟩ ?_;rintro l k _ o ⟨env,b,rfl,d,c,a⟩ f;rcases aaP k 6 with g1|g1
 . have e:(k:Int)<6:=by omega
   have p:(((List.range k).map λn:Nat=>(n:Int)).filter λn=>fM x n).length<=k:=by grind
   have q:(((List.range (k+1)).map λn:Nat=>(n:Int)).filter λn=>fM x n)=(((List.range k).map λn:Nat=>(n:Int)).filter λn=>fM x n)++if fM x k then[(k:Int)]else[]:=by
    rw[aaz,aax,abt]
    grind
   apply rn;simp[d,c,e,uV];have g:fM x k=(DZ (x.fdiv (2 ^ min k IntKind.u8.bits)) 1==1):=by simp[fM]
   rw[<-g];cases hb:fM x k
   . simp[c]
     refine⟨by omega,f _ g1 ⟨_,_,rfl,by simp[d],by simp,?_⟩⟩
     simp_all
   . simp
     refine aN lay rfl rfl rfl dC rfl dC rfl rp (by decide) (by grind) (σ0:=σ) (es:=(((List.range k).map λn:Nat=>(n:Int)).filter λn=>fM x n).map int) (xs:=[int k]) (by simp_all) (.inr ⟨_,rfl⟩) λr i j=>?_
     apply rn;simp[c];refine⟨by omega,f _ g1 ⟨_,_,rfl,by simp[d],by simp,?_⟩⟩
     simp_all
 . have:k=6:=by omega
   subst this;apply rn;simp[c];exact .pD a.W (.less a.1 (.done h))
def ia(a b:Int):Int:=if 0<a/\a<b then 3 else if a=b then 1 else 2
theorem Gc{a b}(h:KF (.val (int (ia a b))) σ):aA prog m 84 [int a,int b] σ KF:=by
 unfold ia at h;refine fs [] Tryz.func84 rfl (by kernel_rfl) ?_;simp[Tryz.f84];refine uh.intro (λd=>?_) (λd=>?_)<;>(try simp[-Int.not_lt,-Int.not_le]at d)<;>(try simp[d]at h)<;>(try simp[d])<;>(try exact .done h)
 . refine aH.intro (λe=>?_) (λe=>?_)<;>(try simp[-Int.not_lt,-Int.not_le]at e)<;>(try simp[e]at h)<;>(try simp[e])<;>(try exact .done h)
   . have:a≠b:=by omega
     apply aH.intro<;>intro c<;>simp at c<;>simp[c]
     . omega
     . exact .done h
   . refine aH.intro (λc=>?_) (λc=>?_)<;>(try simp at c)<;>(try simp[c]at h)<;>(try simp[c])<;>(try exact .done h)
 . refine aH.intro (λc=>?_) (λc=>?_)<;>(try simp at c)<;>(try simp[c]at h)<;>(try simp[c])<;>(try exact .done h)
theorem Jc{l}(b:l≠[])(c:l.length<=1000000000)(h:∀a σ',cJ σ σ' a 1 (l.map int)->KF (.val a) σ'):aA prog m 188 [ints l] σ KF:=by
 refine fs [] Tryz.func188 rfl (by kernel_rfl) ?_;simp[Tryz.f188];refine CI lay rfl dC rfl rfl (.inr (.inl ⟨rfl,by simp_all,rfl⟩)) (.inl ⟨rfl,rfl⟩) ?_;apply rn;simp;refine sL lay rfl rfl rfl dC rfl dC rfl rp (by decide) (by simp;omega) (σ0:=σ) (es:=[]) (xs:=l.map int) (.empty σ 1) (.inl (.inr ⟨_,rfl⟩)) (by simp) λd σ' e=>?_
 apply rn;simp;exact .done (h _ _ (by simp_all))
def eL(lt:Int->Int->Bool)(x:Int):acX->acX
 |[]=>[x]
 |y::r=>if lt x y then y::eL lt x r else x::y::r
def eV(lt:Int->Int->Bool)(l:acX):acX:=l.foldl (λr x=>eL lt x r) []
theorem Eb  lt   x :∀r,(eL lt x r).length=r.length+1
 |[]=>rfl
 |y::r=>by unfold eL;split<;>simp[Eb lt x r]
theorem lz  lt   l :(eV lt l).length=l.length:=by
 have key:∀(l r:acX),(l.foldl (λr x=>eL lt x r) r).length=r.length+l.length:=by
  intro l;induction l with
  |nil=>intro r;rfl
  |cons a l b=>intro r;rw[abd,b,Eb];simp;omega
 rw[eV,key];simp
theorem Ec  lt   x :∀  r   y ,y∈eL lt x r↔y=x\/y∈r
 |[],y=>by simp[eL]
 | z ::r,y=>by
   unfold eL;split
   . rw[aaD,Ec lt x r y,aaD]
     grind
   . simp
theorem uW  lt   l   y :y∈eV lt l↔y∈l:=by
 have key:∀(l r:acX),y∈l.foldl (λr x=>eL lt x r) r↔y∈r\/y∈l:=by
  intro l;induction l with
  |nil=>grind
  | cons a l b=>
    intro r;rw[abd,b,Ec,aaD]
    grind
 rw[eV,key];simp
def Ed(m:Mo)(y:AV)(c:Int->Int->Int)(In:Int->Prop):Prop:=∀(a b:Int) (σ:af) (KF:acJ),In a->In b->KF (.val (int (c a b))) σ->bK prog m y [int a,int b] σ KF
theorem Xq{α:Type}{A B}{x y:α}{n}(a:A.length=n):(A++y::x::B)[n]?=some y/\(A++y::x::B)[n+1]?=some x/\((A++y::x::B).set n x).set (n+1) y=A++x::y::B/\((A++y::x::B).set (n+1) y).set n x=A++x::y::B:=by simp_all
theorem Gd{y c In l b cap rest}(W:Ed m y c In)(J:∀x∈l,In x)(hl:l.length<=1000000)(hb:σ b=some (.cells (l.map int++rest)))
 (h:KF (.val (.cq [])) (σ.set b (.cells ((eV (λa b=>decide (c a b<0)) l).reverse.map int++rest)))):aA prog m 202 [.gS b 0 l.length cap,int 0,int l.length,y] σ KF:=by
 refine fs Vz Tryz.func202 rfl (by kernel_rfl) ?_
 simp[Tryz.f202];obtain⟨lt,D⟩:∃lt,lt=λa b=>decide (c a b<0):=⟨_,rfl⟩
 rw[<-D]at h;refine aa.loop l.length (λi s=>∃env g,s=⟨env,g,[],.no⟩/\env 0=.gS b 0 l.length cap/\env 1=int 0/\env 2=int l.length/\env 3=y/\env 8=int ((i:Int)+1)/\g=σ.set b (.cells ((eV lt (l.take (i+1))).reverse.map int++((l.drop (i+1)).map int++rest)))) ⟨_,_,rfl,by simp,by simp,by simp,by simp,by simp,?_⟩ ?_
 . have e:(eV lt (l.take 1)).reverse.map int++((l.drop 1).map int++rest)=l.map int++rest:=by
    cases l with
    |nil=>simp[eV]
    |cons a l=>simp[eV,eL]
   rw[e]
   funext d
   by_cases q:d=b
   . simp_all
   . rw[af.ai _ _ q]
 rintro c0 i _ hi ⟨env,g,rfl,t,u,v,E,w,j⟩ X
 rcases aaP (i+1) l.length with g1|g1
 . have Q:(i:Int)+1<l.length:=by omega
   obtain⟨S,M⟩:∃S,S=eV lt (l.take (i+1)):=⟨_,rfl⟩;have R:S.length=i+1:=by rw[M,lz,abk];omega
   have T:∀x∈S,In x:=λx N=>J x (abX ((uW lt _ x).1 (M ▸ N)))
   have F:eV lt (l.take (i+1+1))=eL lt l[i+1] S:=by rw[M,eV,zG g1,aaS];rfl
   obtain⟨x,N⟩:∃x,x=l[i+1]:=⟨_,rfl⟩;have K:In x:=J x (by simp_all)
   have U:l.drop (i+1)=x::l.drop (i+2):=by rw[N];exact aaM g1
   rw[<-M,U]at j;rw[<-N]at F;apply rn;simp[v,w,Q]
   refine aa.loop (i+1) (λk s=>∃env g r f,s=⟨env,g,[],.no⟩/\env 0=.gS b 0 l.length cap/\env 1=int 0/\env 2=int l.length/\env 3=y/\env 8=int ((i:Int)+1)/\env 9=int f.length/\S=r++f/\f.length+k=i+1/\eL lt x S=r++eL lt x f/\
    g=σ.set b (.cells ((f.reverse.map int)++int x::(r.reverse.map int++((l.drop (i+2)).map int++rest))))) ⟨_,_,[],S,rfl,by simp[t],by simp[u],by simp[v],by simp[E],by simp[w],by simp[R],rfl,by omega,rfl,by grind⟩ ?_
   clear t u v E w j
   rintro c1 k _ hk ⟨env,g,r,f,rfl,t,u,v,E,w,O,G,hlen,p,j⟩ V
   cases f with
   | nil=>
     simp only[abi,abx]at hlen;simp only[aaV]at G;subst G
     have o:g=σ.set b (.cells ((eV lt (l.take (i+1+1))).reverse.map int++((l.drop (i+1+1)).map int++rest))):=by rw[j,F,p];simp[eL]
     apply rn;simp[u,O];refine⟨?_,?_⟩
     all_goals
      apply rn;simp[w];refine⟨by omega,X _ (by omega) ⟨_,_,rfl,?_,?_,?_,?_,?_,o⟩⟩<;>simp[t,u,v,E]
   | cons z f=>
     obtain⟨e1,e2,e3,e4⟩:=Xq (A:=f.reverse.map int) (B:=r.reverse.map int++((l.drop (i+2)).map int++rest)) (x:=int x) (y:=int z) (n:=f.length) (by simp)
     have C:g b=some (.cells (f.reverse.map int++int z::int x::(r.reverse.map int++((l.drop (i+2)).map int++rest)))):=by rw[j,af.aj];simp
     have L:In z:=T z (by grind)
     have f1:(0:Int)<(f.length:Int)+1:=by omega
     have Y:(f.length:Int)+1<l.length:=by grind
     have Z:(f.length:Int)<l.length:=by omega
     have f4:(0:Int)<=(f.length:Int)+1:=by omega
     have f5:((f.length:Int)+1).toNat=f.length+1:=by omega
     have I:-9223372036854775808<=(f.length:Int)/\(f.length:Int)<=9223372036854775807:=by omega
     apply rn;simp[t,u,E,O,f1,Y,Z,f4,f5,I.1,I.2,C];refine⟨W _ _ _ _ K L ?_,W _ _ _ _ K L ?_⟩
     all_goals
      apply pg;simp;apply rn;simp
      by_cases P:c x z<0
      . have f7:f.length+1+1<=f.length+(r.length+(l.length-(i+2)+rest.length)+1+1):=by omega
        have f8:f.length+1<=f.length+(r.length+(l.length-(i+2)+rest.length)+1+1):=by omega
        have H:eL lt x (z::f)=z::eL lt x f:=by rw[D];simp[eL,P]
        simp[t,O,P,f5,I.1,I.2,Y,Z,f4,C,f7,f8];apply rn;simp[O,I.1,I.2];refine V _ (by simp at hlen;omega) ⟨_,_,r++[z],f,rfl,by simp[t],by simp[u],by simp[v],by simp[E],by simp[w],by simp,by rw[G];simp,by simp at hlen;omega,by rw[p,H];simp,?_⟩
        rw[j];simp
      . have H:eL lt x (z::f)=x::z::f:=by rw[D];simp[eL,P]
        have o:g=σ.set b (.cells ((eV lt (l.take (i+1+1))).reverse.map int++((l.drop (i+1+1)).map int++rest))):=by rw[j,F,p,H];simp
        simp[w,P];refine⟨by omega,X _ (by omega) ⟨_,_,rfl,?_,?_,?_,?_,?_,o⟩⟩<;>simp[t,u,v,E]
 . have o:(eV lt (l.take (i+1))).reverse.map int++((l.drop (i+1)).map int++rest)=(eV lt l).reverse.map int++rest:=by
    rw[abe (by omega),List.drop_of_length_le (by omega)];simp
   rw[o]at j;have g2:¬(i:Int)+1<l.length:=by omega
   apply rn;simp[v,w,g2];rw[j];exact .done h
theorem B8{y c In l b cap rest}(q:Ed m y c In)(g:∀x∈l,In x)(w:l.length<20)(hb:σ b=some (.cells (l.map int++rest)))
 (h:KF (.val (.cq [])) (σ.set b (.cells ((eV (λa b=>decide (c a b<0)) l).reverse.map int++rest)))):aA prog m 201 [.gS b 0 l.length cap,int l.length,y] σ KF:=by
 refine fs [] Tryz.func201 rfl (by kernel_rfl) ?_;simp[Tryz.f201];have r:¬(20:Int)<=l.length:=by omega
 have t:¬(20:Int)<l.length:=by omega
 refine aa.loop 1 (λk s=>∃env,s=⟨env,σ,[],.no⟩/\env 0=.gS b 0 l.length cap/\env 1=int l.length/\env 2=y/\env 6=int 20/\env 7=int 0/\env 8=int 20) ⟨_,rfl,by simp⟩ ?_;rintro z k _ u ⟨env,rfl,j,e,n,f,o,p⟩ v;apply rn;simp[j,e,n,o,p,r];refine cf Tryz.func202 rfl (Gd q g (by omega) hb ?_);apply rn;simp;refine aa.loop 1 (λk s=>∃env d,s=⟨env,d,[],.no⟩/\env 1=int l.length/\env 6=int 20/\d=σ.set b (.cells ((eV (λa b=>decide (c a b<0)) l).reverse.map int++rest))) ⟨_,_,rfl,by simp[e,f]⟩ ?_;clear j e n f o p;rintro A k _ u ⟨env,d,rfl,e,f,i⟩ v;apply rn;simp[e,f,t];rw[i];exact .done h
theorem tK{y c In l b cap rest}(e:Ed m y c In)(d:∀x∈l,In x)(f:l.length<20)(hb:σ b=some (.cells (l.map int++rest)))
 (h:KF (.val (.cq [])) (σ.set b (.cells ((eV (λa b=>decide (c a b<0)) l).reverse.map int++rest)))):aA prog m 189 [.gS b 0 l.length cap,y] σ KF:=by
 refine fs [] Tryz.func189 rfl (by kernel_rfl) ?_;simp[Tryz.f189];refine cf Tryz.func201 rfl (B8 e d f hb ?_);apply rn;simp;exact .done (by simpa using h)
theorem P1{y c In l}(r:Ed m y c In)(f:∀x∈l,In x)(s:l.length<20)(g:l≠[])(i:y.cells=[y]/\y.flat=true)(h:KF (.val (ints (eV (λa b=>decide (c a b<0)) l).reverse)) σ):aA prog m 168 [.agg [y],ints l] σ KF:=by
 refine fs [] Tryz.func168 rfl (by kernel_rfl) ?_;simp[Tryz.f168,i.2];refine cf Tryz.func188 rfl (Jc g (by omega) λa j k=>?_)
 obtain⟨b,cap,rest,rfl,n,o,v,p,q⟩:∃b cap rest,a=.gS b 0 (l.map int).length cap/\σ b=none/\(l.map int).length<=cap/\(∀e∈l.map int,e.cells.length=1)/\j b=some (.cells (flatten (l.map int)++rest))/\rest.length=(cap-(l.map int).length)*1:=by
  rcases k.2 with⟨e,_⟩|h
  . simp_all
  . exact h
 have d:∀l:acX,flatten (l.map int)=l.map int:=λl=>by
  induction l with
  |nil=>rfl
  |cons a l t=>simp[flatten_cons,AV.cells,t]
 rw[d]at p;rw[aaC]at o q ⊢;apply rn;simp;refine cf Tryz.func189 rfl (tK r f s p ?_);apply rn;simp;refine cJ.thaw (σ0:=σ) (kk:=1) (es:=(eV (λa b=>decide (c a b<0)) l).reverse.map int) ⟨af.fj k.1 n,.inr ⟨b,cap,rest,?_,n,?_,λe u=>?_,?_,?_⟩⟩ h
 . simp[lz]
 . simpa[lz]using o
 . obtain⟨x,_,rfl⟩:=aaA.1 u;rfl
 . rw[d];simp
 . simpa[lz]using q
def uX(f:Fr)(a b:Int):Int:=B3 (aS f a).hour (aS f b).hour
theorem P4{b mb f x y}(d:0<=x/\x<f.aD.length)(e:0<=y/\y<f.aD.length)(h:KF (.val (int (uX f x y))) σ):aA prog m 166 [int x,int y,.cp (kQ b mb f 0) 0] σ KF:=by
 have a:x.toNat<f.aD.length:=by omega
 have c:y.toNat<f.aD.length:=by omega
 have ex:aS f x=f.aD[x.toNat]:=by simp[aS,zs,a]
 have g:aS f y=f.aD[y.toNat]:=by simp[aS,zs,c]
 unfold uX at h;rw[ex,g]at h;refine fs Vx Tryz.func166 rfl (by kernel_rfl) ?_;simp[Tryz.f166,a,c,d.1,e.1];refine cf Tryz.func167 rfl (F8 ?_);apply pg;simp;apply rn;simp;exact .done h
theorem Ms{b mb f}:Ed m (.fn (.func 166) [] [.cp (kQ b mb f 0) 0]) (uX f) (λn=>0<=n/\n<f.aD.length):=λx y σ KF a c h=>by refine dh Tryz.func166 rfl rfl rfl (P4 a c h)
structure OQ(f:Fr)(l:acX):Prop where
 mem:∀n∈l,0<=n/\n<f.aD.length
 ne:l≠[]
 len:l.length<=1000000
def eh(f:Fr)(l:acX):Bool:=l.any λn=>decide ((aS f n).cU≠(aS f (l.getD 0 0)).cU)
theorem tL{f x}  h :aS f x=f.aD[x.toNat]:=by simp[aS,zs,h]
theorem Ge{b mb f l}(u:OQ f l)(h:KF (.val (bool (eh f l))) σ):aA prog m 241 [.agg [],kQ b mb f 0,ints l] σ KF:=by
 obtain⟨i,g,hlen⟩:=u;have a:0<l.length:=List.length_pos_iff.2 g;obtain⟨v,A⟩:=i _ (zD a);have j:l[0].toNat<f.aD.length:=by omega
 have w:l.getD 0 0=l[0]:=by simp_all
 unfold eh at h;rw[w]at h;refine fs VA Tryz.func241 rfl (by kernel_rfl) ?_;simp[Tryz.f241];refine aa.loop l.length (λk s=>∃env,s=⟨env,σ,[],.no⟩/\env 1=kQ b mb f 0/\env 2=ints l/\env 9=ints l/\env 10=int l.length/\env 11=int k/\∀n∈l.take k,(aS f n).cU=(aS f l[0]).cU) ⟨_,rfl,by simp⟩ ?_;rintro B k _ C ⟨env,rfl,o,p,q,c,d,e⟩ x;rcases aaP k l.length with g1|g1
 . obtain⟨y0,D⟩:=i _ (zD g1)
   have r:l[k].toNat<f.aD.length:=by omega
   have E:=tL r;have F:=tL j;apply rn;simp[o,p,q,c,d,g1,a,y0,r,v,j];apply rn;simp;by_cases t:f.aD[l[k].toNat].cU=f.aD[l[0].toNat].cU
   . simp[d,t]
     refine⟨by omega,x _ g1 ⟨_,rfl,by simp[o],by simp[p],by simp[q],by simp[c],by simp,λn y=>?_⟩⟩;rw[zG g1,aaq,lb]at y
     grind
   . have z:(f.aD[l[k].toNat].cU !=f.aD[l[0].toNat].cU)=true:=by simp[t]
     have:l.any (λn=>decide ((aS f n).cU≠(aS f l[0]).cU))=true:=aaN.2 ⟨_,zD g1,by simp_all⟩;rw[this]at h;simp[z];exact .done h
 . have:k=l.length:=by omega
   subst this;rw[aav]at e;have:l.any (λn=>decide ((aS f n).cU≠(aS f l[0]).cU))=false:=by simp_all
   rw[this]at h;apply rn;simp[c,d];exact .done h
def cV(f:Fr)(l:acX):Bool:=decide (gg f l=[])
theorem Gf{b mb f l}(g:f.Good)(c:OQ f l)(h:KF (.val (bool (cV f l))) σ):aA prog m 242 [.agg [],kQ b mb f 0,ints l] σ KF:=by
 refine fs [] Tryz.func242 rfl (by kernel_rfl) ?_;simp[Tryz.f242];refine cf Tryz.func243 rfl (Ga g c.ne c.len c.mem ?_);apply rn;simp;unfold cV at h;cases d:gg f l with
 |nil=>rw[d]at h;exact .done h
 | cons a r=>
   rw[d]at h;have e:((r.length:Int)+1==0)=false:=by grind
   refine .done ?_;simpa[e]using h
def gO(f:Fr)(x y:Int):Bool:=decide ((aS f y).hour-(aS f x).hour<rd f.roads (aS f x).place.toNat (aS f y).place.toNat+f.cP*bP (aT (aS f x).marks) (aT (aS f y).marks))
def dz(f:Fr)(l:acX):Bool:=(List.range (l.length-1)).any λi=>gO f (l.getD i 0) (l.getD (i+1) 0)
theorem qU:∀{l p},tD p l=0->∀n∈l,0<=n/\n<=4
 |[],_,_,n,hn=>by simp at hn
 | a::l,p,h,n,hn=>by
   unfold tD at h;split at h
   . cases h
   next b=>
   split at h
   . cases h
   next c=>
   rcases aaD.1 hn with rfl|hn
   . simp[bz]at b;omega
   . exact qU h n hn
theorem Jd:∀a:Fin 32,∀n:Fin 5,0<=bV (a.val:Int) (n.val:Int)/\bV (a.val:Int) (n.val:Int)<32:=by decide
theorem ku{l}(h:∀n∈l,0<=n/\n<=4):0<=aT l/\aT l<32:=by
 have key:∀(l:acX) (a:Int),(∀n∈l,0<=n/\n<=4)->0<=a/\a<32->0<=l.foldl bV a/\l.foldl bV a<32:=by
  intro l;induction l with
  |nil=>simp_all
  | cons x l c=>
    intro a b e;rw[abd];refine c _ (λn d=>b n (abo _ d)) ?_;obtain⟨f,g⟩:=b x (ach ..);have:=Jd ⟨a.toNat,by omega⟩ ⟨x.toNat,by omega⟩;have i:(a.toNat:Int)=a:=by omega
    have j:(x.toNat:Int)=x:=by omega
    simp_all
 exact key l 0 h (by omega)
theorem Mt:∀a:Fin 32,∀b:Fin 32,tJ 8 (yp (a.val:Int) (b.val:Int))=0/\0<=bP (a.val:Int) (b.val:Int)/\bP (a.val:Int) (b.val:Int)<=5:=by decide +kernel
theorem HS{a b}(c:0<=a/\a<32)(hb:0<=b/\b<32):tJ 8 (yp a b)=0/\0<=bP a b/\bP a b<=5:=by
 have:=Mt ⟨a.toNat,by omega⟩ ⟨b.toNat,by omega⟩
 grind
theorem Fr.Good.row{f:Fr}(a:f.Good){i}(hi:i<f.roads.length):f.roads[i].length=f.roads.length/\∀x∈f.roads[i],0<=x/\x<=9:=by
 have h:=a.Kv;unfold fV at h;split at h
 . cases h
 split at h
 . cases h
 split at h
 . omega
 next q=>
 obtain⟨b,c⟩:=kY (by simpa using q) _ (zD hi);exact⟨b,λx d=>dE (c x d)⟩
theorem Gg{b mb f l}(j:f.Good)(hl:OQ f l)(h:KF (.val (bool (dz f l))) σ):aA prog m 245 [.agg [],kQ b mb f 0,ints l] σ KF:=by
 obtain⟨S,a7,hlen⟩:=hl;have p:=j.cP;unfold dz at h;refine fs VC Tryz.func245 rfl (by kernel_rfl) ?_
 simp[Tryz.f245];refine aa.loop (l.length-1) (λk s=>∃env a,s=⟨env,a,[],.no⟩/\σ.Le a/\env 1=kQ b mb f 0/\env 2=ints l/\env 7=int ((k:Int)+1)/\∀i<k,gO f (l.getD i 0) (l.getD (i+1) 0)=false) ⟨_,_,rfl,af.le_refl _,by simp⟩ ?_
 rintro c0 k _ hk ⟨env,a,rfl,q,r,w,x,T⟩ U
 rcases aaP (k+1) l.length with g1|g1
 . have K:(k:Int)+1<l.length:=by omega
   have L:k<l.length:=by omega
   obtain⟨x0,x1⟩:=S _ (zD L);obtain⟨y0,y1⟩:=S _ (zD g1);have y:l[k].toNat<f.aD.length:=by omega
   have z:l[k+1].toNat<f.aD.length:=by omega
   have f1:-9223372036854775808<=(k:Int)/\(k:Int)<=9223372036854775807:=by omega
   have f2:((k:Int)+1).toNat=k+1:=by omega
   have f3:(0:Int)<=(k:Int)+1:=by omega
   obtain⟨A,C⟩:∃A,A=f.aD[l[k].toNat]:=⟨_,rfl⟩;obtain⟨B,D⟩:∃B,B=f.aD[l[k+1].toNat]:=⟨_,rfl⟩;have V:=tL y;have W:=tL z;rw[<-C]at V;rw[<-D]at W;have bA:=nR (j.tH A (by grind))
   have bB:=nR (j.tH B (by grind))
   apply rn;simp[r,w,x,K,L,g1,x0,y,y0,z,f1.1,f1.2,f2,f3,<-C,<-D];have e:=λ{c:Nat}(t:a c=none)=>q.none t
   have E:A.place.toNat<f.roads.length:=by omega
   obtain⟨r1,r2⟩:=j.row E;have F:B.place.toNat<f.roads[A.place.toNat].length:=by omega
   obtain⟨r3,r4⟩:=r2 _ (zD F);have M:rd f.roads A.place.toNat B.place.toNat=f.roads[A.place.toNat][B.place.toNat]:=nP E F;have N:=qU bA.2.2.2.2.2;have O:=qU bB.2.2.2.2.2;have lA:=ku N;have lB:=ku O;obtain⟨X,P,Y⟩:=HS lA lB;obtain⟨ch,g⟩:∃ch,ch=bP (aT A.marks) (aT B.marks):=⟨_,rfl⟩;rw[<-g]at P Y
   have hmul:0<=f.cP*ch/\f.cP*ch<=30:=by
    constructor
    . exact Int.mul_nonneg (by omega) P
    . calc f.cP*ch<=6*5:=Int.mul_le_mul p.2 Y P (by omega)
       _=30:=by rfl
   have Z:gO f l[k] l[k+1]=decide (B.hour-A.hour<f.roads[A.place.toNat][B.place.toNat]+f.cP*ch):=by unfold gO;rw[V,W,M,g]
   have a8:l.getD k 0=l[k]:=by simp[zs,L]
   have a9:l.getD (k+1) 0=l[k+1]:=by simp[zs,g1]
   have G:-9223372036854775808<=B.hour-A.hour/\B.hour-A.hour<=9223372036854775807:=by omega
   have H:-9223372036854775808<=f.cP*ch/\f.cP*ch<=9223372036854775807:=by omega
   have I:-9223372036854775808<=f.roads[A.place.toNat][B.place.toNat]+f.cP*ch/\f.roads[A.place.toNat][B.place.toNat]+f.cP*ch<=9223372036854775807:=by omega
   refine⟨uz.intro λc t=>?_,uz.intro λc t=>?_⟩
   . simp
     refine uz.intro λd hd=>?_
     obtain⟨J,u,hd⟩:=af.aP hd;have Q:=e t;have R:=e hd;simp[J,u,af.ai];refine aa.bt 8 (b:=c) (bx A) (by simp[u,af.ai]) (by simp) rfl ?_
     refine aa.bt 9 (b:=d) (bx B) (by simp[J,af.del]) (by simp) rfl ?_
     apply rn;simp[r,G.1,G.2,E,F];refine⟨by omega,by omega,?_⟩
     refine cf Tryz.func246 rfl (oW (by have:=j.fits.marks A (by rw[C];exact zD y);omega) (λn o=>(N n o).1) ?_)
     apply pg;simp;refine cf Tryz.func246 rfl (oW (by have:=j.fits.marks B (by rw[D];exact zD z);omega) (λn o=>(O n o).1) ?_)
     apply pg;simp;refine cf Tryz.func247 rfl (yq X ?_);rw[<-g];apply pg;simp[H.1,H.2,I.1,I.2];apply rn;simp
     by_cases v:B.hour-A.hour<f.roads[A.place.toNat][B.place.toNat]+f.cP*ch
     . simp[v]
       have:(List.range (l.length-1)).any (λi=>gO f (l.getD i 0) (l.getD (i+1) 0))=true:=aaN.2 ⟨k,aai.2 (by omega),by grind⟩
       rw[this]at h;exact .less (by repeat (first|exact af.le_refl _|assumption|refine af.fj ?_ (by assumption)|refine af.lJ ?_ (by assumption))) (.done h)
     . simp[x,v]
       refine⟨by omega,U _ (by omega) ⟨_,_,rfl,(by repeat (first|exact af.le_refl _|assumption|refine af.fj ?_ (by assumption)|refine af.lJ ?_ (by assumption))),by simp[r],by simp[w],by simp,λi hi=>?_⟩⟩
       grind
   . simp
     refine uz.intro λd hd=>?_
     obtain⟨J,u,hd⟩:=af.aP hd;have Q:=e t;have R:=e hd;simp[u,af.ai];refine aa.bt 8 (b:=d) (bx A) (by simp[J,af.ai]) (by simp) rfl ?_
     refine aa.bt 9 (b:=c) (bx B) (by simp[u,af.del]) (by simp) rfl ?_
     apply rn;simp[r,G.1,G.2,E,F];refine⟨by omega,by omega,?_⟩
     refine cf Tryz.func246 rfl (oW (by have:=j.fits.marks A (by rw[C];exact zD y);omega) (λn o=>(N n o).1) ?_)
     apply pg;simp;refine cf Tryz.func246 rfl (oW (by have:=j.fits.marks B (by rw[D];exact zD z);omega) (λn o=>(O n o).1) ?_)
     apply pg;simp;refine cf Tryz.func247 rfl (yq X ?_);rw[<-g];apply pg;simp[H.1,H.2,I.1,I.2];apply rn;simp
     by_cases v:B.hour-A.hour<f.roads[A.place.toNat][B.place.toNat]+f.cP*ch
     . simp[v]
       have:(List.range (l.length-1)).any (λi=>gO f (l.getD i 0) (l.getD (i+1) 0))=true:=aaN.2 ⟨k,aai.2 (by omega),by grind⟩
       rw[this]at h;exact .less (by repeat (first|exact af.le_refl _|assumption|refine af.fj ?_ (by assumption)|refine af.lJ ?_ (by assumption))) (.done h)
     . simp[x,v]
       refine⟨by omega,U _ (by omega) ⟨_,_,rfl,(by repeat (first|exact af.le_refl _|assumption|refine af.fj ?_ (by assumption)|refine af.lJ ?_ (by assumption))),by simp[r],by simp[w],by simp,λi hi=>?_⟩⟩
       grind
 . have g2:¬(k:Int)+1<l.length:=by omega
   have:(List.range (l.length-1)).any (λi=>gO f (l.getD i 0) (l.getD (i+1) 0))=false:=by grind
   rw[this]at h;apply rn;simp[w,x,g2];exact .less q (.done h)
theorem VE:(((prog.info? 260).bind λi=>i.methods.find? (·.name==  "palfrey/mark.breaks")).map λmt=>(mt.path,mt.func))=some (#[],some (241,false)):=by kernel_rfl
theorem VF:(((prog.info? 261).bind λi=>i.methods.find? (·.name==  "palfrey/mark.breaks")).map λmt=>(mt.path,mt.func))=some (#[],some (242,false)):=by kernel_rfl
theorem VG:(((prog.info? 262).bind λi=>i.methods.find? (·.name==  "palfrey/mark.breaks")).map λmt=>(mt.path,mt.func))=some (#[],some (245,false)):=by kernel_rfl
theorem Sb{a}:oy prog 260  "palfrey/mark.breaks" 241 a a:=by obtain⟨mt,b,e⟩:=aat.1 VE;obtain⟨info,c,d⟩:=abO.1 b;obtain⟨f,g⟩:=Prod.mk.inj e;exact sc lay Vi c d (by rw[f]) g rfl
theorem Sc{a}:oy prog 261  "palfrey/mark.breaks" 242 a a:=by obtain⟨mt,b,e⟩:=aat.1 VF;obtain⟨info,c,d⟩:=abO.1 b;obtain⟨f,g⟩:=Prod.mk.inj e;exact sc lay Vj c d (by rw[f]) g rfl
theorem Sd{a}:oy prog 262  "palfrey/mark.breaks" 245 a a:=by obtain⟨mt,b,e⟩:=aat.1 VG;obtain⟨info,c,d⟩:=abO.1 b;obtain⟨f,g⟩:=Prod.mk.inj e;exact sc lay Vk c d (by rw[f]) g rfl
def ba(f:Fr)(l:acX):acX:=(eV (λa b=>decide (uX f a b<0)) l).reverse
def jD(f:Fr)(l:acX):Int:=if eh f (ba f l)then 1 else if cV f (ba f l)then 2 else if dz f (ba f l)then 3 else 0
abbrev VH(n:Int):AV:=if n=1 then .lE 260 (.agg [])else if n=2 then .lE 261 (.agg [])else if n=3 then .lE 262 (.agg [])else .lit .nilIface
theorem OQ.sort{f l}(h:OQ f l):OQ f (ba f l):=
 ⟨fun n a=>h.mem n ((uW _ _ _).1 (by simpa[ba]using a)),λe=>h.ne (by
   have:(ba f l).length=l.length:=by simp[ba,lz]
   grind),by simp[ba,lz,h.len]⟩
theorem Mw{b mb f l}(y:f.Good)(v:OQ f l)(d:l.length<20)(h:KF (.val (VH (jD f l))) σ):aA prog m 126 [kQ b mb f 0,ints l] σ KF:=by
 have t:=v.sort;refine fs [] Tryz.func126 rfl (by kernel_rfl) ?_;simp[Tryz.f126];refine bM.intro λc B=>?_
 simp;refine cf Tryz.func168 rfl (P1 Ms v.mem d v.ne ⟨rfl,rfl⟩ ?_);obtain⟨S,z⟩:∃S,S=(eV (λa b=>decide (uX f a b<0)) l).reverse:=⟨_,rfl⟩;have r:ba f l=S:=z.symm;rw[r]at t;unfold jD at h;rw[r]at h;rw[<-z];apply rn;simp;refine aa.loop 3 (λk s=>∃env j,s=⟨env,j,[],.no⟩/\σ.Le j/\env 1=ints S/\env 2=.cp (kQ b mb f 0) 0/\env 19=.sl 1 [.lE 260 (.agg []),.lE 261 (.agg []),.lE 262 (.agg [])] .exact/\env 20=int 3/\env 21=int k/\(1<=k->eh f S=false)/\(2<=k->cV f S=false)/\(3<=k->dz f S=false)) ⟨_,_,rfl,af.pS (af.le_refl _) B,by simp⟩ ?_;rintro E k _ F ⟨env,j,rfl,e,o,p,i,d,g,w,A,C⟩ x;obtain rfl|rfl|rfl|rfl:k=0\/k=1\/k=2\/k=3:=by omega
 . apply rn
   simp[o,p,i,d,g];refine aa.invoke rfl rfl rfl (by simp) rfl Sb Tryz.func241 rfl rfl ?_;refine Ge t ?_;apply rn;simp;cases hb:eh f S
   . simp[g]
     refine x _ (by omega) ⟨_,_,rfl,e,?_,?_,?_,?_,?_,λ_=>hb,λq=>(by omega),λq=>(by omega)⟩<;>simp[o,p,i,d]
   . simp
     simp[hb]at h;exact .less e (.done h)
 . have n:=w (by omega)
   apply rn;simp[o,p,i,d,g];refine aa.invoke rfl rfl rfl (by simp) rfl Sc Tryz.func242 rfl rfl ?_;refine Gf y t ?_;apply rn;simp;cases hb:cV f S
   . simp[g]
     refine x _ (by omega) ⟨_,_,rfl,e,?_,?_,?_,?_,?_,λ_=>n,λ_=>hb,λq=>(by omega)⟩<;>simp[o,p,i,d]
   . simp
     simp[hb,n]at h;exact .less e (.done h)
 . have n:=w (by omega)
   have u:=A (by omega);apply rn;simp[o,p,i,d,g];refine aa.invoke rfl rfl rfl (by simp) rfl Sd Tryz.func245 rfl rfl ?_;refine Gg y t ?_;apply rn;simp;cases hb:dz f S
   . simp[g]
     refine x _ (by omega) ⟨_,_,rfl,e,?_,?_,?_,?_,?_,λ_=>n,λ_=>u,λ_=>hb⟩<;>simp[o,p,i,d]
   . simp
     simp[hb,n,u]at h;exact .less e (.done h)
 . have n:=w (by omega)
   have u:=A (by omega);have D:=C (by omega);simp[n,u,D]at h;apply rn;simp[d,g];exact .less e (.done h)

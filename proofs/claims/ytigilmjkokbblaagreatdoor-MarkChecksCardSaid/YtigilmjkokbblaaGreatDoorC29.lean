/- Part 29 of the proof. -/
import Derived.Test.YtigilmjkokbblaaGreatDoorProg
import Derived.Test.YtigilmjkokbblaaGreatDoorC28
set_option linter.all false
namespace Go.Proofs.YtigilmjkokbblaaGreatDoor
open Tryz (prog)
open Go.bd
set_option maxRecDepth 100000
def LR:List (Nat × TI):=[
 (1,⟨.func,1,8,.nilFunc,[]⟩),
 (2,⟨.int .i64,1,8,(.int .i64 0),[]⟩),
 (3,⟨.int .i64,1,8,(.int .i64 0),[]⟩),
 (4,⟨.bool,1,1,(.bool false),[]⟩),
 (5,⟨.int .u8,1,1,(.int .u8 0),[]⟩),
 (6,⟨.int .u8,1,1,(.int .u8 0),[]⟩),
 (7,⟨.struct,4,24,(.agg #[(.int .i64 0),(.int .i64 0),(.bool false),(.int .u8 0)]),[(0,1,2),(1,1,3),(2,1,4),(3,1,6)]⟩),
 (8,⟨.struct,4,24,(.agg #[(.int .i64 0),(.int .i64 0),(.bool false),(.int .u8 0)]),[(0,1,2),(1,1,3),(2,1,4),(3,1,6)]⟩),
 (9,⟨.string,1,16,(.string ByteArray.empty),[]⟩),
 (10,⟨.string,1,16,(.string ByteArray.empty),[]⟩),
 (11,⟨.string,1,16,(.string ByteArray.empty),[]⟩),
 (12,⟨.int .u64,1,8,(.int .u64 0),[]⟩),
 (13,⟨.struct,2,24,(.agg #[(.string ByteArray.empty),(.int .u64 0)]),[(0,1,9),(1,1,12)]⟩),
 (14,⟨.struct,2,24,(.agg #[(.string ByteArray.empty),(.int .u64 0)]),[(0,1,9),(1,1,12)]⟩),
 (15,⟨.pointer 226,1,8,(.pointer none),[]⟩),
 (16,⟨.pointer 229,1,8,(.pointer none),[]⟩),
 (17,⟨.pointer 237,1,8,(.pointer none),[]⟩),
 (18,⟨.struct,1,8,(.agg #[(.pointer none)]),[(0,1,17)]⟩),
 (19,⟨.struct,1,8,(.agg #[(.pointer none)]),[(0,1,17)]⟩),
 (20,⟨.iface,1,16,.nilIface,[]⟩),
 (21,⟨.int .i32,1,4,(.int .i32 0),[]⟩),
 (22,⟨.slice 30,1,24,(.slice none 0 0),[]⟩),
 (23,⟨.slice 28,1,24,(.slice none 0 0),[]⟩),
 (24,⟨.struct,2,16,(.agg #[(.int .i64 0),(.int .i64 0)]),[(0,1,3),(1,1,3)]⟩),
 (25,⟨.struct,2,16,(.agg #[(.int .i64 0),(.int .i64 0)]),[(0,1,3),(1,1,3)]⟩),
 (26,⟨.struct,6,80,(.agg #[(.slice none 0 0),(.slice none 0 0),(.int .i64 0),(.int .i64 0),(.int .i64 0),(.int .i64 0)]),[(0,1,22),(1,1,23),(2,2,25),(4,1,3),(5,1,3)]⟩),
 (27,⟨.struct,6,80,(.agg #[(.slice none 0 0),(.slice none 0 0),(.int .i64 0),(.int .i64 0),(.int .i64 0),(.int .i64 0)]),[(0,1,22),(1,1,23),(2,2,25),(4,1,3),(5,1,3)]⟩),
 (28,⟨.slice 3,1,24,(.slice none 0 0),[]⟩),
 (29,⟨.struct,6,64,(.agg #[(.int .i64 0),(.int .i64 0),(.int .i64 0),(.slice none 0 0),(.int .i64 0),(.int .i64 0)]),[(0,1,3),(1,1,3),(2,1,3),(3,1,28),(4,1,3),(5,1,3)]⟩),
 (30,⟨.struct,6,64,(.agg #[(.int .i64 0),(.int .i64 0),(.int .i64 0),(.slice none 0 0),(.int .i64 0),(.int .i64 0)]),[(0,1,3),(1,1,3),(2,1,3),(3,1,28),(4,1,3),(5,1,3)]⟩),
 (31,⟨.func,1,8,.nilFunc,[]⟩),
 (32,⟨.func,1,8,.nilFunc,[]⟩),
 (33,⟨.pointer 70,1,8,(.pointer none),[]⟩),
 (34,⟨.func,1,8,.nilFunc,[]⟩),
 (35,⟨.slice 27,1,24,(.slice none 0 0),[]⟩),
 (36,⟨.func,1,8,.nilFunc,[]⟩),
 (37,⟨.func,1,8,.nilFunc,[]⟩),
 (38,⟨.func,1,8,.nilFunc,[]⟩),
 (39,⟨.func,1,8,.nilFunc,[]⟩),
 (40,⟨.func,1,8,.nilFunc,[]⟩),
 (41,⟨.int .i64,1,8,(.int .i64 0),[]⟩),
 (43,⟨.func,1,8,.nilFunc,[]⟩),
 (47,⟨.func,1,8,.nilFunc,[]⟩),
 (68,⟨.int .u64,1,8,(.int .u64 0),[]⟩),
 (69,⟨.struct,3,40,(.agg #[(.slice none 0 0),(.int .i64 0),(.int .u64 0)]),[(0,1,28),(1,1,3),(2,1,68)]⟩),
 (70,⟨.struct,3,40,(.agg #[(.slice none 0 0),(.int .i64 0),(.int .u64 0)]),[(0,1,28),(1,1,3),(2,1,68)]⟩),
 (72,⟨.func,1,8,.nilFunc,[]⟩),
 (75,⟨.func,1,8,.nilFunc,[]⟩),
 (77,⟨.pointer 138,1,8,(.pointer none),[]⟩),
 (81,⟨.iface,1,16,.nilIface,[]⟩),
 (86,⟨.func,1,8,.nilFunc,[]⟩),
 (95,⟨.func,1,8,.nilFunc,[]⟩),
 (97,⟨.struct,3,40,(.agg #[(.slice none 0 0),(.int .i64 0),(.bool false)]),[(0,1,28),(1,1,3),(2,1,4)]⟩),
 (98,⟨.struct,3,40,(.agg #[(.slice none 0 0),(.int .i64 0),(.bool false)]),[(0,1,28),(1,1,3),(2,1,4)]⟩),
 (99,⟨.func,1,8,.nilFunc,[]⟩),
 (100,⟨.func,1,8,.nilFunc,[]⟩),
 (101,⟨.func,1,8,.nilFunc,[]⟩),
 (104,⟨.func,1,8,.nilFunc,[]⟩),
 (107,⟨.func,1,8,.nilFunc,[]⟩),
 (109,⟨.func,1,8,.nilFunc,[]⟩),
 (110,⟨.func,1,8,.nilFunc,[]⟩),
 (113,⟨.struct,2,16,(.agg #[(.int .i64 0),(.int .i64 0)]),[(0,1,3),(1,1,3)]⟩),
 (114,⟨.struct,4,32,(.agg #[(.int .i64 0),(.int .i64 0),(.int .i64 0),(.bool false)]),[(0,2,113),(2,1,3),(3,1,4)]⟩),
 (115,⟨.struct,4,32,(.agg #[(.int .i64 0),(.int .i64 0),(.int .i64 0),(.bool false)]),[(0,2,113),(2,1,3),(3,1,4)]⟩),
 (121,⟨.func,1,8,.nilFunc,[]⟩),
 (123,⟨.struct,1,8,(.agg #[(.int .i64 0)]),[(0,1,41)]⟩),
 (126,⟨.iface,1,16,.nilIface,[]⟩),
 (128,⟨.pointer 123,1,8,(.pointer none),[]⟩),
 (130,⟨.struct,0,0,(.agg #[]),[]⟩),
 (131,⟨.int .u32,1,4,(.int .u32 0),[]⟩),
 (133,⟨.struct,2,8,(.agg #[(.int .i32 0),(.int .u32 0)]),[(0,1,21),(1,1,131)]⟩),
 (135,⟨.struct,2,8,(.agg #[(.int .i32 0),(.int .u32 0)]),[(0,0,130),(0,2,133)]⟩),
 (136,⟨.map 160 4,1,8,(.map none),[]⟩),
 (138,⟨.struct,9,96,(.agg #[(.slice none 0 0),(.slice none 0 0),(.int .i64 0),(.int .i64 0),(.int .i64 0),(.int .i64 0),(.int .i32 0),(.int .u32 0),(.map none)]),[(0,6,27),(6,2,135),(8,1,136)]⟩),
 (140,⟨.struct,1,8,(.agg #[.nilFunc]),[(0,1,104)]⟩),
 (141,⟨.struct,0,0,(.agg #[]),[]⟩),
 (142,⟨.struct,0,0,(.agg #[]),[]⟩),
 (143,⟨.struct,0,0,(.agg #[]),[]⟩),
 (144,⟨.slice 81,1,24,(.slice none 0 0),[]⟩),
 (147,⟨.func,1,8,.nilFunc,[]⟩),
 (149,⟨.int .u64,1,8,(.int .u64 0),[]⟩),
 (151,⟨.chan 3,1,8,(.chan none),[]⟩),
 (152,⟨.struct,0,0,(.agg #[]),[]⟩),
 (153,⟨.struct,0,0,(.agg #[]),[]⟩),
 (155,⟨.struct,1,8,(.agg #[(.int .u64 0)]),[(0,0,152),(0,0,153),(0,1,68)]⟩),
 (157,⟨.struct,2,16,(.agg #[(.int .u64 0),(.int .u32 0)]),[(0,0,130),(0,1,155),(1,1,131)]⟩),
 (160,⟨.struct,1,1,(.agg #[(.int .u8 0)]),[(0,1,5)]⟩),
 (161,⟨.array 6 160,6,6,(.agg #[(.int .u8 0),(.int .u8 0),(.int .u8 0),(.int .u8 0),(.int .u8 0),(.int .u8 0)]),[]⟩),
 (164,⟨.pointer 98,1,8,(.pointer none),[]⟩),
 (165,⟨.pointer 115,1,8,(.pointer none),[]⟩),
 (167,⟨.int .u64,1,8,(.int .u64 0),[]⟩),
 (169,⟨.struct,3,24,(.agg #[(.pointer none),(.pointer none),(.int .u64 0)]),[(0,1,17),(1,1,166),(2,1,167)]⟩),
 (172,⟨.iface,1,16,.nilIface,[]⟩),
 (174,⟨.int .u8,1,1,(.int .u8 0),[]⟩),
 (179,⟨.pointer 157,1,8,(.pointer none),[]⟩),
 (181,⟨.int .i64,1,8,(.int .i64 0),[]⟩),
 (185,⟨.pointer 131,1,8,(.pointer none),[]⟩),
 (195,⟨.struct,1,8,(.agg #[(.pointer none)]),[(0,1,17)]⟩),
 (200,⟨.iface,1,16,.nilIface,[]⟩),
 (203,⟨.iface,1,16,.nilIface,[]⟩),
 (205,⟨.iface,1,16,.nilIface,[]⟩),
 (206,⟨.slice 126,1,24,(.slice none 0 0),[]⟩),
 (215,⟨.pointer 135,1,8,(.pointer none),[]⟩),
 (226,⟨.struct,4,40,(.agg #[(.pointer none),(.pointer none),(.pointer none),(.string ByteArray.empty)]),[(0,1,17),(1,1,17),(2,1,17),(3,1,9)]⟩),
 (227,⟨.array 0 16,0,0,(.agg #[]),[]⟩),
 (229,⟨.struct,0,0,(.agg #[]),[(0,0,227)]⟩),
 (231,⟨.int .u8,1,1,(.int .u8 0),[]⟩),
 (232,⟨.func,1,8,.nilFunc,[]⟩),
 (233,⟨.pointer 5,1,8,(.pointer none),[]⟩),
 (234,⟨.int .i32,1,4,(.int .i32 0),[]⟩),
 (235,⟨.int .i32,1,4,(.int .i32 0),[]⟩),
 (237,⟨.struct,11,48,(.agg #[(.int .u64 0),(.int .u64 0),(.int .u32 0),(.int .u8 0),(.int .u8 0),(.int .u8 0),(.int .u8 0),.nilFunc,(.pointer none),(.int .i32 0),(.int .i32 0)]),[(0,1,12),(1,1,12),(2,1,131),(3,1,231),(4,1,5),(5,1,5),(6,1,174),(7,1,232),(8,1,233),(9,1,234),(10,1,235)]⟩),
 (238,⟨.int .u8,1,1,(.int .u8 0),[]⟩)]
theorem IF:(LR.all λx=>x.2.check Tryz.prog x.1)=true:=by kernel_rfl
def BU(t:Nat):Option TI:=(LR.find? λx=>x.1==t).map (·.2)
theorem FN(t:Nat)(i:TI)(h:BU t=some i):i.check Tryz.prog t=true:=by unfold BU at h;obtain⟨x,a,rfl⟩:=Option.map_eq_some_iff.1 h;have c:=List.find?_some a;have b:=List.all_eq_true.1 IF x (List.mem_of_find?_eq_some a);rw[beq_iff_eq.1 c]at b;exact b
def lay:iG Tryz.prog:=⟨BU,FN,by kernel_rfl⟩
theorem rn{m:Mo}{fid n:Nat}{ro:Option Nat}{hold:List Entry}{s:St}{K:bd.Exit->St->Prop}{todo:List Item}(h:bx lay m fid n ro [] hold 1000 todo s K):ab Tryz.prog m fid n ro hold todo s K:=ab.run lay [] h
theorem pg{m:Mo}{ops:Array Oper}{n:Nat}{Kp:AV->aa->Prop}{R:Env->aa->Prop}{p:kS}{env:Env}{σ:aa}(h:gZ lay m [] ops n Kp p env σ R):aU Tryz.prog m ops n Kp p env σ R:=aU.go lay [] h
theorem cf{m:Mo}{f:FuncId}{fn:Func}{args:List AV}{σ:aa}{KF:dV->aa->Prop}(a:Tryz.prog.funcs[f]?=some fn)(hb:(fn.body.isSome && !(fn.name== "runtime.NumGoroutine"))=true)(h:aB Tryz.prog m f args σ KF):cN Tryz.prog m (.fn (.func f) [] []) args σ KF:=by
 simp only[Bool.and_eq_true,Bool.not_eq_true']at hb;exact an a hb.1 hb.2 h
theorem fs{m:Mo}{f:FuncId}{fn:Func}{args:List AV}{σ:aa}{KF:dV->aa->Prop}{body:Code}(hold:List Entry)(k:Nat)(b:Tryz.prog.funcs[f]?=some fn)(hb:fn.body=some body)(c:args.length=k)(d:oa fn k=true)(a:mJ hold body=true)(h:bx lay m f fn.ntmps none [] hold 1000 [.code body] ⟨dD args,σ,[],.no⟩ (QZ lay m fn.results.toList (oc KF))):aB Tryz.prog m f args σ KF:=aB.start lay [] hold k b hb c d a h
@[simp] theorem YJ:lay.tt 1=some ⟨.func,1,8,.nilFunc,[]⟩:=rfl
@[simp] theorem YK:lay.tt 2=some ⟨.int .i64,1,8,(.int .i64 0),[]⟩:=rfl
@[simp] theorem rl:lay.tt 3=some ⟨.int .i64,1,8,(.int .i64 0),[]⟩:=rfl
@[simp] theorem X3:lay.tt 4=some ⟨.bool,1,1,(.bool false),[]⟩:=rfl
@[simp] theorem WK:lay.tt 5=some ⟨.int .u8,1,1,(.int .u8 0),[]⟩:=rfl
@[simp] theorem YL:lay.tt 6=some ⟨.int .u8,1,1,(.int .u8 0),[]⟩:=rfl
@[simp] theorem YM:lay.tt 7=some ⟨.struct,4,24,(.agg #[(.int .i64 0),(.int .i64 0),(.bool false),(.int .u8 0)]),[(0,1,2),(1,1,3),(2,1,4),(3,1,6)]⟩:=rfl
@[simp] theorem YN:lay.tt 8=some ⟨.struct,4,24,(.agg #[(.int .i64 0),(.int .i64 0),(.bool false),(.int .u8 0)]),[(0,1,2),(1,1,3),(2,1,4),(3,1,6)]⟩:=rfl
@[simp] theorem YO:lay.tt 9=some ⟨.string,1,16,(.string ByteArray.empty),[]⟩:=rfl
@[simp] theorem X4:lay.tt 10=some ⟨.string,1,16,(.string ByteArray.empty),[]⟩:=rfl
@[simp] theorem X5:lay.tt 11=some ⟨.string,1,16,(.string ByteArray.empty),[]⟩:=rfl
@[simp] theorem X6:lay.tt 12=some ⟨.int .u64,1,8,(.int .u64 0),[]⟩:=rfl
@[simp] theorem X7:lay.tt 13=some ⟨.struct,2,24,(.agg #[(.string ByteArray.empty),(.int .u64 0)]),[(0,1,9),(1,1,12)]⟩:=rfl
@[simp] theorem X8:lay.tt 14=some ⟨.struct,2,24,(.agg #[(.string ByteArray.empty),(.int .u64 0)]),[(0,1,9),(1,1,12)]⟩:=rfl
@[simp] theorem X9:lay.tt 15=some ⟨.pointer 226,1,8,(.pointer none),[]⟩:=rfl
@[simp] theorem Ya:lay.tt 16=some ⟨.pointer 229,1,8,(.pointer none),[]⟩:=rfl
@[simp] theorem Yb:lay.tt 17=some ⟨.pointer 237,1,8,(.pointer none),[]⟩:=rfl
@[simp] theorem Yc:lay.tt 18=some ⟨.struct,1,8,(.agg #[(.pointer none)]),[(0,1,17)]⟩:=rfl
@[simp] theorem Yd:lay.tt 19=some ⟨.struct,1,8,(.agg #[(.pointer none)]),[(0,1,17)]⟩:=rfl
@[simp] theorem VL:lay.tt 20=some ⟨.iface,1,16,.nilIface,[]⟩:=rfl
@[simp] theorem Ye:lay.tt 21=some ⟨.int .i32,1,4,(.int .i32 0),[]⟩:=rfl
@[simp] theorem ko:lay.tt 22=some ⟨.slice 30,1,24,(.slice none 0 0),[]⟩:=rfl
@[simp] theorem jO:lay.tt 23=some ⟨.slice 28,1,24,(.slice none 0 0),[]⟩:=rfl
@[simp] theorem Yf:lay.tt 24=some ⟨.struct,2,16,(.agg #[(.int .i64 0),(.int .i64 0)]),[(0,1,3),(1,1,3)]⟩:=rfl
@[simp] theorem Yg:lay.tt 25=some ⟨.struct,2,16,(.agg #[(.int .i64 0),(.int .i64 0)]),[(0,1,3),(1,1,3)]⟩:=rfl
@[simp] theorem Yh:lay.tt 26=some ⟨.struct,6,80,(.agg #[(.slice none 0 0),(.slice none 0 0),(.int .i64 0),(.int .i64 0),(.int .i64 0),(.int .i64 0)]),[(0,1,22),(1,1,23),(2,2,25),(4,1,3),(5,1,3)]⟩:=rfl
@[simp] theorem Yi:lay.tt 27=some ⟨.struct,6,80,(.agg #[(.slice none 0 0),(.slice none 0 0),(.int .i64 0),(.int .i64 0),(.int .i64 0),(.int .i64 0)]),[(0,1,22),(1,1,23),(2,2,25),(4,1,3),(5,1,3)]⟩:=rfl
@[simp] theorem cK:lay.tt 28=some ⟨.slice 3,1,24,(.slice none 0 0),[]⟩:=rfl
@[simp] theorem Yj:lay.tt 29=some ⟨.struct,6,64,(.agg #[(.int .i64 0),(.int .i64 0),(.int .i64 0),(.slice none 0 0),(.int .i64 0),(.int .i64 0)]),[(0,1,3),(1,1,3),(2,1,3),(3,1,28),(4,1,3),(5,1,3)]⟩:=rfl
@[simp] theorem rp:lay.tt 30=some ⟨.struct,6,64,(.agg #[(.int .i64 0),(.int .i64 0),(.int .i64 0),(.slice none 0 0),(.int .i64 0),(.int .i64 0)]),[(0,1,3),(1,1,3),(2,1,3),(3,1,28),(4,1,3),(5,1,3)]⟩:=rfl
@[simp] theorem Yk:lay.tt 31=some ⟨.func,1,8,.nilFunc,[]⟩:=rfl
@[simp] theorem Yl:lay.tt 32=some ⟨.func,1,8,.nilFunc,[]⟩:=rfl
@[simp] theorem Ym:lay.tt 33=some ⟨.pointer 70,1,8,(.pointer none),[]⟩:=rfl
@[simp] theorem Yn:lay.tt 34=some ⟨.func,1,8,.nilFunc,[]⟩:=rfl
@[simp] theorem Yo:lay.tt 35=some ⟨.slice 27,1,24,(.slice none 0 0),[]⟩:=rfl
@[simp] theorem Yp:lay.tt 36=some ⟨.func,1,8,.nilFunc,[]⟩:=rfl
@[simp] theorem Yq:lay.tt 37=some ⟨.func,1,8,.nilFunc,[]⟩:=rfl
@[simp] theorem Yr:lay.tt 38=some ⟨.func,1,8,.nilFunc,[]⟩:=rfl
@[simp] theorem Ys:lay.tt 39=some ⟨.func,1,8,.nilFunc,[]⟩:=rfl
@[simp] theorem Yt:lay.tt 40=some ⟨.func,1,8,.nilFunc,[]⟩:=rfl
@[simp] theorem Yu:lay.tt 41=some ⟨.int .i64,1,8,(.int .i64 0),[]⟩:=rfl
@[simp] theorem Yv:lay.tt 43=some ⟨.func,1,8,.nilFunc,[]⟩:=rfl
@[simp] theorem Yw:lay.tt 47=some ⟨.func,1,8,.nilFunc,[]⟩:=rfl
@[simp] theorem Yx:lay.tt 68=some ⟨.int .u64,1,8,(.int .u64 0),[]⟩:=rfl
@[simp] theorem Yy:lay.tt 69=some ⟨.struct,3,40,(.agg #[(.slice none 0 0),(.int .i64 0),(.int .u64 0)]),[(0,1,28),(1,1,3),(2,1,68)]⟩:=rfl
@[simp] theorem Yz:lay.tt 70=some ⟨.struct,3,40,(.agg #[(.slice none 0 0),(.int .i64 0),(.int .u64 0)]),[(0,1,28),(1,1,3),(2,1,68)]⟩:=rfl
@[simp] theorem YA:lay.tt 72=some ⟨.func,1,8,.nilFunc,[]⟩:=rfl
@[simp] theorem YB:lay.tt 75=some ⟨.func,1,8,.nilFunc,[]⟩:=rfl
@[simp] theorem YC:lay.tt 77=some ⟨.pointer 138,1,8,(.pointer none),[]⟩:=rfl
@[simp] theorem TN:lay.tt 81=some ⟨.iface,1,16,.nilIface,[]⟩:=rfl
@[simp] theorem YD:lay.tt 86=some ⟨.func,1,8,.nilFunc,[]⟩:=rfl
@[simp] theorem YE:lay.tt 95=some ⟨.func,1,8,.nilFunc,[]⟩:=rfl
@[simp] theorem YF:lay.tt 97=some ⟨.struct,3,40,(.agg #[(.slice none 0 0),(.int .i64 0),(.bool false)]),[(0,1,28),(1,1,3),(2,1,4)]⟩:=rfl
@[simp] theorem YG:lay.tt 98=some ⟨.struct,3,40,(.agg #[(.slice none 0 0),(.int .i64 0),(.bool false)]),[(0,1,28),(1,1,3),(2,1,4)]⟩:=rfl
@[simp] theorem YH:lay.tt 99=some ⟨.func,1,8,.nilFunc,[]⟩:=rfl
@[simp] theorem WL:lay.tt 100=some ⟨.func,1,8,.nilFunc,[]⟩:=rfl
@[simp] theorem WM:lay.tt 101=some ⟨.func,1,8,.nilFunc,[]⟩:=rfl
@[simp] theorem WN:lay.tt 104=some ⟨.func,1,8,.nilFunc,[]⟩:=rfl
@[simp] theorem WO:lay.tt 107=some ⟨.func,1,8,.nilFunc,[]⟩:=rfl
@[simp] theorem WQ:lay.tt 109=some ⟨.func,1,8,.nilFunc,[]⟩:=rfl
@[simp] theorem WR:lay.tt 110=some ⟨.func,1,8,.nilFunc,[]⟩:=rfl
@[simp] theorem WT:lay.tt 113=some ⟨.struct,2,16,(.agg #[(.int .i64 0),(.int .i64 0)]),[(0,1,3),(1,1,3)]⟩:=rfl
@[simp] theorem WU:lay.tt 114=some ⟨.struct,4,32,(.agg #[(.int .i64 0),(.int .i64 0),(.int .i64 0),(.bool false)]),[(0,2,113),(2,1,3),(3,1,4)]⟩:=rfl
@[simp] theorem WV:lay.tt 115=some ⟨.struct,4,32,(.agg #[(.int .i64 0),(.int .i64 0),(.int .i64 0),(.bool false)]),[(0,2,113),(2,1,3),(3,1,4)]⟩:=rfl
@[simp] theorem WW:lay.tt 121=some ⟨.func,1,8,.nilFunc,[]⟩:=rfl
@[simp] theorem TO:lay.tt 123=some ⟨.struct,1,8,(.agg #[(.int .i64 0)]),[(0,1,41)]⟩:=rfl
@[simp] theorem PM:lay.tt 126=some ⟨.iface,1,16,.nilIface,[]⟩:=rfl
@[simp] theorem TP:lay.tt 128=some ⟨.pointer 123,1,8,(.pointer none),[]⟩:=rfl
@[simp] theorem WX:lay.tt 130=some ⟨.struct,0,0,(.agg #[]),[]⟩:=rfl
@[simp] theorem WY:lay.tt 131=some ⟨.int .u32,1,4,(.int .u32 0),[]⟩:=rfl
@[simp] theorem WZ:lay.tt 133=some ⟨.struct,2,8,(.agg #[(.int .i32 0),(.int .u32 0)]),[(0,1,21),(1,1,131)]⟩:=rfl
@[simp] theorem W2:lay.tt 135=some ⟨.struct,2,8,(.agg #[(.int .i32 0),(.int .u32 0)]),[(0,0,130),(0,2,133)]⟩:=rfl
@[simp] theorem W6:lay.tt 136=some ⟨.map 160 4,1,8,(.map none),[]⟩:=rfl
@[simp] theorem W7:lay.tt 138=some ⟨.struct,9,96,(.agg #[(.slice none 0 0),(.slice none 0 0),(.int .i64 0),(.int .i64 0),(.int .i64 0),(.int .i64 0),(.int .i32 0),(.int .u32 0),(.map none)]),[(0,6,27),(6,2,135),(8,1,136)]⟩:=rfl
@[simp] theorem W8:lay.tt 140=some ⟨.struct,1,8,(.agg #[.nilFunc]),[(0,1,104)]⟩:=rfl
@[simp] theorem TR:lay.tt 141=some ⟨.struct,0,0,(.agg #[]),[]⟩:=rfl
@[simp] theorem TS:lay.tt 142=some ⟨.struct,0,0,(.agg #[]),[]⟩:=rfl
@[simp] theorem TU:lay.tt 143=some ⟨.struct,0,0,(.agg #[]),[]⟩:=rfl
@[simp] theorem W9:lay.tt 144=some ⟨.slice 81,1,24,(.slice none 0 0),[]⟩:=rfl
@[simp] theorem Xa:lay.tt 147=some ⟨.func,1,8,.nilFunc,[]⟩:=rfl
@[simp] theorem Xb:lay.tt 149=some ⟨.int .u64,1,8,(.int .u64 0),[]⟩:=rfl
@[simp] theorem Hm:lay.tt 151=some ⟨.chan 3,1,8,(.chan none),[]⟩:=rfl
@[simp] theorem Xc:lay.tt 152=some ⟨.struct,0,0,(.agg #[]),[]⟩:=rfl
@[simp] theorem Xd:lay.tt 153=some ⟨.struct,0,0,(.agg #[]),[]⟩:=rfl
@[simp] theorem Xe:lay.tt 155=some ⟨.struct,1,8,(.agg #[(.int .u64 0)]),[(0,0,152),(0,0,153),(0,1,68)]⟩:=rfl
@[simp] theorem Xf:lay.tt 157=some ⟨.struct,2,16,(.agg #[(.int .u64 0),(.int .u32 0)]),[(0,0,130),(0,1,155),(1,1,131)]⟩:=rfl
@[simp] theorem Xg:lay.tt 160=some ⟨.struct,1,1,(.agg #[(.int .u8 0)]),[(0,1,5)]⟩:=rfl
@[simp] theorem Xh:lay.tt 161=some ⟨.array 6 160,6,6,(.agg #[(.int .u8 0),(.int .u8 0),(.int .u8 0),(.int .u8 0),(.int .u8 0),(.int .u8 0)]),[]⟩:=rfl
@[simp] theorem Xi:lay.tt 164=some ⟨.pointer 98,1,8,(.pointer none),[]⟩:=rfl
@[simp] theorem Xj:lay.tt 165=some ⟨.pointer 115,1,8,(.pointer none),[]⟩:=rfl
@[simp] theorem Xk:lay.tt 167=some ⟨.int .u64,1,8,(.int .u64 0),[]⟩:=rfl
@[simp] theorem Xl:lay.tt 169=some ⟨.struct,3,24,(.agg #[(.pointer none),(.pointer none),(.int .u64 0)]),[(0,1,17),(1,1,166),(2,1,167)]⟩:=rfl
@[simp] theorem Xm:lay.tt 172=some ⟨.iface,1,16,.nilIface,[]⟩:=rfl
@[simp] theorem Xn:lay.tt 174=some ⟨.int .u8,1,1,(.int .u8 0),[]⟩:=rfl
@[simp] theorem Xo:lay.tt 179=some ⟨.pointer 157,1,8,(.pointer none),[]⟩:=rfl
@[simp] theorem Xp:lay.tt 181=some ⟨.int .i64,1,8,(.int .i64 0),[]⟩:=rfl
@[simp] theorem Xq:lay.tt 185=some ⟨.pointer 131,1,8,(.pointer none),[]⟩:=rfl
@[simp] theorem Xr:lay.tt 195=some ⟨.struct,1,8,(.agg #[(.pointer none)]),[(0,1,17)]⟩:=rfl
@[simp] theorem Xs:lay.tt 200=some ⟨.iface,1,16,.nilIface,[]⟩:=rfl
@[simp] theorem Xt:lay.tt 203=some ⟨.iface,1,16,.nilIface,[]⟩:=rfl
@[simp] theorem Xu:lay.tt 205=some ⟨.iface,1,16,.nilIface,[]⟩:=rfl
@[simp] theorem Xv:lay.tt 206=some ⟨.slice 126,1,24,(.slice none 0 0),[]⟩:=rfl
@[simp] theorem Xw:lay.tt 215=some ⟨.pointer 135,1,8,(.pointer none),[]⟩:=rfl
@[simp] theorem Xx:lay.tt 226=some ⟨.struct,4,40,(.agg #[(.pointer none),(.pointer none),(.pointer none),(.string ByteArray.empty)]),[(0,1,17),(1,1,17),(2,1,17),(3,1,9)]⟩:=rfl
@[simp] theorem Xy:lay.tt 227=some ⟨.array 0 16,0,0,(.agg #[]),[]⟩:=rfl
@[simp] theorem Xz:lay.tt 229=some ⟨.struct,0,0,(.agg #[]),[(0,0,227)]⟩:=rfl
@[simp] theorem XA:lay.tt 231=some ⟨.int .u8,1,1,(.int .u8 0),[]⟩:=rfl
@[simp] theorem XB:lay.tt 232=some ⟨.func,1,8,.nilFunc,[]⟩:=rfl
@[simp] theorem XC:lay.tt 233=some ⟨.pointer 5,1,8,(.pointer none),[]⟩:=rfl
@[simp] theorem XD:lay.tt 234=some ⟨.int .i32,1,4,(.int .i32 0),[]⟩:=rfl
@[simp] theorem XE:lay.tt 235=some ⟨.int .i32,1,4,(.int .i32 0),[]⟩:=rfl
@[simp] theorem XF:lay.tt 237=some ⟨.struct,11,48,(.agg #[(.int .u64 0),(.int .u64 0),(.int .u32 0),(.int .u8 0),(.int .u8 0),(.int .u8 0),(.int .u8 0),.nilFunc,(.pointer none),(.int .i32 0),(.int .i32 0)]),[(0,1,12),(1,1,12),(2,1,131),(3,1,231),(4,1,5),(5,1,5),(6,1,174),(7,1,232),(8,1,233),(9,1,234),(10,1,235)]⟩:=rfl
@[simp] theorem XG:lay.tt 238=some ⟨.int .u8,1,1,(.int .u8 0),[]⟩:=rfl
end Go.Proofs.YtigilmjkokbblaaGreatDoor
namespace Go.Proofs.YtigilmjkokbblaaGreatDoor
open Tryz (prog)
open Go.bd
abbrev VM:List Entry:=[⟨4,.take [0,1,2,3,4,5,6,7,8] true (.done)⟩]
abbrev VN:List Entry:=[⟨6,.take [0,1,2,3,4,5,6,7,8,9] false (.one 10 (.take [11] true (.done)))⟩]
abbrev Qd:List Entry:=[⟨8,.take [0,1,2,3,4,5,6] true (.done)⟩]
abbrev QO:List Entry:=[⟨6,.take [0,1,2,3] true (.done)⟩]
abbrev VO:List Entry:=[⟨8,.take [0,1,2,3,4,5,6,7,8,9,10,11,12,13,14] true (.done)⟩,⟨11,.take [0,1,3,4,5,6,7,8,10] false (.one 2 (.take [9,11] false (.one 12 (.one 13 (.take [14] true (.done))))))⟩,⟨17,.take [0,1,2,3] false (.one 4 (.one 5 (.take [6] true (.done))))⟩]
abbrev VP:List Entry:=[⟨24,.take [0,1,2,3,4,5,6,7,8,9,10,11,12,13,14,15,16,17,18,19,20,21,22,23,24] true (.done)⟩,⟨29,.take [0,1,2,3,4,5,6,7,8,9,10,11,12,13,14,15,16,17,18,19,20,21,22] true (.done)⟩]
abbrev VQ:List Entry:=[⟨4,.take [0,1,2,3,4,5,6,7] false (.one 8 (.take [9] true (.done)))⟩]
abbrev TV:List Entry:=[⟨7,.take [0,1,2,3] true (.done)⟩]
abbrev VR:List Entry:=[⟨1,.take [0,1,2,3,4,5,6,7,8,9,10,11,12,13,14,15,16,17] false (.one 18 (.take [19] true (.done)))⟩]
abbrev TW:List Entry:=[⟨4,.take [0,2,4] false (.take [1] true (.one 3 (.one 5 (.done))))⟩,⟨5,.take [0,1,2] false (.one 3 (.one 4 (.take [5,6,8,9,10,12,15,16,17] false (.both 7 (.both 11 (.both 13 (.both 14 (.one 18 (.one 19 (.take [20,21] true (.done)))) (.one 18 (.one 14 (.one 19 (.take [20,21] true (.done)))))) (.one 18 (.one 13 (.one 14 (.one 19 (.take [20,21] true (.done))))))) (.both 13 (.both 11 (.both 14 (.one 18 (.one 19 (.take [20,21] true (.done)))) (.one 18 (.one 14 (.one 19 (.take [20,21] true (.done)))))) (.one 18 (.one 11 (.one 14 (.one 19 (.take [20,21] true (.done))))))) (.one 18 (.both 11 (.one 13 (.one 14 (.one 19 (.take [20,21] true (.done))))) (.one 13 (.one 11 (.one 14 (.one 19 (.take [20,21] true (.done)))))))))) (.both 11 (.both 7 (.both 13 (.both 14 (.one 18 (.one 19 (.take [20,21] true (.done)))) (.one 18 (.one 14 (.one 19 (.take [20,21] true (.done)))))) (.one 18 (.one 13 (.one 14 (.one 19 (.take [20,21] true (.done))))))) (.both 13 (.both 7 (.both 14 (.one 18 (.one 19 (.take [20,21] true (.done)))) (.one 18 (.one 14 (.one 19 (.take [20,21] true (.done)))))) (.both 14 (.both 7 (.one 18 (.one 19 (.take [20,21] true (.done)))) (.one 18 (.one 7 (.one 19 (.take [20,21] true (.done)))))) (.one 18 (.both 7 (.one 14 (.one 19 (.take [20,21] true (.done)))) (.one 14 (.one 7 (.one 19 (.take [20,21] true (.done))))))))) (.one 18 (.both 7 (.one 13 (.one 14 (.one 19 (.take [20,21] true (.done))))) (.one 13 (.both 7 (.one 14 (.one 19 (.take [20,21] true (.done)))) (.one 14 (.one 7 (.one 19 (.take [20,21] true (.done))))))))))) (.both 13 (.both 7 (.both 11 (.both 14 (.one 18 (.one 19 (.take [20,21] true (.done)))) (.one 18 (.one 14 (.one 19 (.take [20,21] true (.done)))))) (.one 18 (.one 11 (.one 14 (.one 19 (.take [20,21] true (.done))))))) (.both 11 (.both 7 (.both 14 (.one 18 (.one 19 (.take [20,21] true (.done)))) (.one 18 (.one 14 (.one 19 (.take [20,21] true (.done)))))) (.both 14 (.both 7 (.one 18 (.one 19 (.take [20,21] true (.done)))) (.one 18 (.one 7 (.one 19 (.take [20,21] true (.done)))))) (.one 18 (.both 7 (.one 14 (.one 19 (.take [20,21] true (.done)))) (.one 14 (.one 7 (.one 19 (.take [20,21] true (.done))))))))) (.one 18 (.both 7 (.one 11 (.one 14 (.one 19 (.take [20,21] true (.done))))) (.one 11 (.both 7 (.one 14 (.one 19 (.take [20,21] true (.done)))) (.one 14 (.one 7 (.one 19 (.take [20,21] true (.done))))))))))) (.one 18 (.both 7 (.both 11 (.one 13 (.one 14 (.one 19 (.take [20,21] true (.done))))) (.one 13 (.one 11 (.one 14 (.one 19 (.take [20,21] true (.done))))))) (.both 11 (.both 7 (.one 13 (.one 14 (.one 19 (.take [20,21] true (.done))))) (.one 13 (.both 7 (.one 14 (.one 19 (.take [20,21] true (.done)))) (.one 14 (.one 7 (.one 19 (.take [20,21] true (.done)))))))) (.one 13 (.both 7 (.one 11 (.one 14 (.one 19 (.take [20,21] true (.done))))) (.one 11 (.both 7 (.one 14 (.one 19 (.take [20,21] true (.done)))) (.one 14 (.one 7 (.one 19 (.take [20,21] true (.done))))))))))))))))))⟩]
abbrev TX:List Entry:=[⟨1,.take [0,1,2,3,4,5] true (.one 6 (.done))⟩]
abbrev TY:List Entry:=[⟨3,.take [0,1,2,3] false (.one 4 (.one 5 (.take [6,7,8,9,10] true (.done))))⟩,⟨6,.take [0,1,2,3,4,5] true (.one 6 (.done))⟩]
abbrev TZ:List Entry:=[⟨1,.take [0,1,2,3,4,5,6,7,8,9] true (.done)⟩]
abbrev T0:List Entry:=[⟨4,.take [0,1,2,3,4,5,6,7,9,10,11,12] false (.both 8 (.one 13 (.one 14 (.take [15,16] true (.done)))) (.one 13 (.one 8 (.one 14 (.take [15,16] true (.done))))))⟩,⟨6,.take [0,1,2,3,4,5,6,7,8,10,11,12,14,16] false (.take [9,13] true (.one 15 (.one 17 (.done))))⟩]
abbrev T2:List Entry:=[⟨4,.take [0,1,2,3,4,5,6,7,8,9,10,11,12,13,14,15,16,17,18,19,20] true (.done)⟩]
abbrev T3:List Entry:=[⟨4,.take [0,1,2,3,4,5,6,7,8,9,10,11,12,13,14,15,16,17,18,19,20,21,22] false (.both 23 (.one 24 (.one 25 (.one 26 (.done)))) (.one 24 (.one 23 (.one 25 (.one 26 (.done))))))⟩,⟨5,.take [0,1,2,3,4,5,6,7,8,9,10,11,12,13,14,15,16,17,18,19,20,21,22,23,24,26,27] false (.one 25 (.one 28 (.one 29 (.take [30,31,32] true (.done)))))⟩]
attribute [simp] Nu
abbrev int(n:Int):AV:=.lit (.int .i64 n)
abbrev u8(n:Int):AV:=.lit (.int .u8 n)
abbrev bool(b:Bool):AV:=.lit (.bool b)
abbrev ints(l:List Int):AV:=.sl 1 (l.map int) .any
abbrev rows(l:List (List Int)):AV:=.sl 1 (l.map ints) .any
structure gX where
 hour:Int
 place:Int
 bE:Int
 marks:List Int
 aQ:Int
 fj:Int
 deriving DecidableEq
structure Fr where
 aA:List gX
 roads:List (List Int)
 bH:Int
 hH:Int
 dO:Int
 most:Int
 deriving DecidableEq
abbrev aW(e:gX):AV:=.agg [int e.hour,int e.place,int e.bE,ints e.marks,int e.aQ,int e.fj]
abbrev iQ(l:List gX):AV:=.sl 6 (l.map aW) .any
abbrev bO(f:Fr):List AV:=[iQ f.aA,rows f.roads,int f.bH,int f.hH,int f.dO,int f.most]
abbrev aC(f:Fr):AV:=.agg (bO f)
abbrev iu(b mb:Nat)(f:Fr)(o:Nat):AV:=.kp b [iQ f.aA,rows f.roads,int f.bH,int f.hH,int f.dO,int f.most,.lit (.int .i32 0),.lit (.int .u32 0),.map mb] [6,7] o
def dz(a b c:Int):Bool:=decide (b<=a) && decide (a<=c)
def mL:Option Int->Int->Bool
 |some q,h=>decide (h<=q)
 |none,_=>false
def mw:Option Int->List Int->Int
 |_,[]=>0
 |p,h::l=>if dz h 0 4=false then 3 else if mL p h=true then 5 else mw (some h) l
def bf(places:Int)(e:gX):Int:=
 if dz e.hour 0 72=false then 1 else if dz e.place 0 (places-1)=false then 3 else if dz e.bE 0 5=false then 1 else if mw none e.marks≠0 then mw none e.marks
 else if dz e.aQ 0 30=false then 1 else if dz e.fj 0 2=false then 8 else 0
def dX(f:gX->Int):List gX->Int
 |[]=>0
 |d::l=>if f d=0 then dX f l else f d
theorem Gl(l:List Int)(i:Nat)(h:i<l.length)(p:Option Int):mw p (l.drop i)=if dz l[i] 0 4=false then 3 else if mL p l[i]=true then 5 else mw (some l[i]) (l.drop (i+1)):=by rw[List.drop_eq_getElem_cons h,mw]
theorem uS(f:gX->Int)(l:List gX)(i:Nat)(h:i<l.length):dX f (l.drop i)=if f l[i]=0 then dX f (l.drop (i+1))else f l[i]:=by rw[List.drop_eq_getElem_cons h,dX]
theorem BV{α:Type}{l a:List α}{k:Nat}(g:k<l.length)(g':k<a.length)(h:l.take k=a.take k)(e:l[k]=a[k]):l.take (k+1)=a.take (k+1):=by rw[List.take_succ_eq_append_getElem g,List.take_succ_eq_append_getElem g',h,e]
def rd(r:List (List Int))(i j:Nat):Int:=(r.getD i []).getD j 0
def cx(r:List (List Int))(i j:Nat):Bool:=rd r i i !=0||rd r i j !=rd r j i||(List.range r.length).any λk=>decide (rd r i j>rd r i k+rd r k j)
def iJ(n:Nat)(l:List Int):Int:=if l.length≠n then 9 else if l.all (dz · 0 9)then 0 else 1
def eV(n:Nat):List (List Int)->Int
 |[]=>0
 |l::r=>if iJ n l=0 then eV n r else iJ n l
def fe(r:List (List Int)):Int:=
 if r.length<1 then 7 else if 3<r.length then 6 else if eV r.length r≠0 then eV r.length r
 else if(List.range r.length).any (λi=>(List.range r.length).any λj=>cx r i j)then 9 else 0
def check(f:Fr):Int:=
 if fe f.roads≠0 then fe f.roads else if(dz f.bH 0 3 && dz f.hH 0 3)=false then 1 else if f.hH<f.bH then 5
 else if(dz f.dO 1 6 && dz f.most 1 6)=false then 1 else if(6:Int)<f.aA.length then 6 else dX (bf f.roads.length) f.aA
theorem wJ(n:Nat)(l:List (List Int))(i:Nat)(h:i<l.length):eV n (l.drop i)=if iJ n l[i]=0 then eV n (l.drop (i+1))else iJ n l[i]:=by rw[List.drop_eq_getElem_cons h,eV]
structure Fr.Fits(f:Fr):Prop where
 aA:f.aA.length<1152921504606846976
 roads:f.roads.length<1152921504606846976
 row:∀r∈f.roads,r.length<1152921504606846976
 marks:∀e∈f.aA,e.marks.length<1152921504606846976
def jj(i:Int):List Int->Int->Int
 |[],_=>-1
 |x::l,v=>if x=v then i else jj (i+1) l v
def qF(l:List Int)(v:Int):Int:=jj 0 l v
theorem zu(l:List Int)(v:Int)(i:Nat)(h:i<l.length)(c:Int):jj c (l.drop i) v=if l[i]=v then c else jj (c+1) (l.drop (i+1)) v:=by rw[List.drop_eq_getElem_cons h,jj]
theorem yf(v:Int):∀(l:List Int) (i:Int),0<=i->(0<=jj i l v↔v∈l)
 |[],i,h=>by simp[jj]
 | x::l,i,h=>by
   unfold jj;split
   . next e=>subst e;simp[h]
   . next e=>rw[yf v l (i+1) (by omega)];simp[Ne.symm e]
theorem lW(l:List Int)(v:Int):0<=qF l v↔v∈l:=yf v l 0 (Int.le_refl _)
def fQ(f:Fr)(e:gX):List Int:=if e.fj≠0 then(List.range (f.hH-f.bH+1).toNat).map λi:Nat=>e.aQ-f.hH+(i:Int)else[]
def bI(f:Fr)(e:gX):List Int:=if e.fj≠1/\e.aQ∉fQ f e then fQ f e++[e.aQ]else fQ f e
def cO(first:List Int)(others:List (List Int)):List Int:=first.filter λx=>others.all λl=>decide (x∈l)
def bp(f:Fr)(i:Int):gX:=f.aA.getD i.toNat ⟨0,0,0,[],0,0⟩
def dT(f:Fr)(l:List Int):List Int:=match l.map λi=>bI f (bp f i)with|[]=>[]|a::r=>cO a r
def fI(f:Fr):Option Int->List Int->Int
 |_,[]=>0
 |p,n::l=>if dz n 0 (f.aA.length-1)=false then 3 else if mL p n=true then 5 else fI f (some n) l
def lU(f:Fr)(l:List Int):Int:=if l.length=0 then 7 else fI f none l
theorem wM(f:Fr)(l:List Int)(i:Nat)(h:i<l.length)(p:Option Int):fI f p (l.drop i)=if dz l[i] 0 (f.aA.length-1)=false then 3 else if mL p l[i]=true then 5 else fI f (some l[i]) (l.drop (i+1)):=by rw[List.drop_eq_getElem_cons h,fI]
abbrev T4(n:Int):AV:=if n=0 then .lit .nilIface else .lg 123 (.agg [int n])
def T5(a b:Int):Int:=IntKind.u8.wrap (((BitVec.ofInt 8 a|||BitVec.ofInt 8 b).toNat:Nat):Int)
def Hn(a b:Int):Int:=IntKind.u8.wrap (((BitVec.ofInt 8 a &&& BitVec.ofInt 8 b).toNat:Nat):Int)
def yg(a b:Int):Int:=IntKind.u8.wrap (((BitVec.ofInt 8 a ^^^ BitVec.ofInt 8 b).toNat:Nat):Int)
def PN(a b:Int):Int:=IntKind.u8.wrap (a-b)
theorem D9(a b:Int):qE .or .u8 a b=some (.int .u8 (T5 a b)):=rfl
theorem Aw(a b:Int):qE .and .u8 a b=some (.int .u8 (Hn a b)):=rfl
theorem IG(a b:Int):qE .xor .u8 a b=some (.int .u8 (yg a b)):=rfl
theorem II(a b:Int):qE .sub .u8 a b=some (.int .u8 (PN a b)):=rfl
def cL(m n:Int):Int:=T5 m (IntKind.u8.wrap (2 ^ min n.toNat IntKind.u8.bits))
def ni(m n:Int):Bool:=Hn (m.fdiv (2 ^ min n.toNat IntKind.u8.bits)) 1==1
def eS(m:Int):List Int:=((List.range 6).map λn:Nat=>(n:Int)).filter λn=>ni m n
def br(l:List Int):Int:=l.foldl cL 0
end Go.Proofs.YtigilmjkokbblaaGreatDoor
namespace Go.Proofs.YtigilmjkokbblaaGreatDoor
open Tryz (prog)
open Go.bd Go.Conc
set_option maxHeartbeats 1000000
variable{m:Mo}{σ:aa}{KF:dV->aa->Prop}
theorem dU{a c d:Int}(h:KF (.val (bool (dz a c d))) σ):aB prog m 54 [int a,int c,int d] σ KF:=by
 unfold dz at h;refine fs [] 3 Tryz.func54 rfl rfl (by rfl) (by kernel_rfl) ?_;simp[Tryz.f54];refine vv.intro (λb=>?_) (λb=>?_)<;>simp[b]
 . exact .done (by simpa[b]using h)
 . exact .done (by simpa[b]using h)
theorem LS{l:List Int}{v:Int}(n:l.length<1152921504606846976)(h:KF (.val (int (qF l v))) σ):aB prog m 112 [ints l,int v] σ KF:=by
 refine fs [] 2 Tryz.func112 rfl rfl (by rfl) (by kernel_rfl) ?_;simp[Tryz.f112];refine ab.loop l.length (λk s=>∃env,s=⟨env,σ,[],.no⟩/\env 0=ints l/\env 1=int v/\env 7=int l.length/\env 8=int k/\jj 0 l v=jj k (l.drop k) v) ⟨_,rfl,by simp⟩ ?_;rintro o k _ p ⟨env,rfl,a,b,c,d,f⟩ j;refine rn ?_;simp[a,b,c,d];refine aI.intro (λi=>?_) (λi=>?_)<;>(try simp[-Int.not_lt,-Int.not_le,-Nat.not_lt,-Nat.not_le]at i)<;>(try simp[a,b,c,d,i])
 . rw[zu l v k i]at f
   refine aI.intro (λg=>?_) (λg=>?_)<;>(try simp[-Int.not_lt,-Int.not_le,-Nat.not_lt,-Nat.not_le]at g)<;>(try simp[g]at f)<;>(try simp[a,b,c,d,g])<;>(try exact .done f)
   . subst g
     unfold qF at h;rw[f]at h;exact .done h
   . exact⟨by omega,j _ i ⟨_,rfl,by simp[a,b,c,d],by simp[a,b,c,d],by simp[a,b,c,d],by simp,by rw[f,if_neg (λe=>g e.symm)];simp⟩⟩
 . have:k=l.length:=by omega
   subst this;unfold qF at h;rw[f]at h;simp[jj]at h;exact .done h
theorem kL{l:List Int}{v:Int}(a:l.length<1152921504606846976)(h:KF (.val (bool (decide (v∈l)))) σ):aB prog m 90 [ints l,int v] σ KF:=by
 refine fs [] 2 Tryz.func90 rfl rfl (by rfl) (by kernel_rfl) ?_;simp[Tryz.f90];refine cf Tryz.func112 rfl (LS a ?_);refine rn ?_;simp;rw[<-decide_eq_decide.2 (lW l v)]at h;exact .done h
theorem cP{a b:List Int}(r:a.length<1152921504606846976)(hb:b.length<1152921504606846976)(h:KF (.val (bool (decide (a=b)))) σ):aB prog m 17 [ints a,ints b] σ KF:=by
 refine fs VM 2 Tryz.func17 rfl rfl (by rfl) (by kernel_rfl) ?_
 simp[Tryz.f17];refine ab.loop a.length (λk s=>∃env,s=⟨env,σ,[],.no⟩/\env 0=ints a/\env 1=ints b/\env 5=int k/\k<=b.length/\a.take k=b.take k) ⟨_,rfl,by simp⟩ ?_
 rintro t k _ u ⟨env,rfl,c,d,f,o,l⟩ p
 refine rn ?_;simp[c,d,f];refine vv.intro (λg=>?_) (λg=>?_)<;>(try simp[-Int.not_lt,-Int.not_le,-Nat.not_lt,-Nat.not_le]at g)<;>(try simp[c,d,f,g])
 . refine aI.intro (λj=>?_) (λj=>?_)<;>(try simp[-Int.not_lt,-Int.not_le,-Nat.not_lt,-Nat.not_le]at j)<;>(try simp[c,d,f,j,g])
   . refine rn ?_
     simp[c,d,f];refine aI.intro (λi=>?_) (λi=>?_)<;>(try simp[-Int.not_lt,-Int.not_le,-Nat.not_lt,-Nat.not_le]at i)<;>(try simp[c,d,f,i])
     . have:a≠b:=λe=>by subst e;exact i rfl
       simp[this]at h;exact .done h
     . refine⟨by omega,p _ g ⟨_,rfl,by simp[c,d,f],by simp[c,d,f],by simp,by omega,BV g j l i⟩⟩
   . have:a≠b:=λe=>by subst e;omega
     have n:((a.length:Int)==b.length)=false:=by rw[beq_eq_false_iff_ne];omega
     rw[n];exact .done (by simpa[this]using h)
 . have:k=a.length:=by omega
   subst this;rw[List.take_length]at l
   by_cases e:a.length=b.length
   . have:a=b:=by rw[l,e,List.take_length]
     exact .done (by simpa[this,e]using h)
   . have:a≠b:=λq=>e (by rw[q])
     have n:((a.length:Int)==b.length)=false:=by rw[beq_eq_false_iff_ne];omega
     rw[n];exact .done (by simpa[this]using h)
theorem Ea{n:Int}(h:KF (.val (bool false)) σ):aB prog m 110 [int n] σ KF:=by
 refine fs [] 1 Tryz.func110 rfl rfl (by rfl) (by kernel_rfl) ?_;simp[Tryz.f110];exact .done h
def A8(x y:Int):Int:=if x<y then -1 else if y<x then 1 else 0
theorem FO{x y:Int}(h:KF (.val (int (A8 x y))) σ):aB prog m 87 [int x,int y] σ KF:=by
 unfold A8 at h;refine fs [] 2 Tryz.func87 rfl rfl (by rfl) (by kernel_rfl) ?_;simp[Tryz.f87];refine cf Tryz.func110 rfl (Ea ?_);refine rn ?_;simp;refine cf Tryz.func110 rfl (Ea ?_);refine rn ?_;simp;refine aI.intro (λa=>?_) (λa=>?_)<;>(try simp[-Int.not_lt,-Int.not_le,-Nat.not_lt,-Nat.not_le]at a)<;>(try simp[a]at h)<;>(try simp[a])<;>(try exact .done h);refine aI.intro (λb=>?_) (λb=>?_)<;>(try simp[-Int.not_lt,-Int.not_le,-Nat.not_lt,-Nat.not_le]at b)<;>(try simp[b]at h)<;>(try simp[b])<;>(try exact .done h)
theorem zI{l:List Int}(g:l.length<1152921504606846976)(hb:∀x∈l,-1<=x/\x<=1000)(h:KF (.val (int (l.foldl (λn k=>max n (k+1)) 0))) σ):aB prog m 65 [ints l] σ KF:=by
 refine fs [] 1 Tryz.func65 rfl rfl (by rfl) (by kernel_rfl) ?_;simp[Tryz.f65];refine ab.loop l.length (λk s=>∃env,s=⟨env,σ,[],.no⟩/\env 3=int ((l.take k).foldl (λn k=>max n (k+1)) 0)/\env 6=ints l/\env 7=int l.length/\env 8=int k) ⟨_,rfl,by simp⟩ ?_;rintro i k _ j ⟨env,rfl,b,c,d,e⟩ f;refine rn ?_;simp[b,c,d,e];refine aI.intro (λa=>?_) (λa=>?_)<;>(try simp[-Int.not_lt,-Int.not_le,-Nat.not_lt,-Nat.not_le]at a)<;>(try simp[b,c,d,e,a])
 . have:=hb _ (List.getElem_mem a)
   refine⟨by omega,?_⟩;refine⟨by omega,f _ a ⟨_,rfl,?_,by simp[b,c,d,e],by simp[b,c,d,e],by simp⟩⟩;rw[List.take_succ_eq_append_getElem a,List.foldl_append];simp[b];split<;>omega
 . have:k=l.length:=by omega
   subst this;rw[List.take_length];exact .done h
theorem m7{e:gX}{places:Int}(w:0<=places/\places<1152921504606846976)(x:e.marks.length<1152921504606846976)(h:KF (.val (int (bf places e))) σ):aB prog m 55 [aW e,int places] σ KF:=by
 unfold bf at h;refine fs [] 2 Tryz.func55 rfl rfl (by rfl) (by kernel_rfl) ?_;simp[Tryz.f55];refine cf Tryz.func54 rfl (dU ?_);refine rn ?_;simp;refine aI.intro (λl=>?_) (λl=>?_)<;>(try simp[-Int.not_lt,-Int.not_le,-Nat.not_lt,-Nat.not_le]at l)<;>(try simp[l]at h)<;>(try simp[l])<;>(try exact .done h);refine⟨by omega,?_⟩;refine cf Tryz.func54 rfl (dU ?_);refine rn ?_;simp;refine aI.intro (λn=>?_) (λn=>?_)<;>(try simp[-Int.not_lt,-Int.not_le,-Nat.not_lt,-Nat.not_le]at n)<;>(try simp[n]at h)<;>(try simp[n])<;>(try exact .done h);refine cf Tryz.func54 rfl (dU ?_);refine rn ?_;simp;refine aI.intro (λo=>?_) (λo=>?_)<;>(try simp[-Int.not_lt,-Int.not_le,-Nat.not_lt,-Nat.not_le]at o)<;>(try simp[o]at h)<;>(try simp[o])<;>(try exact .done h)
 refine ab.loop e.marks.length (λk s=>∃env,s=⟨env,σ,[],.no⟩/\env 2=.cp (aW e) 0/\env 22=ints e.marks/\env 23=int e.marks.length/\env 24=int k/\mw none e.marks=mw (if k=0 then none else e.marks[k-1]?) (e.marks.drop k)) ⟨_,rfl,by simp⟩ ?_;rintro y k _ z ⟨env,rfl,d,a,b,c,f⟩ q;refine rn ?_;simp[d,a,b,c];refine aI.intro (λg=>?_) (λg=>?_)<;>(try simp[-Int.not_lt,-Int.not_le,-Nat.not_lt,-Nat.not_le]at g)<;>(try simp[d,a,b,c,g])
 . rw [Gl _ k g]at f
   refine cf Tryz.func54 rfl (dU ?_);refine rn ?_;simp[d,a,b,c];refine aI.intro (λi=>?_) (λi=>?_)<;>(try simp[-Int.not_lt,-Int.not_le,-Nat.not_lt,-Nat.not_le]at i)<;>(try simp[i]at f)<;>(try simp[d,a,b,c,i])<;>(try exact .done f)
   . refine vv.intro (λj=>?_) (λj=>?_)<;>(try simp[-Int.not_lt,-Int.not_le,-Nat.not_lt,-Nat.not_le]at j)<;>(try simp[j]at f)<;>(try simp[d,a,b,c,j,g])<;>(try exact .done f)
     . have t:(k:Int)-1=((k-1:Nat):Int):=by omega
       have r:k-1<e.marks.length:=by omega
       have u:¬k=0:=by omega
       simp[t,r];repeat refine⟨by omega,?_⟩
       try simp[r,u,mL]at f
       refine aI.intro (λp=>?_) (λp=>?_)<;>(try simp[-Int.not_lt,-Int.not_le,-Nat.not_lt,-Nat.not_le]at p)<;>(try simp[p]at f)<;>(try simp[d,a,b,c,p])<;>(try exact .done f)
       . simp[f]at h
         exact .done h
       . refine⟨by omega,q _ g ⟨_,rfl,by simp[d,a,b,c],by simp[d,a,b,c],by simp[d,a,b,c],by simp,?_⟩⟩
         simp[f,g]
     . have v:k=0:=by omega
       subst v;simp[mL]at f;refine⟨by omega,q _ g ⟨_,rfl,by simp[d,a,b,c],by simp[d,a,b,c],by simp[d,a,b,c],by simp,?_⟩⟩;simp[f,g]
   . simp[f]at h
     exact .done h
 . have:k=e.marks.length:=by omega
   subst this;simp[mw]at f;simp[f]at h;refine cf Tryz.func54 rfl (dU ?_);refine rn ?_;simp[d,a,b,c];refine aI.intro (λi=>?_) (λi=>?_)<;>(try simp[-Int.not_lt,-Int.not_le,-Nat.not_lt,-Nat.not_le]at i)<;>(try simp[i]at h)<;>(try simp[d,a,b,c,i])<;>(try exact .done h);refine cf Tryz.func54 rfl (dU ?_);refine rn ?_;simp[d,a,b,c];refine aI.intro (λj=>?_) (λj=>?_)<;>(try simp[-Int.not_lt,-Int.not_le,-Nat.not_lt,-Nat.not_le]at j)<;>(try simp[j]at h)<;>(try simp[d,a,b,c,j])<;>(try exact .done h)
theorem gS{n:Nat}:∀{r:List (List Int)},eV n r=0->∀l∈r,l.length=n/\∀x∈l,dz x 0 9=true
 |[],_,l,c=>by simp at c
 | a :: r,h,l,c=>by
   unfold eV at h;split at h
   . next b=>
     rcases List.mem_cons.1 c with rfl|c
     . unfold iJ at b
       split at b
       . cases b
       . next d=>
         split at b
         . next e=>exact⟨by simpa using d,λx f=>List.all_eq_true.1 e x f⟩
         . cases b
     . exact gS h l c
   . next b=>exact absurd h b
theorem dA{r:List (List Int)}{i j:Nat}(a:i<r.length)(b:j<r[i].length):rd r i j=r[i][j]:=by simp[rd,List.getD_eq_getElem?_getD,a,b]
theorem iC{a b c:Int}(h:dz a b c=true):b<=a/\a<=c:=by simpa[dz]using h
theorem y9{r:List (List Int)}(hr:r.length<1152921504606846976)(hl:∀l∈r,l.length<1152921504606846976)(h:KF (.val (int (fe r))) σ):aB prog m 53 [rows r] σ KF:=by
 unfold fe at h;refine fs VP 1 Tryz.func53 rfl rfl (by rfl) (by kernel_rfl) ?_
 simp[Tryz.f53];refine aI.intro (λg1=>?_) (λg1=>?_)<;>simp at g1<;>simp[g1]
 . rw[if_pos (show r.length<1 by omega)]at h
   exact .done h
 refine aI.intro (λg2=>?_) (λg2=>?_)<;>simp at g2<;>simp[g2]
 . have Z:¬r.length<1:=by omega
   have T:3<r.length:=by omega
   rw[if_neg (show ¬r.length<1 by omega),if_pos T]at h
   exact .done h
 have Z:¬r.length<1:=by omega
 have T:¬3<r.length:=by omega
 rw[if_neg Z,if_neg T]at h;refine ab.loop r.length (λk s=>∃env,s=⟨env,σ,[],.no⟩/\env 0=rows r/\env 19=rows r/\env 20=int r.length/\env 21=int k/\eV r.length r=eV r.length (r.drop k)) ⟨_,rfl,by simp⟩ ?_
 rintro c0 k _ hk ⟨env,rfl,n,t,u,v,E⟩ ih
 refine rn ?_;simp[n,t,u,v];refine aI.intro (λR=>?_) (λR=>?_)<;>(try simp[-Int.not_lt,-Int.not_le,-Nat.not_lt,-Nat.not_le]at R)<;>(try simp[n,t,u,v,R])
 . rw [wJ _ _ k R]at E
   obtain⟨l,N⟩:∃l,l=r[k]:=⟨_,rfl⟩;simp only[<-N]at E ⊢;have a9:l.length<1152921504606846976:=hl l (by rw[N];exact List.getElem_mem R)
   refine aI.intro (λx=>?_) (λx=>?_)<;>simp at x<;>simp[x]
   . have G:l.length≠r.length:=λe=>x (by rw[e])
     simp[iJ,G]at E;simp[E]at h;exact .done h
   have G:l.length=r.length:=by omega
   refine ab.loop l.length (λj s=>∃env,s=⟨env,σ,[],.no⟩/\env 0=rows r/\env 19=rows r/\env 20=int r.length/\env 21=int k/\env 30=ints l/\env 31=int l.length/\env 32=int j/\(l.take j).all (dz · 0 9)=true) ⟨_,rfl,by simp[n,t,u,v,G,<-N]⟩ ?_
   clear n t u v
   rintro c1 j _ S ⟨env,rfl,n,t,u,v,y,z,A,H⟩ O
   refine rn ?_;simp[n,t,u,v,y,z,A];refine aI.intro (λC=>?_) (λC=>?_)<;>(try simp[-Int.not_lt,-Int.not_le,-Nat.not_lt,-Nat.not_le]at C)<;>(try simp[n,t,u,v,y,z,A,C])
   . refine cf Tryz.func54 rfl (dU ?_)
     refine rn ?_;simp[n,t,u,v,y,z,A];refine aI.intro (λF=>?_) (λF=>?_)<;>(try simp[-Int.not_lt,-Int.not_le,-Nat.not_lt,-Nat.not_le]at F)<;>(try simp[n,t,u,v,y,z,A,F])
     . refine⟨by omega,O _ C ⟨_,rfl,by simp[n,t,u,v,y,z,A],by simp[n,t,u,v,y,z,A],by simp[n,t,u,v,y,z,A],by simp[n,t,u,v,y,z,A],by simp[n,t,u,v,y,z,A],by simp[n,t,u,v,y,z,A],by simp,?_⟩⟩
       rw[List.take_succ_eq_append_getElem C,List.all_append,H];simp[F]
     . have:l.all (dz · 0 9)=false:=by
        rw[List.all_eq_false];exact⟨_,List.getElem_mem C,by simp[F]⟩
       simp[iJ,G,this]at E;simp[E]at h;exact .done h
   . have:j=l.length:=by omega
     subst this;rw[List.take_length]at H;have a7:iJ r.length l=0:=by unfold iJ;rw[if_neg (by simp[G]),if_pos H]
     rw[if_pos a7]at E;exact⟨by omega,ih _ R ⟨_,rfl,by simp[n,t,u,v,y,z,A],by simp[n,t,u,v,y,z,A],by simp[n,t,u,v,y,z,A],by simp,E⟩⟩
 have:k=r.length:=by omega
 subst this;simp[eV]at E;rw[if_neg (by rw[E];simp)]at h
 clear ih;have D:∀(i:Nat) (L:i<r.length),r[i].length=r.length:=λi L=>(gS E _ (List.getElem_mem L)).1
 have U:∀(i:Nat) (L:i<r.length) (j:Nat) (S:j<r[i].length),0<=r[i][j]/\r[i][j]<=9:=λi L j S=>iC ((gS E _ (List.getElem_mem L)).2 _ (List.getElem_mem S))
 refine ab.loop r.length (λi s=>∃env,s=⟨env,σ,[],.no⟩/\env 0=rows r/\env 41=rows r/\env 42=int r.length/\env 43=int i/\∀i'<i,∀j<r.length,cx r i' j=false) ⟨_,rfl,by simp[n]⟩ ?_
 clear n t u v
 rintro c1 i _ L ⟨env,rfl,n,a,b,c,I⟩ ih
 refine rn ?_;simp[n,a,b,c];refine aI.intro (λx=>?_) (λx=>?_)<;>(try simp[-Int.not_lt,-Int.not_le,-Nat.not_lt,-Nat.not_le]at x)<;>(try simp[n,a,b,c,x])
 . refine ab.loop r.length (λj s=>∃env,s=⟨env,σ,[],.no⟩/\env 0=rows r/\env 41=rows r/\env 42=int r.length/\env 43=int i/\env 8=int i/\env 46=rows r/\env 47=int r.length/\env 48=int j/\∀M<j,cx r i M=false) ⟨_,rfl,by simp[n,a,b,c]⟩ ?_
   clear n a b c
   rintro c2 j _ S ⟨env,rfl,n,a,b,c,w,d,f,g,V⟩ O
   refine rn ?_;simp[n,a,b,c,w,d,f,g];refine aI.intro (λC=>?_) (λC=>?_)<;>(try simp[-Int.not_lt,-Int.not_le,-Nat.not_lt,-Nat.not_le]at C)<;>(try simp[n,a,b,c,w,d,f,g,C])
   . have q1 : i<r[i].length:=by rw[D i x];exact x
     have P:j<r[i].length:=by rw[D i x];exact C
     have q3:i<r[j].length:=by rw[D j C];exact x
     simp[n,a,b,c,w,d,f,g,x,C,q1,P,q3];refine JC.intro (λF=>?_) (λF=>?_)<;>(try simp[-Int.not_lt,-Int.not_le,-Nat.not_lt,-Nat.not_le]at F)<;>(try simp[n,a,b,c,w,d,f,g,F,x,C,q1,P,q3])
     . refine rn ?_
       simp[n,a,b,c,w,d,f,g];refine aI.intro (λW=>?_) (λW=>?_)<;>(try simp[-Int.not_lt,-Int.not_le,-Nat.not_lt,-Nat.not_le]at W)<;>(try simp[n,a,b,c,w,d,f,g,W])
       ·
        have hb:cx r i j=true:=by unfold cx;rw[dA x P,dA C q3];simp[W]
        have:((List.range r.length).any λi=>(List.range r.length).any λj=>cx r i j)=true:=List.any_eq_true.2 ⟨i,List.mem_range.2 x,List.any_eq_true.2 ⟨j,List.mem_range.2 C,hb⟩⟩
        rw[if_pos this]at h;exact .done h
       . refine ab.loop r.length (λk s=>∃env,s=⟨env,σ,[],.no⟩/\env 0=rows r/\env 41=rows r/\env 42=int r.length/\env 43=int i/\env 8=int i/\env 46=rows r/\env 47=int r.length/\env 48=int j/\env 9=int j/\env 76=rows r/\env 77=int r.length/\env 78=int k/\∀X<k,¬rd r i j>rd r i X+rd r X j) ⟨_,rfl,by simp[n,a,b,c,w,d,f,g]⟩ ?_
         clear n a b c w d f g
         rintro c3 k _ hk ⟨env,rfl,n,a,b,c,w,d,f,g,B,o,p,q,Y⟩ a8
         refine rn ?_;simp[n,a,b,c,w,d,f,g,B,o,p,q];refine aI.intro (λJ=>?_) (λJ=>?_)<;>(try simp[-Int.not_lt,-Int.not_le,-Nat.not_lt,-Nat.not_le]at J)<;>(try simp[n,a,b,c,w,d,f,g,B,o,p,q,J])
         . have p1:k<r[i].length:=by rw[D i x];exact J
           have p2:j<r[k].length:=by rw[D k J];exact C
           have b1:=U i x k p1;have b2:=U k J j p2;have f1:-9223372036854775808<=r[i][k]+r[k][j]:=by omega
           have f2:r[i][k]+r[k][j]<=9223372036854775807:=by omega
           simp[n,a,b,c,w,d,f,g,B,o,p,q,x,C,J,P,p1,p2,f1,f2];refine rn ?_;simp[n,a,b,c,w,d,f,g,B,o,p,q];refine aI.intro (λK=>?_) (λK=>?_)<;>(try simp[-Int.not_lt,-Int.not_le,-Nat.not_lt,-Nat.not_le]at K)<;>(try simp[n,a,b,c,w,d,f,g,B,o,p,q,K])
           . have hb:cx r i j=true:=by
              unfold cx;have:((List.range r.length).any λk=>decide (rd r i j>rd r i k+rd r k j))=true:=List.any_eq_true.2 ⟨k,List.mem_range.2 J,by rw[dA x P,dA x p1,dA J p2];simpa using K⟩
              rw[this];simp
             have:((List.range r.length).any λi=>(List.range r.length).any λj=>cx r i j)=true:=List.any_eq_true.2 ⟨i,List.mem_range.2 x,List.any_eq_true.2 ⟨j,List.mem_range.2 C,hb⟩⟩
             rw[if_pos this]at h;exact .done h
           . refine⟨by omega,a8 _ J ⟨_,rfl,by simp[n,a,b,c,w,d,f,g,B,o,p,q],by simp[n,a,b,c,w,d,f,g,B,o,p,q],by simp[n,a,b,c,w,d,f,g,B,o,p,q],by simp[n,a,b,c,w,d,f,g,B,o,p,q],by simp[n,a,b,c,w,d,f,g,B,o,p,q],by simp[n,a,b,c,w,d,f,g,B,o,p,q],by simp[n,a,b,c,w,d,f,g,B,o,p,q],by simp[n,a,b,c,w,d,f,g,B,o,p,q],by simp[n,a,b,c,w,d,f,g,B,o,p,q],by simp[n,a,b,c,w,d,f,g,B,o,p,q],by simp[n,a,b,c,w,d,f,g,B,o,p,q],by simp,λX ad=>?_⟩⟩
             by_cases e:X=k
             . subst e
               rw[dA x P,dA x p1,dA J p2];omega
             . exact Y X (by omega)
         . have:k=r.length:=by omega
           subst this;refine⟨by omega,O _ C ⟨_,rfl,by simp[n,a,b,c,w,d,f,g,B,o,p,q],by simp[n,a,b,c,w,d,f,g,B,o,p,q],by simp[n,a,b,c,w,d,f,g,B,o,p,q],by simp[n,a,b,c,w,d,f,g,B,o,p,q],by simp[n,a,b,c,w,d,f,g,B,o,p,q],by simp[n,a,b,c,w,d,f,g,B,o,p,q],by simp[n,a,b,c,w,d,f,g,B,o,p,q],by simp,λM Q=>?_⟩⟩
           by_cases e:M=j
           . subst e
             unfold cx
             have Z:((List.range r.length).any λk=>decide (rd r i M>rd r i k+rd r k M))=false:=by rw[List.any_eq_false];intro k hk;simpa using Y k (List.mem_range.1 hk)
             have T:rd r i i=0:=by rw[dA x q1];exact F
             have e3:rd r i M=rd r M i:=by rw[dA x P,dA C q3];exact W
             rw[Z,T,e3];simp
           . exact V M (by omega)
     . have e:(r[i][i]!=0)=true:=by simp[F]
       simp[n,a,b,c,w,d,f,g,e];refine rn ?_;simp[n,a,b,c,w,d,f,g]
       have hb:cx r i j=true:=by unfold cx;rw[dA x q1];simp[F]
       have:((List.range r.length).any λi=>(List.range r.length).any λj=>cx r i j)=true:=List.any_eq_true.2 ⟨i,List.mem_range.2 x,List.any_eq_true.2 ⟨j,List.mem_range.2 C,hb⟩⟩
       rw[if_pos this]at h;exact .done h
   . have:j=r.length:=by omega
     subst this;refine⟨by omega,ih _ x ⟨_,rfl,by simp[n,a,b,c,w,d,f,g],by simp[n,a,b,c,w,d,f,g],by simp[n,a,b,c,w,d,f,g],by simp,λi' al j Q=>?_⟩⟩
     by_cases e:i'=i
     . subst e;exact V j Q
     . exact I i' (by omega) j Q
 . have:i=r.length:=by omega
   subst this
   have:((List.range r.length).any λi=>(List.range r.length).any λj=>cx r i j)=false:=by rw[List.any_eq_false];intro i L;rw[Bool.not_eq_true,List.any_eq_false];intro j S;rw[I i (List.mem_range.1 L) j (List.mem_range.1 S)];simp
   rw[this]at h;exact .done (by simpa using h)
end Go.Proofs.YtigilmjkokbblaaGreatDoor

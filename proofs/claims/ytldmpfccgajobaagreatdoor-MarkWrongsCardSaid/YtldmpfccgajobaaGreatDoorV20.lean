import Derived.Test.YtldmpfccgajobaaGreatDoorProg
import Derived.Test.YtldmpfccgajobaaGreatDoorV19
set_option linter.all false
namespace Go.Proofs.YtldmpfccgajobaaGreatDoor
open Tryz (prog)
open Go.bG
set_option maxRecDepth 100000
def Ho:List (Nat × TI):=[
 (1,⟨.func,1,8,.nilFunc,[]⟩),
 (2,⟨.int .i64,1,8,(.int .i64 0),[]⟩),
 (3,⟨.int .i64,1,8,(.int .i64 0),[]⟩),
 (4,⟨.bool,1,1,(.bool false),[]⟩),
 (5,⟨.int .u8,1,1,(.int .u8 0),[]⟩),
 (6,⟨.int .u8,1,1,(.int .u8 0),[]⟩),
 (7,⟨.struct,4,24,(.agg #[(.int .i64 0),(.int .i64 0),(.bool false),(.int .u8 0)]),[(0,1,2),(1,1,3),(2,1,4),(3,1,6)]⟩),
 (8,⟨.struct,4,24,(.agg #[(.int .i64 0),(.int .i64 0),(.bool false),(.int .u8 0)]),[(0,1,2),(1,1,3),(2,1,4),(3,1,6)]⟩),
 (9,⟨.string,1,16,(.string ByteArray.empty),[]⟩),
 (10,⟨.string,1,16,(.string ByteArray.empty),[]⟩),
 (11,⟨.string,1,16,(.string ByteArray.empty),[]⟩),
 (12,⟨.int .u64,1,8,(.int .u64 0),[]⟩),
 (13,⟨.struct,2,24,(.agg #[(.string ByteArray.empty),(.int .u64 0)]),[(0,1,9),(1,1,12)]⟩),
 (14,⟨.struct,2,24,(.agg #[(.string ByteArray.empty),(.int .u64 0)]),[(0,1,9),(1,1,12)]⟩),
 (15,⟨.pointer 236,1,8,(.pointer none),[]⟩),
 (16,⟨.pointer 239,1,8,(.pointer none),[]⟩),
 (17,⟨.pointer 247,1,8,(.pointer none),[]⟩),
 (18,⟨.struct,1,8,(.agg #[(.pointer none)]),[(0,1,17)]⟩),
 (19,⟨.struct,1,8,(.agg #[(.pointer none)]),[(0,1,17)]⟩),
 (20,⟨.iface,1,16,.nilIface,[]⟩),
 (21,⟨.int .i32,1,4,(.int .i32 0),[]⟩),
 (22,⟨.slice 30,1,24,(.slice none 0 0),[]⟩),
 (23,⟨.slice 28,1,24,(.slice none 0 0),[]⟩),
 (24,⟨.struct,2,16,(.agg #[(.int .i64 0),(.int .i64 0)]),[(0,1,3),(1,1,3)]⟩),
 (25,⟨.struct,2,16,(.agg #[(.int .i64 0),(.int .i64 0)]),[(0,1,3),(1,1,3)]⟩),
 (26,⟨.struct,6,80,(.agg #[(.slice none 0 0),(.slice none 0 0),(.int .i64 0),(.int .i64 0),(.int .i64 0),(.int .i64 0)]),[(0,1,22),(1,1,23),(2,2,25),(4,1,3),(5,1,3)]⟩),
 (27,⟨.struct,6,80,(.agg #[(.slice none 0 0),(.slice none 0 0),(.int .i64 0),(.int .i64 0),(.int .i64 0),(.int .i64 0)]),[(0,1,22),(1,1,23),(2,2,25),(4,1,3),(5,1,3)]⟩),
 (28,⟨.slice 3,1,24,(.slice none 0 0),[]⟩),
 (29,⟨.struct,6,64,(.agg #[(.int .i64 0),(.int .i64 0),(.int .i64 0),(.slice none 0 0),(.int .i64 0),(.int .i64 0)]),[(0,1,3),(1,1,3),(2,1,3),(3,1,28),(4,1,3),(5,1,3)]⟩),
 (30,⟨.struct,6,64,(.agg #[(.int .i64 0),(.int .i64 0),(.int .i64 0),(.slice none 0 0),(.int .i64 0),(.int .i64 0)]),[(0,1,3),(1,1,3),(2,1,3),(3,1,28),(4,1,3),(5,1,3)]⟩),
 (31,⟨.func,1,8,.nilFunc,[]⟩),
 (32,⟨.func,1,8,.nilFunc,[]⟩),
 (33,⟨.slice 27,1,24,(.slice none 0 0),[]⟩),
 (34,⟨.func,1,8,.nilFunc,[]⟩),
 (35,⟨.pointer 79,1,8,(.pointer none),[]⟩),
 (37,⟨.func,1,8,.nilFunc,[]⟩),
 (38,⟨.int .i64,1,8,(.int .i64 0),[]⟩),
 (40,⟨.func,1,8,.nilFunc,[]⟩),
 (42,⟨.func,1,8,.nilFunc,[]⟩),
 (47,⟨.func,1,8,.nilFunc,[]⟩),
 (72,⟨.func,1,8,.nilFunc,[]⟩),
 (77,⟨.int .u64,1,8,(.int .u64 0),[]⟩),
 (79,⟨.struct,3,40,(.agg #[(.slice none 0 0),(.int .i64 0),(.int .u64 0)]),[(0,1,28),(1,1,3),(2,1,77)]⟩),
 (81,⟨.pointer 141,1,8,(.pointer none),[]⟩),
 (85,⟨.func,1,8,.nilFunc,[]⟩),
 (87,⟨.struct,3,40,(.agg #[(.slice none 0 0),(.int .i64 0),(.bool false)]),[(0,1,28),(1,1,3),(2,1,4)]⟩),
 (92,⟨.func,1,8,.nilFunc,[]⟩),
 (98,⟨.iface,1,16,.nilIface,[]⟩),
 (99,⟨.func,1,8,.nilFunc,[]⟩),
 (101,⟨.func,1,8,.nilFunc,[]⟩),
 (108,⟨.func,1,8,.nilFunc,[]⟩),
 (110,⟨.func,1,8,.nilFunc,[]⟩),
 (112,⟨.func,1,8,.nilFunc,[]⟩),
 (113,⟨.func,1,8,.nilFunc,[]⟩),
 (114,⟨.func,1,8,.nilFunc,[]⟩),
 (115,⟨.struct,2,16,(.agg #[(.int .i64 0),(.int .i64 0)]),[(0,1,3),(1,1,3)]⟩),
 (116,⟨.struct,2,16,(.agg #[(.int .i64 0),(.int .i64 0)]),[(0,1,3),(1,1,3)]⟩),
 (117,⟨.struct,4,32,(.agg #[(.int .i64 0),(.int .i64 0),(.int .i64 0),(.bool false)]),[(0,2,116),(2,1,3),(3,1,4)]⟩),
 (118,⟨.struct,4,32,(.agg #[(.int .i64 0),(.int .i64 0),(.int .i64 0),(.bool false)]),[(0,2,116),(2,1,3),(3,1,4)]⟩),
 (121,⟨.func,1,8,.nilFunc,[]⟩),
 (124,⟨.func,1,8,.nilFunc,[]⟩),
 (129,⟨.func,1,8,.nilFunc,[]⟩),
 (133,⟨.struct,0,0,(.agg #[]),[]⟩),
 (134,⟨.int .u32,1,4,(.int .u32 0),[]⟩),
 (136,⟨.struct,2,8,(.agg #[(.int .i32 0),(.int .u32 0)]),[(0,1,21),(1,1,134)]⟩),
 (138,⟨.struct,2,8,(.agg #[(.int .i32 0),(.int .u32 0)]),[(0,0,133),(0,2,136)]⟩),
 (139,⟨.map 151 4,1,8,(.map none),[]⟩),
 (141,⟨.struct,9,96,(.agg #[(.slice none 0 0),(.slice none 0 0),(.int .i64 0),(.int .i64 0),(.int .i64 0),(.int .i64 0),(.int .i32 0),(.int .u32 0),(.map none)]),[(0,6,27),(6,2,138),(8,1,139)]⟩),
 (142,⟨.chan 3,1,8,(.chan none),[]⟩),
 (143,⟨.struct,0,0,(.agg #[]),[]⟩),
 (144,⟨.struct,0,0,(.agg #[]),[]⟩),
 (146,⟨.struct,1,8,(.agg #[(.int .u64 0)]),[(0,0,143),(0,0,144),(0,1,77)]⟩),
 (148,⟨.struct,2,16,(.agg #[(.int .u64 0),(.int .u32 0)]),[(0,0,133),(0,1,146),(1,1,134)]⟩),
 (151,⟨.struct,1,1,(.agg #[(.int .u8 0)]),[(0,1,5)]⟩),
 (152,⟨.array 6 151,6,6,(.agg #[(.int .u8 0),(.int .u8 0),(.int .u8 0),(.int .u8 0),(.int .u8 0),(.int .u8 0)]),[]⟩),
 (153,⟨.func,1,8,.nilFunc,[]⟩),
 (156,⟨.pointer 87,1,8,(.pointer none),[]⟩),
 (159,⟨.struct,1,8,(.agg #[(.int .i64 0)]),[(0,1,38)]⟩),
 (162,⟨.iface,1,16,.nilIface,[]⟩),
 (164,⟨.pointer 159,1,8,(.pointer none),[]⟩),
 (166,⟨.struct,1,8,(.agg #[.nilFunc]),[(0,1,124)]⟩),
 (167,⟨.struct,0,0,(.agg #[]),[]⟩),
 (168,⟨.struct,0,0,(.agg #[]),[]⟩),
 (169,⟨.struct,0,0,(.agg #[]),[]⟩),
 (170,⟨.slice 98,1,24,(.slice none 0 0),[]⟩),
 (173,⟨.int .u64,1,8,(.int .u64 0),[]⟩),
 (175,⟨.pointer 118,1,8,(.pointer none),[]⟩),
 (176,⟨.pointer 148,1,8,(.pointer none),[]⟩),
 (179,⟨.int .i64,1,8,(.int .i64 0),[]⟩),
 (183,⟨.pointer 134,1,8,(.pointer none),[]⟩),
 (192,⟨.int .u64,1,8,(.int .u64 0),[]⟩),
 (194,⟨.struct,3,24,(.agg #[(.pointer none),(.pointer none),(.int .u64 0)]),[(0,1,17),(1,1,178),(2,1,192)]⟩),
 (197,⟨.iface,1,16,.nilIface,[]⟩),
 (199,⟨.int .u8,1,1,(.int .u8 0),[]⟩),
 (208,⟨.func,1,8,.nilFunc,[]⟩),
 (210,⟨.pointer 138,1,8,(.pointer none),[]⟩),
 (236,⟨.struct,4,40,(.agg #[(.pointer none),(.pointer none),(.pointer none),(.string ByteArray.empty)]),[(0,1,17),(1,1,17),(2,1,17),(3,1,9)]⟩),
 (237,⟨.array 0 16,0,0,(.agg #[]),[]⟩),
 (239,⟨.struct,0,0,(.agg #[]),[(0,0,237)]⟩),
 (241,⟨.int .u8,1,1,(.int .u8 0),[]⟩),
 (242,⟨.func,1,8,.nilFunc,[]⟩),
 (243,⟨.pointer 5,1,8,(.pointer none),[]⟩),
 (244,⟨.int .i32,1,4,(.int .i32 0),[]⟩),
 (245,⟨.int .i32,1,4,(.int .i32 0),[]⟩),
 (247,⟨.struct,11,48,(.agg #[(.int .u64 0),(.int .u64 0),(.int .u32 0),(.int .u8 0),(.int .u8 0),(.int .u8 0),(.int .u8 0),.nilFunc,(.pointer none),(.int .i32 0),(.int .i32 0)]),[(0,1,12),(1,1,12),(2,1,134),(3,1,241),(4,1,5),(5,1,5),(6,1,199),(7,1,242),(8,1,243),(9,1,244),(10,1,245)]⟩),
 (248,⟨.int .u8,1,1,(.int .u8 0),[]⟩)]
theorem Ep:(Ho.all λx=>x.2.check Tryz.prog x.1)=true:=by kernel_rfl
def yn(t:Nat):Option TI:=(Ho.find? λx=>x.1==t).map (·.2)
theorem BO(t:Nat)(i:TI)(h:yn t=some i):i.check Tryz.prog t=true:=by unfold yn at h;obtain⟨x,a,rfl⟩:=Option.map_eq_some_iff.1 h;have c:=List.find?_some a;have b:=List.all_eq_true.1 Ep x (List.mem_of_find?_eq_some a);rw[beq_iff_eq.1 c]at b;exact b
def lay:jg Tryz.prog:=⟨yn,BO,by kernel_rfl⟩
theorem rn{m:Mo}{fid n:Nat}{ro:Option Nat}{hold:List Entry}{s:St}{K:bG.Exit->St->Prop}{todo:List Item}(h:aZ lay m fid n ro [] hold 1000 todo s K):ab Tryz.prog m fid n ro hold todo s K:=ab.run lay [] h
theorem pg{m:Mo}{ops:Array Oper}{n:Nat}{Kp:AV->aa->Prop}{R:Env->aa->Prop}{p:jl}{env:Env}{σ:aa}(h:fE lay m [] ops n Kp p env σ R):aN Tryz.prog m ops n Kp p env σ R:=aN.go lay [] h
theorem cf{m:Mo}{f:FuncId}{fn:Func}{args:List AV}{σ:aa}{KF:eI->aa->Prop}(a:Tryz.prog.funcs[f]?=some fn)(hb:(fn.body.isSome && !(fn.name== "runtime.NumGoroutine"))=true)(h:ar Tryz.prog m f args σ KF):dl Tryz.prog m (.fn (.func f) [] []) args σ KF:=by
 simp only[Bool.and_eq_true,Bool.not_eq_true']at hb;exact ao a hb.1 hb.2 h
theorem fs{m:Mo}{f:FuncId}{fn:Func}{args:List AV}{σ:aa}{KF:eI->aa->Prop}{body:Code}(hold:List Entry)(k:Nat)(b:Tryz.prog.funcs[f]?=some fn)(hb:fn.body=some body)(c:args.length=k)(d:lY fn k=true)(a:lf hold body=true)(h:aZ lay m f fn.ntmps none [] hold 1000 [.code body] ⟨cX args,σ,[],.no⟩ (Mr lay m fn.results.toList (lZ KF))):ar Tryz.prog m f args σ KF:=ar.start lay [] hold k b hb c d a h
@[simp] theorem Tn:lay.tt 1=some ⟨.func,1,8,.nilFunc,[]⟩:=rfl
@[simp] theorem Tp:lay.tt 2=some ⟨.int .i64,1,8,(.int .i64 0),[]⟩:=rfl
@[simp] theorem qa:lay.tt 3=some ⟨.int .i64,1,8,(.int .i64 0),[]⟩:=rfl
@[simp] theorem SD:lay.tt 4=some ⟨.bool,1,1,(.bool false),[]⟩:=rfl
@[simp] theorem Rw:lay.tt 5=some ⟨.int .u8,1,1,(.int .u8 0),[]⟩:=rfl
@[simp] theorem Tq:lay.tt 6=some ⟨.int .u8,1,1,(.int .u8 0),[]⟩:=rfl
@[simp] theorem Tr:lay.tt 7=some ⟨.struct,4,24,(.agg #[(.int .i64 0),(.int .i64 0),(.bool false),(.int .u8 0)]),[(0,1,2),(1,1,3),(2,1,4),(3,1,6)]⟩:=rfl
@[simp] theorem Ts:lay.tt 8=some ⟨.struct,4,24,(.agg #[(.int .i64 0),(.int .i64 0),(.bool false),(.int .u8 0)]),[(0,1,2),(1,1,3),(2,1,4),(3,1,6)]⟩:=rfl
@[simp] theorem Tt:lay.tt 9=some ⟨.string,1,16,(.string ByteArray.empty),[]⟩:=rfl
@[simp] theorem SE:lay.tt 10=some ⟨.string,1,16,(.string ByteArray.empty),[]⟩:=rfl
@[simp] theorem SF:lay.tt 11=some ⟨.string,1,16,(.string ByteArray.empty),[]⟩:=rfl
@[simp] theorem SG:lay.tt 12=some ⟨.int .u64,1,8,(.int .u64 0),[]⟩:=rfl
@[simp] theorem SH:lay.tt 13=some ⟨.struct,2,24,(.agg #[(.string ByteArray.empty),(.int .u64 0)]),[(0,1,9),(1,1,12)]⟩:=rfl
@[simp] theorem SI:lay.tt 14=some ⟨.struct,2,24,(.agg #[(.string ByteArray.empty),(.int .u64 0)]),[(0,1,9),(1,1,12)]⟩:=rfl
@[simp] theorem SJ:lay.tt 15=some ⟨.pointer 236,1,8,(.pointer none),[]⟩:=rfl
@[simp] theorem SK:lay.tt 16=some ⟨.pointer 239,1,8,(.pointer none),[]⟩:=rfl
@[simp] theorem SL:lay.tt 17=some ⟨.pointer 247,1,8,(.pointer none),[]⟩:=rfl
@[simp] theorem SM:lay.tt 18=some ⟨.struct,1,8,(.agg #[(.pointer none)]),[(0,1,17)]⟩:=rfl
@[simp] theorem SN:lay.tt 19=some ⟨.struct,1,8,(.agg #[(.pointer none)]),[(0,1,17)]⟩:=rfl
@[simp] theorem SO:lay.tt 20=some ⟨.iface,1,16,.nilIface,[]⟩:=rfl
@[simp] theorem SP:lay.tt 21=some ⟨.int .i32,1,4,(.int .i32 0),[]⟩:=rfl
@[simp] theorem my:lay.tt 22=some ⟨.slice 30,1,24,(.slice none 0 0),[]⟩:=rfl
@[simp] theorem lJ:lay.tt 23=some ⟨.slice 28,1,24,(.slice none 0 0),[]⟩:=rfl
@[simp] theorem SS:lay.tt 24=some ⟨.struct,2,16,(.agg #[(.int .i64 0),(.int .i64 0)]),[(0,1,3),(1,1,3)]⟩:=rfl
@[simp] theorem ST:lay.tt 25=some ⟨.struct,2,16,(.agg #[(.int .i64 0),(.int .i64 0)]),[(0,1,3),(1,1,3)]⟩:=rfl
@[simp] theorem SU:lay.tt 26=some ⟨.struct,6,80,(.agg #[(.slice none 0 0),(.slice none 0 0),(.int .i64 0),(.int .i64 0),(.int .i64 0),(.int .i64 0)]),[(0,1,22),(1,1,23),(2,2,25),(4,1,3),(5,1,3)]⟩:=rfl
@[simp] theorem SX:lay.tt 27=some ⟨.struct,6,80,(.agg #[(.slice none 0 0),(.slice none 0 0),(.int .i64 0),(.int .i64 0),(.int .i64 0),(.int .i64 0)]),[(0,1,22),(1,1,23),(2,2,25),(4,1,3),(5,1,3)]⟩:=rfl
@[simp] theorem cr:lay.tt 28=some ⟨.slice 3,1,24,(.slice none 0 0),[]⟩:=rfl
@[simp] theorem SY:lay.tt 29=some ⟨.struct,6,64,(.agg #[(.int .i64 0),(.int .i64 0),(.int .i64 0),(.slice none 0 0),(.int .i64 0),(.int .i64 0)]),[(0,1,3),(1,1,3),(2,1,3),(3,1,28),(4,1,3),(5,1,3)]⟩:=rfl
@[simp] theorem vL:lay.tt 30=some ⟨.struct,6,64,(.agg #[(.int .i64 0),(.int .i64 0),(.int .i64 0),(.slice none 0 0),(.int .i64 0),(.int .i64 0)]),[(0,1,3),(1,1,3),(2,1,3),(3,1,28),(4,1,3),(5,1,3)]⟩:=rfl
@[simp] theorem SZ:lay.tt 31=some ⟨.func,1,8,.nilFunc,[]⟩:=rfl
@[simp] theorem S3:lay.tt 32=some ⟨.func,1,8,.nilFunc,[]⟩:=rfl
@[simp] theorem S4:lay.tt 33=some ⟨.slice 27,1,24,(.slice none 0 0),[]⟩:=rfl
@[simp] theorem S5:lay.tt 34=some ⟨.func,1,8,.nilFunc,[]⟩:=rfl
@[simp] theorem S6:lay.tt 35=some ⟨.pointer 79,1,8,(.pointer none),[]⟩:=rfl
@[simp] theorem S7:lay.tt 37=some ⟨.func,1,8,.nilFunc,[]⟩:=rfl
@[simp] theorem S8:lay.tt 38=some ⟨.int .i64,1,8,(.int .i64 0),[]⟩:=rfl
@[simp] theorem S9:lay.tt 40=some ⟨.func,1,8,.nilFunc,[]⟩:=rfl
@[simp] theorem Ta:lay.tt 42=some ⟨.func,1,8,.nilFunc,[]⟩:=rfl
@[simp] theorem Tb:lay.tt 47=some ⟨.func,1,8,.nilFunc,[]⟩:=rfl
@[simp] theorem Tc:lay.tt 72=some ⟨.func,1,8,.nilFunc,[]⟩:=rfl
@[simp] theorem Td:lay.tt 77=some ⟨.int .u64,1,8,(.int .u64 0),[]⟩:=rfl
@[simp] theorem Te:lay.tt 79=some ⟨.struct,3,40,(.agg #[(.slice none 0 0),(.int .i64 0),(.int .u64 0)]),[(0,1,28),(1,1,3),(2,1,77)]⟩:=rfl
@[simp] theorem Tf:lay.tt 81=some ⟨.pointer 141,1,8,(.pointer none),[]⟩:=rfl
@[simp] theorem Tg:lay.tt 85=some ⟨.func,1,8,.nilFunc,[]⟩:=rfl
@[simp] theorem Th:lay.tt 87=some ⟨.struct,3,40,(.agg #[(.slice none 0 0),(.int .i64 0),(.bool false)]),[(0,1,28),(1,1,3),(2,1,4)]⟩:=rfl
@[simp] theorem Ti:lay.tt 92=some ⟨.func,1,8,.nilFunc,[]⟩:=rfl
@[simp] theorem Oy:lay.tt 98=some ⟨.iface,1,16,.nilIface,[]⟩:=rfl
@[simp] theorem Tj:lay.tt 99=some ⟨.func,1,8,.nilFunc,[]⟩:=rfl
@[simp] theorem Rx:lay.tt 101=some ⟨.func,1,8,.nilFunc,[]⟩:=rfl
@[simp] theorem Ry:lay.tt 108=some ⟨.func,1,8,.nilFunc,[]⟩:=rfl
@[simp] theorem Rz:lay.tt 110=some ⟨.func,1,8,.nilFunc,[]⟩:=rfl
@[simp] theorem RA:lay.tt 112=some ⟨.func,1,8,.nilFunc,[]⟩:=rfl
@[simp] theorem RB:lay.tt 113=some ⟨.func,1,8,.nilFunc,[]⟩:=rfl
@[simp] theorem RD:lay.tt 114=some ⟨.func,1,8,.nilFunc,[]⟩:=rfl
@[simp] theorem RE:lay.tt 115=some ⟨.struct,2,16,(.agg #[(.int .i64 0),(.int .i64 0)]),[(0,1,3),(1,1,3)]⟩:=rfl
@[simp] theorem RF:lay.tt 116=some ⟨.struct,2,16,(.agg #[(.int .i64 0),(.int .i64 0)]),[(0,1,3),(1,1,3)]⟩:=rfl
@[simp] theorem RG:lay.tt 117=some ⟨.struct,4,32,(.agg #[(.int .i64 0),(.int .i64 0),(.int .i64 0),(.bool false)]),[(0,2,116),(2,1,3),(3,1,4)]⟩:=rfl
@[simp] theorem RH:lay.tt 118=some ⟨.struct,4,32,(.agg #[(.int .i64 0),(.int .i64 0),(.int .i64 0),(.bool false)]),[(0,2,116),(2,1,3),(3,1,4)]⟩:=rfl
@[simp] theorem RI:lay.tt 121=some ⟨.func,1,8,.nilFunc,[]⟩:=rfl
@[simp] theorem RJ:lay.tt 124=some ⟨.func,1,8,.nilFunc,[]⟩:=rfl
@[simp] theorem RK:lay.tt 129=some ⟨.func,1,8,.nilFunc,[]⟩:=rfl
@[simp] theorem RL:lay.tt 133=some ⟨.struct,0,0,(.agg #[]),[]⟩:=rfl
@[simp] theorem RM:lay.tt 134=some ⟨.int .u32,1,4,(.int .u32 0),[]⟩:=rfl
@[simp] theorem RN:lay.tt 136=some ⟨.struct,2,8,(.agg #[(.int .i32 0),(.int .u32 0)]),[(0,1,21),(1,1,134)]⟩:=rfl
@[simp] theorem RO:lay.tt 138=some ⟨.struct,2,8,(.agg #[(.int .i32 0),(.int .u32 0)]),[(0,0,133),(0,2,136)]⟩:=rfl
@[simp] theorem RP:lay.tt 139=some ⟨.map 151 4,1,8,(.map none),[]⟩:=rfl
@[simp] theorem RQ:lay.tt 141=some ⟨.struct,9,96,(.agg #[(.slice none 0 0),(.slice none 0 0),(.int .i64 0),(.int .i64 0),(.int .i64 0),(.int .i64 0),(.int .i32 0),(.int .u32 0),(.map none)]),[(0,6,27),(6,2,138),(8,1,139)]⟩:=rfl
@[simp] theorem Df:lay.tt 142=some ⟨.chan 3,1,8,(.chan none),[]⟩:=rfl
@[simp] theorem RR:lay.tt 143=some ⟨.struct,0,0,(.agg #[]),[]⟩:=rfl
@[simp] theorem RS:lay.tt 144=some ⟨.struct,0,0,(.agg #[]),[]⟩:=rfl
@[simp] theorem RT:lay.tt 146=some ⟨.struct,1,8,(.agg #[(.int .u64 0)]),[(0,0,143),(0,0,144),(0,1,77)]⟩:=rfl
@[simp] theorem RU:lay.tt 148=some ⟨.struct,2,16,(.agg #[(.int .u64 0),(.int .u32 0)]),[(0,0,133),(0,1,146),(1,1,134)]⟩:=rfl
@[simp] theorem RV:lay.tt 151=some ⟨.struct,1,1,(.agg #[(.int .u8 0)]),[(0,1,5)]⟩:=rfl
@[simp] theorem RW:lay.tt 152=some ⟨.array 6 151,6,6,(.agg #[(.int .u8 0),(.int .u8 0),(.int .u8 0),(.int .u8 0),(.int .u8 0),(.int .u8 0)]),[]⟩:=rfl
@[simp] theorem RX:lay.tt 153=some ⟨.func,1,8,.nilFunc,[]⟩:=rfl
@[simp] theorem RY:lay.tt 156=some ⟨.pointer 87,1,8,(.pointer none),[]⟩:=rfl
@[simp] theorem RZ:lay.tt 159=some ⟨.struct,1,8,(.agg #[(.int .i64 0)]),[(0,1,38)]⟩:=rfl
@[simp] theorem Oz:lay.tt 162=some ⟨.iface,1,16,.nilIface,[]⟩:=rfl
@[simp] theorem R1:lay.tt 164=some ⟨.pointer 159,1,8,(.pointer none),[]⟩:=rfl
@[simp] theorem R2:lay.tt 166=some ⟨.struct,1,8,(.agg #[.nilFunc]),[(0,1,124)]⟩:=rfl
@[simp] theorem OA:lay.tt 167=some ⟨.struct,0,0,(.agg #[]),[]⟩:=rfl
@[simp] theorem OB:lay.tt 168=some ⟨.struct,0,0,(.agg #[]),[]⟩:=rfl
@[simp] theorem OC:lay.tt 169=some ⟨.struct,0,0,(.agg #[]),[]⟩:=rfl
@[simp] theorem R3:lay.tt 170=some ⟨.slice 98,1,24,(.slice none 0 0),[]⟩:=rfl
@[simp] theorem R4:lay.tt 173=some ⟨.int .u64,1,8,(.int .u64 0),[]⟩:=rfl
@[simp] theorem R5:lay.tt 175=some ⟨.pointer 118,1,8,(.pointer none),[]⟩:=rfl
@[simp] theorem R6:lay.tt 176=some ⟨.pointer 148,1,8,(.pointer none),[]⟩:=rfl
@[simp] theorem R7:lay.tt 179=some ⟨.int .i64,1,8,(.int .i64 0),[]⟩:=rfl
@[simp] theorem R8:lay.tt 183=some ⟨.pointer 134,1,8,(.pointer none),[]⟩:=rfl
@[simp] theorem R9:lay.tt 192=some ⟨.int .u64,1,8,(.int .u64 0),[]⟩:=rfl
@[simp] theorem Sa:lay.tt 194=some ⟨.struct,3,24,(.agg #[(.pointer none),(.pointer none),(.int .u64 0)]),[(0,1,17),(1,1,178),(2,1,192)]⟩:=rfl
@[simp] theorem Sb:lay.tt 197=some ⟨.iface,1,16,.nilIface,[]⟩:=rfl
@[simp] theorem Sc:lay.tt 199=some ⟨.int .u8,1,1,(.int .u8 0),[]⟩:=rfl
@[simp] theorem Sd:lay.tt 208=some ⟨.func,1,8,.nilFunc,[]⟩:=rfl
@[simp] theorem Se:lay.tt 210=some ⟨.pointer 138,1,8,(.pointer none),[]⟩:=rfl
@[simp] theorem Sf:lay.tt 236=some ⟨.struct,4,40,(.agg #[(.pointer none),(.pointer none),(.pointer none),(.string ByteArray.empty)]),[(0,1,17),(1,1,17),(2,1,17),(3,1,9)]⟩:=rfl
@[simp] theorem Sg:lay.tt 237=some ⟨.array 0 16,0,0,(.agg #[]),[]⟩:=rfl
@[simp] theorem Si:lay.tt 239=some ⟨.struct,0,0,(.agg #[]),[(0,0,237)]⟩:=rfl
@[simp] theorem Sj:lay.tt 241=some ⟨.int .u8,1,1,(.int .u8 0),[]⟩:=rfl
@[simp] theorem Sk:lay.tt 242=some ⟨.func,1,8,.nilFunc,[]⟩:=rfl
@[simp] theorem Sl:lay.tt 243=some ⟨.pointer 5,1,8,(.pointer none),[]⟩:=rfl
@[simp] theorem Sm:lay.tt 244=some ⟨.int .i32,1,4,(.int .i32 0),[]⟩:=rfl
@[simp] theorem Sn:lay.tt 245=some ⟨.int .i32,1,4,(.int .i32 0),[]⟩:=rfl
@[simp] theorem So:lay.tt 247=some ⟨.struct,11,48,(.agg #[(.int .u64 0),(.int .u64 0),(.int .u32 0),(.int .u8 0),(.int .u8 0),(.int .u8 0),(.int .u8 0),.nilFunc,(.pointer none),(.int .i32 0),(.int .i32 0)]),[(0,1,12),(1,1,12),(2,1,134),(3,1,241),(4,1,5),(5,1,5),(6,1,199),(7,1,242),(8,1,243),(9,1,244),(10,1,245)]⟩:=rfl
@[simp] theorem Sp:lay.tt 248=some ⟨.int .u8,1,1,(.int .u8 0),[]⟩:=rfl
end Go.Proofs.YtldmpfccgajobaaGreatDoor
namespace Go.Proofs.YtldmpfccgajobaaGreatDoor
open Tryz (prog)
open Go.bG
abbrev Tk:List Entry:=[⟨3,.take [0,1,2] false (.one 3 (.one 4 (.take [5] true (.done))))⟩,⟨14,.take [0,1,2,3,4,5,6,7,8,9,10,11,12,13,14,15,16,17,18,19,20,21,22,23] false (.one 24 (.take [25,26] true (.done)))⟩]
abbrev Qc:List Entry:=[⟨2,.take [0,1,3,4,5] false (.one 2 (.one 6 (.one 7 (.take [8] true (.done)))))⟩]
abbrev Qd:List Entry:=[⟨1,.take [0,1,3,4,5,6,7,8] false (.both 2 (.both 9 (.one 10 (.one 11 (.done))) (.one 10 (.one 9 (.one 11 (.done))))) (.one 10 (.one 2 (.one 9 (.one 11 (.done))))))⟩,⟨5,.take [0,2,3,4,5,6,10] false (.both 1 (.one 7 (.one 8 (.one 9 (.one 11 (.done))))) (.one 7 (.both 1 (.one 8 (.one 9 (.one 11 (.done)))) (.one 8 (.take [1] true (.one 9 (.one 11 (.done))))))))⟩]
abbrev OD:List Entry:=[⟨8,.take [0,1,2,3,4,5,6] true (.done)⟩]
abbrev Qe:List Entry:=[⟨4,.take [0,1,2,3,4,5,6,7,8] true (.done)⟩]
abbrev Qf:List Entry:=[⟨6,.take [0,1,2,3,4,5,6,7,8,9] false (.one 10 (.take [11] true (.done)))⟩]
abbrev Qg:List Entry:=[⟨15,.take [0,1,2,3,4,5] false (.one 6 (.take [7] true (.done)))⟩]
abbrev Qh:List Entry:=[⟨11,.take [0,1,2,3,4] false (.one 5 (.take [6,7] true (.done)))⟩]
abbrev OE:List Entry:=[⟨19,.take [0,1,2,3,4,5,6,7,8,9,10,11] true (.done)⟩]
abbrev Qi:List Entry:=[⟨19,.take [0,2,3,4,6,7,11] false (.both 1 (.both 5 (.one 8 (.one 9 (.take [10] true (.one 12 (.done))))) (.one 8 (.one 5 (.one 9 (.take [10] true (.one 12 (.done))))))) (.both 5 (.both 1 (.one 8 (.one 9 (.take [10] true (.one 12 (.done))))) (.one 8 (.both 1 (.one 9 (.take [10] true (.one 12 (.done)))) (.one 9 (.take [1,10] true (.one 12 (.done))))))) (.one 8 (.both 1 (.one 5 (.one 9 (.take [10] true (.one 12 (.done))))) (.one 5 (.both 1 (.one 9 (.take [10] true (.one 12 (.done)))) (.one 9 (.take [1,10] true (.one 12 (.done))))))))))⟩]
abbrev Qj:List Entry:=[⟨7,.take [0,2,6] false (.both 1 (.one 3 (.one 4 (.one 5 (.one 7 (.done))))) (.one 3 (.both 1 (.one 4 (.one 5 (.one 7 (.done)))) (.one 4 (.take [1] true (.one 5 (.one 7 (.done))))))))⟩,⟨15,.take [0,2,5,6,8,11,12,13] false (.both 1 (.take [3,4,14] false (.one 7 (.take [9,10,16] false (.one 15 (.one 17 (.done)))))) (.one 7 (.take [9,10,16] false (.take [1,3,4,14] true (.one 15 (.one 17 (.done)))))))⟩,⟨21,.take [0,2,3,7] false (.both 1 (.one 4 (.one 5 (.one 6 (.one 8 (.done))))) (.one 4 (.both 1 (.one 5 (.one 6 (.one 8 (.done)))) (.one 5 (.take [1] true (.one 6 (.one 8 (.done))))))))⟩]
abbrev Qk:List Entry:=[⟨4,.take [0,1,2,3,4,5,6,7] false (.one 8 (.take [9] true (.done)))⟩]
abbrev Ql:List Entry:=[⟨6,.take [0,1,2,3] true (.done)⟩]
abbrev Qm:List Entry:=[⟨4,.take [0,1,2,3,4,5,6,7,8,9,10,11,12,13,14,15,16,17] true (.done)⟩]
abbrev Qn:List Entry:=[⟨8,.take [0,1,2,3,4,5,6,7,8,9,10,11,12,13,14] true (.done)⟩,⟨11,.take [0,1,3,4,5,6,7,8,10] false (.one 2 (.take [9,11] false (.one 12 (.one 13 (.take [14] true (.done))))))⟩,⟨17,.take [0,1,2,3] false (.one 4 (.one 5 (.take [6] true (.done))))⟩]
abbrev Qo:List Entry:=[⟨9,.take [0,1,2,3,4,5,6,7,8,9,10,11] false (.one 12 (.take [13,14] true (.done)))⟩]
abbrev Qp:List Entry:=[⟨3,.take [0,1,2,3,4,5,6,7,8,9] true (.done)⟩,⟨4,.take [0,1,2,3,4,5,6,7,8,9,10,11,12,13,14] true (.take [15] true (.done))⟩,⟨6,.take [0,1,2,3,5,6,7,11,12] false (.take [4,8,9,10] true (.one 13 (.done)))⟩]
abbrev Qq:List Entry:=[⟨5,.take [0,1,2,3,4,5,6,7,8,9,10,11,12,13,14,15,16] false (.both 17 (.one 18 (.one 19 (.one 20 (.done)))) (.one 18 (.one 17 (.one 19 (.one 20 (.done))))))⟩,⟨6,.take [0,1,2,3,4,5,6,7,8,9,10,11,12,13,14,15,16,17,18] false (.one 19 (.take [20,21,22] true (.done)))⟩]
abbrev Qr:List Entry:=[⟨24,.take [0,1,2,3,4,5,6,7,8,9,10,11,12,13,14,15,16,17,18,19,20,21,22,23,24] true (.done)⟩,⟨29,.take [0,1,2,3,4,5,6,7,8,9,10,11,12,13,14,15,16,17,18,19,20,21,22] true (.done)⟩]
abbrev Qs:List Entry:=[⟨22,.take [0,1,2,3,4,5,6,7,8,9,10,11,12,13,14,15,16,17,18,19,20,21,22,23,24,25,26,27,28,29] true (.done)⟩,⟨27,.take [0,1,2,3,4,5,6,7,8,9,10,11,12,13,14,15,16,17,18,19,20,21,22] true (.done)⟩]
abbrev Qt:List Entry:=[⟨12,.take [0,1,2,3,4,5,6,7,8,9,10,11,12,13,14,15] true (.done)⟩]
abbrev OF:List Entry:=[⟨5,.take [0,1,3] false (.both 2 (.both 4 (.one 5 (.one 6 (.one 7 (.take [8] true (.done))))) (.one 5 (.one 4 (.one 6 (.one 7 (.take [8] true (.done))))))) (.one 5 (.one 2 (.one 4 (.one 6 (.one 7 (.take [8] true (.done))))))))⟩,⟨11,.take [0,1,2] false (.one 3 (.one 4 (.done)))⟩]
abbrev OG:List Entry:=[⟨7,.take [0,1,2,3] true (.done)⟩]
abbrev Qu:List Entry:=[⟨1,.take [0,1,2,3,4,5,6,7,8,9] true (.done)⟩]
abbrev Qv:List Entry:=[⟨5,.take [0,1,2,3,4,5,6,7,8,9,10,11,12,13,14] true (.done)⟩]
abbrev OH:List Entry:=[⟨4,.take [0,2,4] false (.take [1] true (.one 3 (.one 5 (.done))))⟩,⟨5,.take [0,1,2] false (.one 3 (.one 4 (.take [5,6,8,9,10,12,15,16,17] false (.both 7 (.both 11 (.both 13 (.both 14 (.one 18 (.one 19 (.take [20,21] true (.done)))) (.one 18 (.one 14 (.one 19 (.take [20,21] true (.done)))))) (.one 18 (.one 13 (.one 14 (.one 19 (.take [20,21] true (.done))))))) (.both 13 (.both 11 (.both 14 (.one 18 (.one 19 (.take [20,21] true (.done)))) (.one 18 (.one 14 (.one 19 (.take [20,21] true (.done)))))) (.one 18 (.one 11 (.one 14 (.one 19 (.take [20,21] true (.done))))))) (.one 18 (.both 11 (.one 13 (.one 14 (.one 19 (.take [20,21] true (.done))))) (.one 13 (.one 11 (.one 14 (.one 19 (.take [20,21] true (.done)))))))))) (.both 11 (.both 7 (.both 13 (.both 14 (.one 18 (.one 19 (.take [20,21] true (.done)))) (.one 18 (.one 14 (.one 19 (.take [20,21] true (.done)))))) (.one 18 (.one 13 (.one 14 (.one 19 (.take [20,21] true (.done))))))) (.both 13 (.both 7 (.both 14 (.one 18 (.one 19 (.take [20,21] true (.done)))) (.one 18 (.one 14 (.one 19 (.take [20,21] true (.done)))))) (.both 14 (.both 7 (.one 18 (.one 19 (.take [20,21] true (.done)))) (.one 18 (.one 7 (.one 19 (.take [20,21] true (.done)))))) (.one 18 (.both 7 (.one 14 (.one 19 (.take [20,21] true (.done)))) (.one 14 (.one 7 (.one 19 (.take [20,21] true (.done))))))))) (.one 18 (.both 7 (.one 13 (.one 14 (.one 19 (.take [20,21] true (.done))))) (.one 13 (.both 7 (.one 14 (.one 19 (.take [20,21] true (.done)))) (.one 14 (.one 7 (.one 19 (.take [20,21] true (.done))))))))))) (.both 13 (.both 7 (.both 11 (.both 14 (.one 18 (.one 19 (.take [20,21] true (.done)))) (.one 18 (.one 14 (.one 19 (.take [20,21] true (.done)))))) (.one 18 (.one 11 (.one 14 (.one 19 (.take [20,21] true (.done))))))) (.both 11 (.both 7 (.both 14 (.one 18 (.one 19 (.take [20,21] true (.done)))) (.one 18 (.one 14 (.one 19 (.take [20,21] true (.done)))))) (.both 14 (.both 7 (.one 18 (.one 19 (.take [20,21] true (.done)))) (.one 18 (.one 7 (.one 19 (.take [20,21] true (.done)))))) (.one 18 (.both 7 (.one 14 (.one 19 (.take [20,21] true (.done)))) (.one 14 (.one 7 (.one 19 (.take [20,21] true (.done))))))))) (.one 18 (.both 7 (.one 11 (.one 14 (.one 19 (.take [20,21] true (.done))))) (.one 11 (.both 7 (.one 14 (.one 19 (.take [20,21] true (.done)))) (.one 14 (.one 7 (.one 19 (.take [20,21] true (.done))))))))))) (.one 18 (.both 7 (.both 11 (.one 13 (.one 14 (.one 19 (.take [20,21] true (.done))))) (.one 13 (.one 11 (.one 14 (.one 19 (.take [20,21] true (.done))))))) (.both 11 (.both 7 (.one 13 (.one 14 (.one 19 (.take [20,21] true (.done))))) (.one 13 (.both 7 (.one 14 (.one 19 (.take [20,21] true (.done)))) (.one 14 (.one 7 (.one 19 (.take [20,21] true (.done)))))))) (.one 13 (.both 7 (.one 11 (.one 14 (.one 19 (.take [20,21] true (.done))))) (.one 11 (.both 7 (.one 14 (.one 19 (.take [20,21] true (.done)))) (.one 14 (.one 7 (.one 19 (.take [20,21] true (.done))))))))))))))))))⟩]
abbrev OI:List Entry:=[⟨1,.take [0,1,2,3,4,5] true (.one 6 (.done))⟩]
abbrev OJ:List Entry:=[⟨3,.take [0,1,2,3] false (.one 4 (.one 5 (.take [6,7,8,9,10] true (.done))))⟩,⟨6,.take [0,1,2,3,4,5] true (.one 6 (.done))⟩]
abbrev OK:List Entry:=[⟨1,.take [0,1,2,3,4,5,6,7,8,9,10,11,12,13,14,15,16,17] false (.one 18 (.take [19] true (.done)))⟩]
abbrev OL:List Entry:=[⟨8,.take [0,1,2,3,4,5,6,7,8,9,10,11,12,13,14,15,16,17,18,19,20] true (.done)⟩]
abbrev OM:List Entry:=[⟨1,.take [0,1,2,3,4,5,6,7,8,9] true (.done)⟩]
abbrev ON:List Entry:=[⟨4,.take [0,1,2,3,4,5,6,7,9,10,11,12] false (.both 8 (.one 13 (.one 14 (.take [15,16] true (.done)))) (.one 13 (.one 8 (.one 14 (.take [15,16] true (.done))))))⟩,⟨6,.take [0,1,2,3,4,5,6,7,8,10,11,12,14,16] false (.take [9,13] true (.one 15 (.one 17 (.done))))⟩]
abbrev OP:List Entry:=[⟨4,.take [0,1,2,3,4,5,6,7,8,9,10,11,12,13,14,15,16,17,18,19,20] true (.done)⟩]
abbrev OQ:List Entry:=[⟨4,.take [0,1,2,3,4,5,6,7,8,9,10,11,12,13,14,15,16,17,18,19,20,21,22] false (.both 23 (.one 24 (.one 25 (.one 26 (.done)))) (.one 24 (.one 23 (.one 25 (.one 26 (.done))))))⟩,⟨5,.take [0,1,2,3,4,5,6,7,8,9,10,11,12,13,14,15,16,17,18,19,20,21,22,23,24,26,27] false (.one 25 (.one 28 (.one 29 (.take [30,31,32] true (.done)))))⟩]
attribute [simp] Ji
abbrev int(n:Int):AV:=.lit (.int .i64 n)
abbrev u8(n:Int):AV:=.lit (.int .u8 n)
abbrev bool(b:Bool):AV:=.lit (.bool b)
abbrev ints(l:List Int):AV:=.sl 1 (l.map int) .any
abbrev rows(l:List (List Int)):AV:=.sl 1 (l.map ints) .any
structure gL where
 hour:Int
 place:Int
 bk:Int
 marks:List Int
 aG:Int
 eE:Int
 deriving DecidableEq
structure Fr where
 aq:List gL
 roads:List (List Int)
 bh:Int
 gE:Int
 cS:Int
 most:Int
 deriving DecidableEq
abbrev bd(e:gL):AV:=.agg [int e.hour,int e.place,int e.bk,ints e.marks,int e.aG,int e.eE]
abbrev qb(l:List gL):AV:=.sl 6 (l.map bd) .any
abbrev eS(f:Fr):List AV:=[qb f.aq,rows f.roads,int f.bh,int f.gE,int f.cS,int f.most]
abbrev aA(f:Fr):AV:=.agg (eS f)
abbrev iL(b mb:Nat)(f:Fr)(o:Nat):AV:=.kp b [qb f.aq,rows f.roads,int f.bh,int f.gE,int f.cS,int f.most,.lit (.int .i32 0),.lit (.int .u32 0),.map mb] [6,7] o
def cK(a b c:Int):Bool:=decide (b<=a) && decide (a<=c)
def np:Option Int->Int->Bool
 |some q,h=>decide (h<=q)
 |none,_=>false
def kj:Option Int->List Int->Int
 |_,[]=>0
 |p,h::l=>if cK h 0 4=false then 3 else if np p h=true then 5 else kj (some h) l
def bp(places:Int)(e:gL):Int:=
 if cK e.hour 0 72=false then 1 else if cK e.place 0 (places-1)=false then 3 else if cK e.bk 0 5=false then 1 else if kj none e.marks≠0 then kj none e.marks
 else if cK e.aG 0 30=false then 1 else if cK e.eE 0 2=false then 8 else 0
def dh(f:gL->Int):List gL->Int
 |[]=>0
 |d::l=>if f d=0 then dh f l else f d
theorem Dg(l:List Int)(i:Nat)(h:i<l.length)(p:Option Int):kj p (l.drop i)=if cK l[i] 0 4=false then 3 else if np p l[i]=true then 5 else kj (some l[i]) (l.drop (i+1)):=by rw[List.drop_eq_getElem_cons h,kj]
theorem rW(f:gL->Int)(l:List gL)(i:Nat)(h:i<l.length):dh f (l.drop i)=if f l[i]=0 then dh f (l.drop (i+1))else f l[i]:=by rw[List.drop_eq_getElem_cons h,dh]
theorem qc{α:Type}{l:List α}{n:α}{k:Nat}(g:k<l.length)(h:n∉l.take k)(a:l[k]≠n):n∉l.take (k+1):=by rw[List.take_succ_eq_append_getElem g,List.mem_append,List.mem_singleton];exact λe=>e.elim h λe=>a e.symm
theorem yo{α:Type}{l a:List α}{k:Nat}(g:k<l.length)(g':k<a.length)(h:l.take k=a.take k)(e:l[k]=a[k]):l.take (k+1)=a.take (k+1):=by rw[List.take_succ_eq_append_getElem g,List.take_succ_eq_append_getElem g',h,e]
def rd(r:List (List Int))(i j:Nat):Int:=(r.getD i []).getD j 0
def bE(r:List (List Int))(i j:Nat):Bool:=rd r i i !=0||rd r i j !=rd r j i||(List.range r.length).any λk=>decide (rd r i j>rd r i k+rd r k j)
def gh(n:Nat)(l:List Int):Int:=if l.length≠n then 9 else if l.all (cK · 0 9)then 0 else 1
def dL(n:Nat):List (List Int)->Int
 |[]=>0
 |l::r=>if gh n l=0 then dL n r else gh n l
def dQ(r:List (List Int)):Int:=
 if r.length<1 then 7 else if 3<r.length then 6 else if dL r.length r≠0 then dL r.length r
 else if(List.range r.length).any (λi=>(List.range r.length).any λj=>bE r i j)then 9 else 0
def check(f:Fr):Int:=
 if dQ f.roads≠0 then dQ f.roads else if(cK f.bh 0 3 && cK f.gE 0 3)=false then 1 else if f.gE<f.bh then 5
 else if(cK f.cS 1 6 && cK f.most 1 6)=false then 1 else if(6:Int)<f.aq.length then 6 else dh (bp f.roads.length) f.aq
theorem uH(n:Nat)(l:List (List Int))(i:Nat)(h:i<l.length):dL n (l.drop i)=if gh n l[i]=0 then dL n (l.drop (i+1))else gh n l[i]:=by rw[List.drop_eq_getElem_cons h,dL]
structure Fr.Fits(f:Fr):Prop where
 aq:f.aq.length<1152921504606846976
 roads:f.roads.length<1152921504606846976
 row:∀r∈f.roads,r.length<1152921504606846976
 marks:∀e∈f.aq,e.marks.length<1152921504606846976
def ig(i:Int):List Int->Int->Int
 |[],_=>-1
 |x::l,v=>if x=v then i else ig (i+1) l v
def od(l:List Int)(v:Int):Int:=ig 0 l v
theorem wJ(l:List Int)(v:Int)(i:Nat)(h:i<l.length)(c:Int):ig c (l.drop i) v=if l[i]=v then c else ig (c+1) (l.drop (i+1)) v:=by rw[List.drop_eq_getElem_cons h,ig]
theorem uI(v:Int):∀(l:List Int) (i:Int),0<=i->(0<=ig i l v↔v∈l)
 |[],i,h=>by simp[ig]
 | x::l,i,h=>by
   unfold ig;split
   . next e=>subst e;simp[h]
   . next e=>rw[uI v l (i+1) (by omega)];simp[Ne.symm e]
theorem kb(l:List Int)(v:Int):0<=od l v↔v∈l:=uI v l 0 (Int.le_refl _)
def eT(f:Fr)(e:gL):List Int:=if e.eE≠0 then(List.range (f.gE-f.bh+1).toNat).map λi:Nat=>e.aG-f.gE+(i:Int)else[]
def bu(f:Fr)(e:gL):List Int:=if e.eE≠1/\e.aG∉eT f e then eT f e++[e.aG]else eT f e
def fT(first:List Int)(others:List (List Int)):List Int:=first.filter λx=>others.all λl=>decide (x∈l)
def aO(f:Fr)(i:Int):gL:=f.aq.getD i.toNat ⟨0,0,0,[],0,0⟩
def du(f:Fr)(l:List Int):List Int:=match l.map λi=>bu f (aO f i)with|[]=>[]|a::r=>fT a r
def iM(f:Fr):Option Int->List Int->Int
 |_,[]=>0
 |p,n::l=>if cK n 0 (f.aq.length-1)=false then 3 else if np p n=true then 5 else iM f (some n) l
def uJ(f:Fr)(l:List Int):Int:=if l.length=0 then 7 else iM f none l
theorem BP(f:Fr)(l:List Int)(i:Nat)(h:i<l.length)(p:Option Int):iM f p (l.drop i)=if cK l[i] 0 (f.aq.length-1)=false then 3 else if np p l[i]=true then 5 else iM f (some l[i]) (l.drop (i+1)):=by rw[List.drop_eq_getElem_cons h,iM]
abbrev Qw(n:Int):AV:=if n=0 then .lit .nilIface else .mS 159 (.agg [int n])
def OR(a b:Int):Int:=IntKind.u8.wrap (((BitVec.ofInt 8 a|||BitVec.ofInt 8 b).toNat:Nat):Int)
def Dh(a b:Int):Int:=IntKind.u8.wrap (((BitVec.ofInt 8 a &&& BitVec.ofInt 8 b).toNat:Nat):Int)
def uK(a b:Int):Int:=IntKind.u8.wrap (((BitVec.ofInt 8 a ^^^ BitVec.ofInt 8 b).toNat:Nat):Int)
def Lk(a b:Int):Int:=IntKind.u8.wrap (a-b)
theorem Af(a b:Int):n8 .or .u8 a b=some (.int .u8 (OR a b)):=rfl
theorem wM(a b:Int):n8 .and .u8 a b=some (.int .u8 (Dh a b)):=rfl
theorem Eq(a b:Int):n8 .xor .u8 a b=some (.int .u8 (uK a b)):=rfl
theorem Er(a b:Int):n8 .sub .u8 a b=some (.int .u8 (Lk a b)):=rfl
def bw(m n:Int):Int:=OR m (IntKind.u8.wrap (2 ^ min n.toNat IntKind.u8.bits))
def kT(m n:Int):Bool:=Dh (m.fdiv (2 ^ min n.toNat IntKind.u8.bits)) 1==1
def bS(m:Int):List Int:=((List.range 6).map λn:Nat=>(n:Int)).filter λn=>kT m n
def aT(l:List Int):Int:=l.foldl bw 0
end Go.Proofs.YtldmpfccgajobaaGreatDoor
namespace Go.Proofs.YtldmpfccgajobaaGreatDoor
open Tryz (prog)
open Go.bG Go.Conc
set_option maxHeartbeats 1000000
variable{m:Mo}{σ:aa}{KF:eI->aa->Prop}
theorem c9{a c d:Int}(h:KF (.val (bool (cK a c d))) σ):ar prog m 80 [int a,int c,int d] σ KF:=by
 unfold cK at h;refine fs [] 3 Tryz.func80 rfl rfl (by rfl) (by kernel_rfl) ?_;simp[Tryz.f80];refine sK.intro (λb=>?_) (λb=>?_)<;>simp[b]
 . exact .done (by simpa[b]using h)
 . exact .done (by simpa[b]using h)
theorem Hp{l:List Int}{v:Int}(n:l.length<1152921504606846976)(h:KF (.val (int (od l v))) σ):ar prog m 157 [ints l,int v] σ KF:=by
 refine fs [] 2 Tryz.func157 rfl rfl (by rfl) (by kernel_rfl) ?_;simp[Tryz.f157];refine ab.loop l.length (λk s=>∃env,s=⟨env,σ,[],.no⟩/\env 0=ints l/\env 1=int v/\env 7=int l.length/\env 8=int k/\ig 0 l v=ig k (l.drop k) v) ⟨_,rfl,by simp⟩ ?_;rintro o k _ p ⟨env,rfl,f,g,i,d,a⟩ j;refine rn ?_;simp[i,d];refine aB.intro (λc=>?_) (λc=>?_)<;>(try simp[-Int.not_lt,-Int.not_le,-Nat.not_lt,-Nat.not_le]at c)<;>(try simp[f,g,d,c])
 . rw[wJ l v k c]at a
   refine aB.intro (λb=>?_) (λb=>?_)<;>(try simp[-Int.not_lt,-Int.not_le,-Nat.not_lt,-Nat.not_le]at b)<;>(try simp[b]at a)<;>(try simp[d,b])<;>(try exact .done a)
   . subst b
     unfold od at h;rw[a]at h;exact .done h
   . exact⟨by omega,j _ c ⟨_,rfl,by simp[f],by simp[g],by simp[i],by simp,by rw[a,if_neg (λe=>b e.symm)];simp⟩⟩
 . have:k=l.length:=by omega
   subst this;unfold od at h;rw[a]at h;simp[ig]at h;exact .done h
theorem i9{l:List Int}{v:Int}(a:l.length<1152921504606846976)(h:KF (.val (bool (decide (v∈l)))) σ):ar prog m 124 [ints l,int v] σ KF:=by
 refine fs [] 2 Tryz.func124 rfl rfl (by rfl) (by kernel_rfl) ?_;simp[Tryz.f124];refine cf Tryz.func157 rfl (Hp a ?_);refine rn ?_;simp;rw[<-decide_eq_decide.2 (kb l v)]at h;exact .done h
theorem qd{l:List Int}{v:Int}(i:l.length<1152921504606846976)(h:KF (.val (int (od l v))) σ):ar prog m 105 [ints l,int v] σ KF:=by
 refine fs [] 2 Tryz.func105 rfl rfl (by rfl) (by kernel_rfl) ?_;simp[Tryz.f105];refine ab.loop l.length (λk s=>∃env,s=⟨env,σ,[],.no⟩/\env 0=ints l/\env 1=int v/\env 5=int k/\ig 0 l v=ig k (l.drop k) v) ⟨_,rfl,by simp⟩ ?_;rintro j k _ n ⟨env,rfl,d,f,e,a⟩ g;refine rn ?_;simp[d,e];refine aB.intro (λb=>?_) (λb=>?_)<;>(try simp[-Int.not_lt,-Int.not_le,-Nat.not_lt,-Nat.not_le]at b)<;>(try simp[d,f,e,b])
 . rw[wJ l v k b]at a
   refine aB.intro (λc=>?_) (λc=>?_)<;>(try simp[-Int.not_lt,-Int.not_le,-Nat.not_lt,-Nat.not_le]at c)<;>(try simp[c]at a)<;>(try simp[e,c])<;>(try exact .done a)
   . subst c
     unfold od at h;rw[a]at h;exact .done h
   . exact⟨by omega,g _ b ⟨_,rfl,by simp[d],by simp[f],by simp,by rw[a];simp⟩⟩
 . have:k=l.length:=by omega
   subst this;unfold od at h;rw[a]at h;simp[ig]at h;exact .done h
theorem gF{a b:List Int}(r:a.length<1152921504606846976)(hb:b.length<1152921504606846976)(h:KF (.val (bool (decide (a=b)))) σ):ar prog m 21 [ints a,ints b] σ KF:=by
 refine fs Qe 2 Tryz.func21 rfl rfl (by rfl) (by kernel_rfl) ?_
 simp[Tryz.f21];refine ab.loop a.length (λk s=>∃env,s=⟨env,σ,[],.no⟩/\env 0=ints a/\env 1=ints b/\env 5=int k/\k<=b.length/\a.take k=b.take k) ⟨_,rfl,by simp⟩ ?_
 rintro t k _ u ⟨env,rfl,f,j,g,o,l⟩ p
 refine rn ?_;simp[f,g];refine sK.intro (λc=>?_) (λc=>?_)<;>(try simp[-Int.not_lt,-Int.not_le,-Nat.not_lt,-Nat.not_le]at c)<;>(try simp[f,j,g,c])
 . refine aB.intro (λi=>?_) (λi=>?_)<;>(try simp[-Int.not_lt,-Int.not_le,-Nat.not_lt,-Nat.not_le]at i)<;>(try simp[f,j,g,i,c])
   . refine rn ?_
     simp;refine aB.intro (λd=>?_) (λd=>?_)<;>(try simp[-Int.not_lt,-Int.not_le,-Nat.not_lt,-Nat.not_le]at d)<;>(try simp[g,d])
     . have:a≠b:=λe=>by subst e;exact d rfl
       simp[this]at h;exact .done h
     . refine⟨by omega,p _ c ⟨_,rfl,by simp[f],by simp[j],by simp,by omega,yo c i l d⟩⟩
   . have:a≠b:=λe=>by subst e;omega
     have n:((a.length:Int)==b.length)=false:=by rw[beq_eq_false_iff_ne];omega
     rw[n];exact .done (by simpa[this]using h)
 . have:k=a.length:=by omega
   subst this;rw[List.take_length]at l
   by_cases e:a.length=b.length
   . have:a=b:=by rw[l,e,List.take_length]
     exact .done (by simpa[this,e]using h)
   . have:a≠b:=λq=>e (by rw[q])
     have n:((a.length:Int)==b.length)=false:=by rw[beq_eq_false_iff_ne];omega
     rw[n];exact .done (by simpa[this]using h)
theorem Ag{l:List Int}(c:l.length<=1000000000)(h:∀a σ',bn σ σ' a 1 (l.map int)->KF (.val a) σ'):ar prog m 25 [ints l] σ KF:=by
 refine fs [] 1 Tryz.func25 rfl rfl (by rfl) (by kernel_rfl) ?_;simp[Tryz.f25];refine jv lay rfl rfl rfl cr rfl cr rfl qa (by decide) (by simp;omega) (σ0:=σ) (es:=[]) (xs:=l.map int) (.empty σ 1) (.inl (.inr ⟨_,rfl⟩)) (by simp) λd σ' b=>?_
 refine rn ?_;simp;exact .done (h _ _ (by simpa using b))
theorem uL{l:List Int}(b:l.length<=1000000000)(h:KF (.val (ints l)) σ):ar prog m 25 [ints l] σ KF:=(Ag b λa c d=>d.thaw h).thaw
theorem Ah{n:Int}(h:KF (.val (bool false)) σ):ar prog m 155 [int n] σ KF:=by
 refine fs [] 1 Tryz.func155 rfl rfl (by rfl) (by kernel_rfl) ?_;simp[Tryz.f155];exact .done h
def yp(x y:Int):Int:=if x<y then -1 else if y<x then 1 else 0
theorem BQ{x y:Int}(h:KF (.val (int (yp x y))) σ):ar prog m 122 [int x,int y] σ KF:=by
 unfold yp at h;refine fs [] 2 Tryz.func122 rfl rfl (by rfl) (by kernel_rfl) ?_;simp[Tryz.f122];refine cf Tryz.func155 rfl (Ah ?_);refine rn ?_;simp;refine cf Tryz.func155 rfl (Ah ?_);refine rn ?_;simp;refine aB.intro (λa=>?_) (λa=>?_)<;>(try simp[-Int.not_lt,-Int.not_le,-Nat.not_lt,-Nat.not_le]at a)<;>(try simp[a]at h)<;>(try simp[a])<;>(try exact .done h);refine aB.intro (λb=>?_) (λb=>?_)<;>(try simp[-Int.not_lt,-Int.not_le,-Nat.not_lt,-Nat.not_le]at b)<;>(try simp[b]at h)<;>(try simp[b])<;>(try exact .done h)
theorem Es{l:List Int}(g:l.length<1152921504606846976)(hb:∀x∈l,-1<=x/\x<=1000)(h:KF (.val (int (l.foldl (λn k=>max n (k+1)) 0))) σ):ar prog m 65 [ints l] σ KF:=by
 refine fs [] 1 Tryz.func65 rfl rfl (by rfl) (by kernel_rfl) ?_;simp[Tryz.f65];refine ab.loop l.length (λk s=>∃env,s=⟨env,σ,[],.no⟩/\env 3=int ((l.take k).foldl (λn k=>max n (k+1)) 0)/\env 6=ints l/\env 7=int l.length/\env 8=int k) ⟨_,rfl,by simp⟩ ?_;rintro i k _ j ⟨env,rfl,e,b,c,d⟩ f;refine rn ?_;simp[c,d];refine aB.intro (λa=>?_) (λa=>?_)<;>(try simp[-Int.not_lt,-Int.not_le,-Nat.not_lt,-Nat.not_le]at a)<;>(try simp[e,b,d,a])
 . have:=hb _ (List.getElem_mem a)
   refine⟨by omega,?_⟩;refine⟨by omega,f _ a ⟨_,rfl,?_,by simp[b],by simp[c],by simp⟩⟩;rw[List.take_succ_eq_append_getElem a,List.foldl_append];simp;split<;>omega
 . have:k=l.length:=by omega
   subst this;rw[List.take_length];exact .done h
theorem vM{e:gL}{places:Int}(w:0<=places/\places<1152921504606846976)(x:e.marks.length<1152921504606846976)(h:KF (.val (int (bp places e))) σ):ar prog m 81 [bd e,int places] σ KF:=by
 unfold bp at h;refine fs [] 2 Tryz.func81 rfl rfl (by rfl) (by kernel_rfl) ?_;simp[Tryz.f81];refine cf Tryz.func80 rfl (c9 ?_);refine rn ?_;simp;refine aB.intro (λl=>?_) (λl=>?_)<;>(try simp[-Int.not_lt,-Int.not_le,-Nat.not_lt,-Nat.not_le]at l)<;>(try simp[l]at h)<;>(try simp[l])<;>(try exact .done h);refine⟨by omega,?_⟩;refine cf Tryz.func80 rfl (c9 ?_);refine rn ?_;simp;refine aB.intro (λn=>?_) (λn=>?_)<;>(try simp[-Int.not_lt,-Int.not_le,-Nat.not_lt,-Nat.not_le]at n)<;>(try simp[n]at h)<;>(try simp[n])<;>(try exact .done h);refine cf Tryz.func80 rfl (c9 ?_);refine rn ?_;simp;refine aB.intro (λo=>?_) (λo=>?_)<;>(try simp[-Int.not_lt,-Int.not_le,-Nat.not_lt,-Nat.not_le]at o)<;>(try simp[o]at h)<;>(try simp[o])<;>(try exact .done h)
 refine ab.loop e.marks.length (λk s=>∃env,s=⟨env,σ,[],.no⟩/\env 2=.cp (bd e) 0/\env 22=ints e.marks/\env 23=int e.marks.length/\env 24=int k/\kj none e.marks=kj (if k=0 then none else e.marks[k-1]?) (e.marks.drop k)) ⟨_,rfl,by simp⟩ ?_;rintro y k _ z ⟨env,rfl,j,g,i,b,a⟩ q;refine rn ?_;simp[i,b];refine aB.intro (λf=>?_) (λf=>?_)<;>(try simp[-Int.not_lt,-Int.not_le,-Nat.not_lt,-Nat.not_le]at f)<;>(try simp[j,g,b,f])
 . rw [Dg _ k f]at a
   refine cf Tryz.func80 rfl (c9 ?_);refine rn ?_;simp;refine aB.intro (λc=>?_) (λc=>?_)<;>(try simp[-Int.not_lt,-Int.not_le,-Nat.not_lt,-Nat.not_le]at c)<;>(try simp[c]at a)<;>(try simp[c])<;>(try exact .done a)
   . refine sK.intro (λd=>?_) (λd=>?_)<;>(try simp[-Int.not_lt,-Int.not_le,-Nat.not_lt,-Nat.not_le]at d)<;>(try simp[d]at a)<;>(try simp[j,b,d])<;>(try exact .done a)
     . have t:(k:Int)-1=((k-1:Nat):Int):=by omega
       have r:k-1<e.marks.length:=by omega
       have u:¬k=0:=by omega
       simp[t,r];repeat refine⟨by omega,?_⟩
       try simp[r,u,np]at a
       refine aB.intro (λp=>?_) (λp=>?_)<;>(try simp[-Int.not_lt,-Int.not_le,-Nat.not_lt,-Nat.not_le]at p)<;>(try simp[p]at a)<;>(try simp[b,p])<;>(try exact .done a)
       . simp[a]at h
         exact .done h
       . refine⟨by omega,q _ f ⟨_,rfl,by simp[j],by simp[g],by simp[i],by simp,?_⟩⟩
         simp[a,f]
     . have v:k=0:=by omega
       subst v;simp[np]at a;refine⟨by omega,q _ f ⟨_,rfl,by simp[j],by simp[g],by simp[i],by simp,?_⟩⟩;simp[a,f]
   . simp[a]at h
     exact .done h
 . have:k=e.marks.length:=by omega
   subst this;simp[kj]at a;simp[a]at h;refine cf Tryz.func80 rfl (c9 ?_);refine rn ?_;simp;refine aB.intro (λc=>?_) (λc=>?_)<;>(try simp[-Int.not_lt,-Int.not_le,-Nat.not_lt,-Nat.not_le]at c)<;>(try simp[c]at h)<;>(try simp[j,c])<;>(try exact .done h);refine cf Tryz.func80 rfl (c9 ?_);refine rn ?_;simp;refine aB.intro (λd=>?_) (λd=>?_)<;>(try simp[-Int.not_lt,-Int.not_le,-Nat.not_lt,-Nat.not_le]at d)<;>(try simp[d]at h)<;>(try simp[d])<;>(try exact .done h)
theorem fB{n:Nat}:∀{r:List (List Int)},dL n r=0->∀l∈r,l.length=n/\∀x∈l,cK x 0 9=true
 |[],_,l,c=>by simp at c
 | a :: r,h,l,c=>by
   unfold dL at h;split at h
   . next b=>
     rcases List.mem_cons.1 c with rfl|c
     . unfold gh at b
       split at b
       . cases b
       . next d=>
         split at b
         . next e=>exact⟨by simpa using d,λx f=>List.all_eq_true.1 e x f⟩
         . cases b
     . exact fB h l c
   . next b=>exact absurd h b
theorem cI{r:List (List Int)}{i j:Nat}(a:i<r.length)(b:j<r[i].length):rd r i j=r[i][j]:=by simp[rd,List.getD_eq_getElem?_getD,a,b]
theorem fX{a b c:Int}(h:cK a b c=true):b<=a/\a<=c:=by simpa[cK]using h
theorem vN{r:List (List Int)}(hr:r.length<1152921504606846976)(hl:∀l∈r,l.length<1152921504606846976)(h:KF (.val (int (dQ r))) σ):ar prog m 79 [rows r] σ KF:=by
 unfold dQ at h;refine fs Qr 1 Tryz.func79 rfl rfl (by rfl) (by kernel_rfl) ?_
 simp[Tryz.f79];refine aB.intro (λg1=>?_) (λg1=>?_)<;>simp at g1<;>simp[g1]
 . rw[if_pos (show r.length<1 by omega)]at h
   exact .done h
 refine aB.intro (λg2=>?_) (λg2=>?_)<;>simp at g2<;>simp[g2]
 . have X:¬r.length<1:=by omega
   have N:3<r.length:=by omega
   rw[if_neg (show ¬r.length<1 by omega),if_pos N]at h
   exact .done h
 have X:¬r.length<1:=by omega
 have N:¬3<r.length:=by omega
 rw[if_neg X,if_neg N]at h;refine ab.loop r.length (λk s=>∃env,s=⟨env,σ,[],.no⟩/\env 0=rows r/\env 19=rows r/\env 20=int r.length/\env 21=int k/\dL r.length r=dL r.length (r.drop k)) ⟨_,rfl,by simp⟩ ?_
 rintro c0 k _ hk ⟨env,rfl,b,p,q,n,v⟩ Y
 refine rn ?_;simp[q,n];refine aB.intro (λK=>?_) (λK=>?_)<;>(try simp[-Int.not_lt,-Int.not_le,-Nat.not_lt,-Nat.not_le]at K)<;>(try simp[b,p,n,K])
 . rw [uH _ _ k K]at v
   obtain⟨l,O⟩:∃l,l=r[k]:=⟨_,rfl⟩;simp only[<-O]at v ⊢;have ad:l.length<1152921504606846976:=hl l (by rw[O];exact List.getElem_mem K)
   refine aB.intro (λa=>?_) (λa=>?_)<;>simp at a<;>simp[a]
   . have x:l.length≠r.length:=λe=>a (by rw[e])
     simp[gh,x]at v;simp[v]at h;exact .done h
   have x:l.length=r.length:=by omega
   refine ab.loop l.length (λj s=>∃env,s=⟨env,σ,[],.no⟩/\env 0=rows r/\env 19=rows r/\env 20=int r.length/\env 21=int k/\env 30=ints l/\env 31=int l.length/\env 32=int j/\(l.take j).all (cK · 0 9)=true) ⟨_,rfl,by simp[b,p,q,n,x]⟩ ?_
   clear b p q n
   rintro c1 j _ L ⟨env,rfl,b,p,q,n,P,Q,G,y⟩ H
   refine rn ?_;simp[Q,G];refine aB.intro (λf=>?_) (λf=>?_)<;>(try simp[-Int.not_lt,-Int.not_le,-Nat.not_lt,-Nat.not_le]at f)<;>(try simp[n,P,G,f])
   . refine cf Tryz.func80 rfl (c9 ?_)
     refine rn ?_;simp;refine aB.intro (λw=>?_) (λw=>?_)<;>(try simp[-Int.not_lt,-Int.not_le,-Nat.not_lt,-Nat.not_le]at w)<;>(try simp[G,w])
     . refine⟨by omega,H _ f ⟨_,rfl,by simp[b],by simp[p],by simp[q],by simp[n],by simp[P],by simp[Q],by simp,?_⟩⟩
       rw[List.take_succ_eq_append_getElem f,List.all_append,y];simp[w]
     . have:l.all (cK · 0 9)=false:=by
        rw[List.all_eq_false];exact⟨_,List.getElem_mem f,by simp[w]⟩
       simp[gh,x,this]at v;simp[v]at h;exact .done h
   . have:j=l.length:=by omega
     subst this;rw[List.take_length]at y;have a7:gh r.length l=0:=by unfold gh;rw[if_neg (by simp[x]),if_pos y]
     rw[if_pos a7]at v;exact⟨by omega,Y _ K ⟨_,rfl,by simp[b],by simp[p],by simp[q],by simp,v⟩⟩
 have:k=r.length:=by omega
 subst this;simp[dL]at v;rw[if_neg (by rw[v];simp)]at h
 clear Y;have o:∀(i:Nat) (E:i<r.length),r[i].length=r.length:=λi E=>(fB v _ (List.getElem_mem E)).1
 have R:∀(i:Nat) (E:i<r.length) (j:Nat) (L:j<r[i].length),0<=r[i][j]/\r[i][j]<=9:=λi E j L=>fX ((fB v _ (List.getElem_mem E)).2 _ (List.getElem_mem L))
 refine ab.loop r.length (λi s=>∃env,s=⟨env,σ,[],.no⟩/\env 0=rows r/\env 41=rows r/\env 42=int r.length/\env 43=int i/\∀Z<i,∀j<r.length,bE r Z j=false) ⟨_,rfl,by simp[b]⟩ ?_
 clear b p q n
 rintro c1 i _ E ⟨env,rfl,b,g,d,c,z⟩ Y
 refine rn ?_;simp[d,c];refine aB.intro (λa=>?_) (λa=>?_)<;>(try simp[-Int.not_lt,-Int.not_le,-Nat.not_lt,-Nat.not_le]at a)<;>(try simp[b,c,a])
 . refine ab.loop r.length (λj s=>∃env,s=⟨env,σ,[],.no⟩/\env 0=rows r/\env 41=rows r/\env 42=int r.length/\env 43=int i/\env 8=int i/\env 46=rows r/\env 47=int r.length/\env 48=int j/\∀F<j,bE r i F=false) ⟨_,rfl,by simp[b,g,d,c]⟩ ?_
   clear b g d c
   rintro c2 j _ L ⟨env,rfl,b,g,d,c,C,A,u,t,S⟩ H
   refine rn ?_;simp[u,t];refine aB.intro (λf=>?_) (λf=>?_)<;>(try simp[-Int.not_lt,-Int.not_le,-Nat.not_lt,-Nat.not_le]at f)<;>(try simp[b,c,C,t,f])
   . have q1 : i<r[i].length:=by rw[o i a];exact a
     have M:j<r[i].length:=by rw[o i a];exact f
     have q3:i<r[j].length:=by rw[o j f];exact a
     simp[C,a,q1];refine F9.intro (λw=>?_) (λw=>?_)<;>(try simp[-Int.not_lt,-Int.not_le,-Nat.not_lt,-Nat.not_le]at w)<;>(try simp[b,C,w,a,f,M,q3])
     . refine rn ?_
       simp;refine aB.intro (λT=>?_) (λT=>?_)<;>(try simp[-Int.not_lt,-Int.not_le,-Nat.not_lt,-Nat.not_le]at T)<;>(try simp[b,T])
       ·
        have hb:bE r i j=true:=by unfold bE;rw[cI a M,cI f q3];simp[T]
        have:((List.range r.length).any λi=>(List.range r.length).any λj=>bE r i j)=true:=List.any_eq_true.2 ⟨i,List.mem_range.2 a,List.any_eq_true.2 ⟨j,List.mem_range.2 f,hb⟩⟩
        rw[if_pos this]at h;exact .done h
       . refine ab.loop r.length (λk s=>∃env,s=⟨env,σ,[],.no⟩/\env 0=rows r/\env 41=rows r/\env 42=int r.length/\env 43=int i/\env 8=int i/\env 46=rows r/\env 47=int r.length/\env 48=int j/\env 9=int j/\env 76=rows r/\env 77=int r.length/\env 78=int k/\∀U<k,¬rd r i j>rd r i U+rd r U j) ⟨_,rfl,by simp[b,g,d,c,C,A,u,t]⟩ ?_
         clear b g d c C A u t
         rintro c3 k _ hk ⟨env,rfl,b,g,d,c,C,A,u,t,h9,a8,V,I,W⟩ a9
         refine rn ?_;simp[V,I];refine aB.intro (λB=>?_) (λB=>?_)<;>(try simp[-Int.not_lt,-Int.not_le,-Nat.not_lt,-Nat.not_le]at B)<;>(try simp[b,C,t,I,B])
         . have p1:k<r[i].length:=by rw[o i a];exact B
           have p2:j<r[k].length:=by rw[o k B];exact f
           have b1:=R i a k p1;have b2:=R k B j p2;have f1:-9223372036854775808<=r[i][k]+r[k][j]:=by omega
           have f2:r[i][k]+r[k][j]<=9223372036854775807:=by omega
           simp[b,C,h9,a,B,M,p1,p2,f1,f2];refine rn ?_;simp;refine aB.intro (λD=>?_) (λD=>?_)<;>(try simp[-Int.not_lt,-Int.not_le,-Nat.not_lt,-Nat.not_le]at D)<;>(try simp[I,D])
           . have hb:bE r i j=true:=by
              unfold bE;have:((List.range r.length).any λk=>decide (rd r i j>rd r i k+rd r k j))=true:=List.any_eq_true.2 ⟨k,List.mem_range.2 B,by rw[cI a M,cI a p1,cI B p2];simpa using D⟩
              rw[this];simp
             have:((List.range r.length).any λi=>(List.range r.length).any λj=>bE r i j)=true:=List.any_eq_true.2 ⟨i,List.mem_range.2 a,List.any_eq_true.2 ⟨j,List.mem_range.2 f,hb⟩⟩
             rw[if_pos this]at h;exact .done h
           . refine⟨by omega,a9 _ B ⟨_,rfl,by simp[b],by simp[g],by simp[d],by simp[c],by simp[C],by simp[A],by simp[u],by simp[t],by simp[h9],by simp[a8],by simp[V],by simp,λU al=>?_⟩⟩
             by_cases e:U=k
             . subst e
               rw[cI a M,cI a p1,cI B p2];omega
             . exact W U (by omega)
         . have:k=r.length:=by omega
           subst this;refine⟨by omega,H _ f ⟨_,rfl,by simp[b],by simp[g],by simp[d],by simp[c],by simp[C],by simp[A],by simp[u],by simp,λF J=>?_⟩⟩
           by_cases e:F=j
           . subst e
             unfold bE
             have X:((List.range r.length).any λk=>decide (rd r i F>rd r i k+rd r k F))=false:=by rw[List.any_eq_false];intro k hk;simpa using W k (List.mem_range.1 hk)
             have N:rd r i i=0:=by rw[cI a q1];exact w
             have e3:rd r i F=rd r F i:=by rw[cI a M,cI f q3];exact T
             rw[X,N,e3];simp
           . exact S F (by omega)
     . have e:(r[i][i]!=0)=true:=by simp[w]
       simp[e];refine rn ?_;simp
       have hb:bE r i j=true:=by unfold bE;rw[cI a q1];simp[w]
       have:((List.range r.length).any λi=>(List.range r.length).any λj=>bE r i j)=true:=List.any_eq_true.2 ⟨i,List.mem_range.2 a,List.any_eq_true.2 ⟨j,List.mem_range.2 f,hb⟩⟩
       rw[if_pos this]at h;exact .done h
   . have:j=r.length:=by omega
     subst this;refine⟨by omega,Y _ a ⟨_,rfl,by simp[b],by simp[g],by simp[d],by simp,λZ av j J=>?_⟩⟩
     by_cases e:Z=i
     . subst e;exact S j J
     . exact z Z (by omega) j J
 . have:i=r.length:=by omega
   subst this
   have:((List.range r.length).any λi=>(List.range r.length).any λj=>bE r i j)=false:=by rw[List.any_eq_false];intro i E;rw[Bool.not_eq_true,List.any_eq_false];intro j L;rw[z i (List.mem_range.1 E) j (List.mem_range.1 L)];simp
   rw[this]at h;exact .done (by simpa using h)
theorem uM{f:Fr}(i:f.Fits)(h:KF (.val (int (check f))) σ):ar prog m 33 [aA f] σ KF:=by
 unfold check at h;have z:=i.roads;have x:=i.aq;refine fs [] 1 Tryz.func33 rfl rfl (by rfl) (by kernel_rfl) ?_;simp[Tryz.f33];refine cf Tryz.func79 rfl (vN i.roads i.row ?_);refine rn ?_;simp;refine aB.intro (λn=>?_) (λn=>?_)<;>(try simp[-Int.not_lt,-Int.not_le,-Nat.not_lt,-Nat.not_le]at n)<;>(try simp[n]at h)<;>(try simp[n])<;>(try exact .done h);refine cf Tryz.func80 rfl (c9 ?_);refine rn ?_;simp;refine sK.intro (λo=>?_) (λo=>?_)<;>(try simp[-Int.not_lt,-Int.not_le,-Nat.not_lt,-Nat.not_le]at o)<;>(try simp[o]at h)<;>(try simp[o])<;>(try exact .done h);refine cf Tryz.func80 rfl (c9 ?_);refine rn ?_;simp;refine aB.intro (λp=>?_) (λp=>?_)<;>(try simp[-Int.not_lt,-Int.not_le,-Nat.not_lt,-Nat.not_le]at p)<;>(try simp[p]at h)<;>(try simp[p])<;>(try exact .done h)
 refine aB.intro (λq=>?_) (λq=>?_)<;>(try simp[-Int.not_lt,-Int.not_le,-Nat.not_lt,-Nat.not_le]at q)<;>(try simp[q]at h)<;>(try simp[q])<;>(try exact .done h);refine cf Tryz.func80 rfl (c9 ?_);refine rn ?_;simp;refine sK.intro (λr=>?_) (λr=>?_)<;>(try simp[-Int.not_lt,-Int.not_le,-Nat.not_lt,-Nat.not_le]at r)<;>(try simp[r]at h)<;>(try simp[r])<;>(try exact .done h);refine cf Tryz.func80 rfl (c9 ?_);refine rn ?_;simp;refine aB.intro (λt=>?_) (λt=>?_)<;>(try simp[-Int.not_lt,-Int.not_le,-Nat.not_lt,-Nat.not_le]at t)<;>(try simp[t]at h)<;>(try simp[t])<;>(try exact .done h);refine aB.intro (λu=>?_) (λu=>?_)<;>(try simp[-Int.not_lt,-Int.not_le,-Nat.not_lt,-Nat.not_le]at u)<;>(try simp[u]at h)<;>(try simp[u])<;>(try exact .done h)
 refine ab.loop f.aq.length (λk s=>∃env a,s=⟨env,a,[],.no⟩/\σ.Le a/\env 1=.cp (aA f) 0/\env 47=qb f.aq/\env 48=int f.aq.length/\env 49=int k/\dh (bp f.roads.length) f.aq=dh (bp f.roads.length) (f.aq.drop k)) ⟨_,_,rfl,aa.le_refl _,by simp⟩ ?_;rintro A k _ B ⟨env,a,rfl,c,w,j,l,d,e⟩ y;refine rn ?_;simp[l,d];refine aB.intro (λg=>?_) (λg=>?_)<;>(try simp[-Int.not_lt,-Int.not_le,-Nat.not_lt,-Nat.not_le]at g)<;>(try simp[j,d,g])
 . rw[rW _ _ k g]at e
   refine cZ.intro λb hb=>?_
   simp[w];refine cf Tryz.func81 rfl (vM ⟨by omega,by omega⟩ (i.marks _ (List.getElem_mem g)) ?_);refine rn ?_;simp;refine aB.intro (λv=>?_) (λv=>?_)<;>(try simp[-Int.not_lt,-Int.not_le,-Nat.not_lt,-Nat.not_le]at v)<;>(try simp[v]at e)<;>(try simp[d,v])<;>(try exact .done e)
   . rw[e]at h
     exact .less (aa.fa c hb) (.done h)
   . exact⟨by omega,y _ g ⟨_,_,rfl,aa.fa c hb,by simp[w],by simp[j],by simp[l],by simp,e⟩⟩
 . have:k=f.aq.length:=by omega
   subst this;simp[dh]at e;rw[e]at h;exact .less c (.done h)
structure qe(σ:aa)(b mb:Nat)(σ':aa):Prop where
 hb:σ b=none
 yF:σ mb=none
 ne:b≠mb
 eq:σ'=(σ.set mb (mapA .u8 [])).set b (.part (br 6))
def Hq(f:Fr)(σ:aa):eI->aa->Prop:=λr a=>∃b mb,r=.val (.ref b 0)/\σ b=none/\σ mb=none/\b≠mb/\a=(σ.set mb (mapA .u8 [])).set b (.cells [qb f.aq,rows f.roads,int f.bh,int f.gE,int f.cS,int f.most,.lit (.int .i32 0),.lit (.int .u32 0),.map mb])
theorem uN{f:Fr}(h:∀b mb σ',qe σ b mb σ'->KF (.val (iL b mb f 0)) σ'):ar prog m 86 [aA f] σ KF:=by
 refine ar.share (KF0:=Hq f σ) ?_ ?_
 . refine ar.start lay [6] [] 1 Tryz.func86 rfl rfl (by rfl) (by kernel_rfl) ?_
   simp[Tryz.f86];refine Bh .u8 rfl λmb yF=>?_
   refine ab.run lay [6] ?_;simp[aJ];refine cZ.intro λb hb=>?_
   obtain⟨d,k,hb⟩:=aa.aL hb;simp;exact .done ⟨b,mb,rfl,hb,yF,d,rfl⟩
 . rintro r σ' ⟨b,mb,rfl,hb,yF,c,rfl⟩
   refine .inr ⟨b,_,[6,7],br 6,rfl,aa.an _ _ _,λi v a=>?_,λi=>?_,?_⟩
   . unfold br at a
     split at a
     . next e=>subst e;cases a;rfl
     . split at a
       . next e=>subst e;cases a;rfl
       . cases a
   . unfold br
     simp;constructor
     . intro h;split at h<;>simp_all
     . rintro⟨g,j⟩;simp[g,j]
   . exact h b mb _ ⟨hb,yF,c,by simp⟩
def cD(f:Fr)(l:List Int):Int:=if check f≠0 then check f else if l.all (cK · 0 (f.aq.length-1))then 0 else 3
theorem qf{f:Fr}{l:List Int}(o:f.Fits)(v:l.length<1152921504606846976)(n:cD f l≠0->KF (.val (.cq [.lit (.pointer none),int (cD f l)])) σ)
 (q:cD f l=0->∀b mb σ',qe σ b mb σ'->KF (.val (.cq [iL b mb f 0,int 0])) σ'):ar prog m 59 [aA f,ints l] σ KF:=by
 have r:=o.aq;refine fs [] 2 Tryz.func59 rfl rfl (by rfl) (by kernel_rfl) ?_
 simp[Tryz.f59];refine cf Tryz.func33 rfl (uM o ?_);refine rn ?_;simp;refine aB.intro (λc=>?_) (λc=>?_)<;>simp at c<;>simp[c]
 . have:cD f l=check f:=by unfold cD;rw[if_pos c]
   rw[this]at n;exact .done (n c)
 refine ab.loop l.length (λk s=>∃env,s=⟨env,σ,[],.no⟩/\env 2=.cp (aA f) 0/\env 14=ints l/\env 15=int l.length/\env 16=int k/\(l.take k).all (cK · 0 (f.aq.length-1))=true) ⟨_,rfl,by simp⟩ ?_
 rintro w k _ x ⟨env,rfl,p,h,i,d,a⟩ t
 refine rn ?_;simp[i,d];refine aB.intro (λg=>?_) (λg=>?_)<;>(try simp[-Int.not_lt,-Int.not_le,-Nat.not_lt,-Nat.not_le]at g)<;>(try simp[p,h,d,g])
 . refine⟨by omega,?_⟩
   refine cf Tryz.func80 rfl (c9 ?_);refine rn ?_;simp;refine aB.intro (λj=>?_) (λj=>?_)<;>(try simp[-Int.not_lt,-Int.not_le,-Nat.not_lt,-Nat.not_le]at j)<;>(try simp[d,j])
   . refine⟨by omega,t _ g ⟨_,rfl,by simp[p],by simp[h],by simp[i],by simp,?_⟩⟩
     rw[List.take_succ_eq_append_getElem g,List.all_append,a];simp[j]
   . have e:l.all (cK · 0 (f.aq.length-1))=false:=by
      rw[List.all_eq_false];exact⟨_,List.getElem_mem g,by simp[j]⟩
     have:cD f l=3:=by unfold cD;rw[if_neg (by simp[c]),e];rfl
     rw[this]at n;exact .done (n (by simp))
 . have:k=l.length:=by omega
   subst this;rw[List.take_length]at a;have:cD f l=0:=by unfold cD;rw[if_neg (by simp[c]),if_pos a]
   refine cf Tryz.func86 rfl (uN λb mb σ' u=>?_)
   refine rn ?_;simp;exact .done (q this b mb σ' u)
theorem Ka{b mb:Nat}{f:Fr}{l:List Int}(u:f.Fits)(z:l.length<1152921504606846976)(h:KF (.val (Qw (uJ f l))) σ):ar prog m 120 [iL b mb f 0,ints l] σ KF:=by
 have v:=u.aq;unfold uJ at h;refine fs [] 2 Tryz.func120 rfl rfl (by rfl) (by kernel_rfl) ?_;simp[Tryz.f120];refine aB.intro (λi=>?_) (λi=>?_)<;>simp at i<;>simp[i]
 . rw[if_pos (by simp[i])]at h
   exact .done h
 rw[if_neg (by simpa using i)]at h;refine ab.loop l.length (λk s=>∃env,s=⟨env,σ,[],.no⟩/\env 0=iL b mb f 0/\env 1=ints l/\env 12=ints l/\env 13=int l.length/\env 14=int k/\iM f none l=iM f (if k=0 then none else l[k-1]?) (l.drop k)) ⟨_,rfl,by simp⟩ ?_;rintro A k _ B ⟨env,rfl,p,q,e,g,c,a⟩ r;refine rn ?_;simp[g,c];refine aB.intro (λd=>?_) (λd=>?_)<;>(try simp[-Int.not_lt,-Int.not_le,-Nat.not_lt,-Nat.not_le]at d)<;>(try simp[p,e,c,d])
 . rw [BP f _ k d]at a
   refine⟨by omega,?_⟩;refine cf Tryz.func80 rfl (c9 ?_);refine rn ?_;simp;refine aB.intro (λj=>?_) (λj=>?_)<;>(try simp[-Int.not_lt,-Int.not_le,-Nat.not_lt,-Nat.not_le]at j)<;>(try simp[j]at a)<;>(try simp[j])<;>(try exact .done a)
   . refine sK.intro (λn=>?_) (λn=>?_)<;>(try simp[-Int.not_lt,-Int.not_le,-Nat.not_lt,-Nat.not_le]at n)<;>(try simp[n]at a)<;>(try simp[q,c,n])<;>(try exact .done a)
     . have w:(k:Int)-1=((k-1:Nat):Int):=by omega
       have t:k-1<l.length:=by omega
       have x:¬k=0:=by omega
       simp[w,t];repeat refine⟨by omega,?_⟩
       try simp[t,x,np]at a
       refine aB.intro (λo=>?_) (λo=>?_)<;>(try simp[-Int.not_lt,-Int.not_le,-Nat.not_lt,-Nat.not_le]at o)<;>(try simp[o]at a)<;>(try simp[c,o])<;>(try exact .done a)
       . rw[a]at h
         exact .done h
       . refine⟨by omega,r _ d ⟨_,rfl,by simp[p],by simp[q],by simp[e],by simp[g],by simp,?_⟩⟩
         simp[a,d]
     . have y:k=0:=by omega
       subst y;simp[np]at a;refine⟨by omega,r _ d ⟨_,rfl,by simp[p],by simp[q],by simp[e],by simp[g],by simp,?_⟩⟩;simp[a,d]
   . rw[a]at h
     exact .done h
 . have:k=l.length:=by omega
   subst this;simp[iM]at a;rw[a]at h;exact .done h
theorem OS{a:AV}(h:KF (.val (bool false)) σ):ar prog m 119 [.lit .nilIface,a] σ KF:=by
 refine fs [] 2 Tryz.func119 rfl rfl (by rfl) (by kernel_rfl) ?_;simp[Tryz.f119];refine mZ lay rfl Oz rfl (.inl ⟨rfl,rfl⟩) (.inl ⟨rfl,rfl⟩) ?_;refine rn ?_;simp;exact .done h
end Go.Proofs.YtldmpfccgajobaaGreatDoor
namespace Go.Proofs.YtldmpfccgajobaaGreatDoor
open Tryz (prog)
open Go.bG Go.Conc
set_option maxHeartbeats 1000000
set_option maxRecDepth 4000
variable{m:Mo}{σ:aa}{KF:eI->aa->Prop}
theorem ow(first:List Int)(others:List (List Int))(k:Nat)(h:k<first.length):fT (first.take (k+1)) others=fT (first.take k) others++if others.all (λl=>decide (first[k]∈l))then[first[k]]else[]:=by unfold fT;rw[List.take_succ_eq_append_getElem h,List.filter_append];simp only[List.filter_cons,List.filter_nil]
theorem yq(first:List Int)(others:List (List Int)):(fT first others).length<=first.length:=List.length_filter_le _ _
theorem Et{first:List Int}{others:List (List Int)}{sp g:bV}(B:first.length<=1000000000)(C:others.length<1152921504606846976)(i:∀l∈others,l.length<1152921504606846976)(h:KF (.val (ints (fT first others))) σ):ar prog m 103 [.sl 1 (first.map int) sp,.sl 1 (others.map ints) g] σ KF:=by
 refine fs [] 2 Tryz.func103 rfl rfl (by rfl) (by kernel_rfl) ?_
 simp[Tryz.f103];refine ab.loop first.length (λk s=>∃env e,s=⟨env,e,[],.no⟩/\env 0=.sl 1 (first.map int) sp/\env 1=.sl 1 (others.map ints) g/\env 10=.sl 1 (first.map int) sp/\env 11=int first.length/\env 12=int k/\Tok σ e (env 5) 1 ((fT (first.take k) others).map int)) ⟨_,_,rfl,by simp,by simp,by simp,by simp,by simp,.nil σ 1⟩ ?_
 rintro D k _ E ⟨env,e,rfl,r,n,c,d,b,a⟩ y
 refine rn ?_;simp[d,b];have hlen:=yq (first.take k) others
 rw[List.length_take]at hlen;refine aB.intro (λo=>?_) (λo=>?_)<;>(try simp[-Int.not_lt,-Int.not_le,-Nat.not_lt,-Nat.not_le]at o)<;>(try simp[n,c,b,o])
 . refine ab.loop others.length (λj s=>∃env,s=⟨env,e,[],.no⟩/\env 0=.sl 1 (first.map int) sp/\env 1=.sl 1 (others.map ints) g/\env 10=.sl 1 (first.map int) sp/\env 11=int first.length/\env 12=int k/\Tok σ e (env 5) 1 ((fT (first.take k) others).map int)/\env 7=int first[k]/\env 16=.sl 1 (others.map ints) g/\env 17=int others.length/\env 18=int j/\∀l∈others.take j,first[k]∈l) ⟨_,rfl,by simp[r,n,c,d,b,a]⟩ ?_
   clear r n c d b a
   rintro F j _ G ⟨env,rfl,r,n,c,d,b,a,z,t,u,p,f⟩ w
   refine rn ?_;simp[u,p];refine aB.intro (λq=>?_) (λq=>?_)<;>(try simp[-Int.not_lt,-Int.not_le,-Nat.not_lt,-Nat.not_le]at q)<;>(try simp[z,t,p,q])
   . refine cf Tryz.func124 rfl (i9 (i _ (List.getElem_mem q)) ?_)
     refine rn ?_;simp;refine aB.intro (λv=>?_) (λv=>?_)<;>(try simp[-Int.not_lt,-Int.not_le,-Nat.not_lt,-Nat.not_le]at v)<;>(try simp[b,p,v])
     . refine⟨by omega,w _ q ⟨_,rfl,by simp[r],by simp[n],by simp[c],by simp[d],by simp[b],by simpa using a,by simp[z],by simp[t],by simp[u],by simp,λl i=>?_⟩⟩
       rw[List.take_succ_eq_append_getElem q,List.mem_append,List.mem_singleton]at i
       rcases i with i|rfl
       . exact f l i
       . exact v
     . refine⟨by omega,y _ o ⟨_,_,rfl,by simp[r],by simp[n],by simp[c],by simp[d],by simp,?_⟩⟩
       have:others.all (λl=>decide (first[k]∈l))=false:=by rw[List.all_eq_false];exact⟨_,List.getElem_mem q,by simp[v]⟩
       rw[ow _ _ _ o,this];simpa using a
   . have:j=others.length:=by omega
     subst this;rw[List.take_length]at f;refine aH lay rfl rfl rfl cr rfl cr rfl qa (by decide) (by simp;omega) (σ0:=σ) (es:=(fT (first.take k) others).map int) (xs:=[int first[k]]) (by simpa using a) (.inr ⟨_,rfl⟩) λH A x=>?_
     refine rn ?_;simp[b];refine⟨by omega,y _ o ⟨_,_,rfl,by simp[r],by simp[n],by simp[c],by simp[d],by simp,?_⟩⟩
     have:others.all (λl=>decide (first[k]∈l))=true:=by rw[List.all_eq_true];exact λl i=>by simpa using f l i
     rw[ow _ _ _ o,this];simpa using x
 . have:k=first.length:=by omega
   subst this;rw[List.take_length]at a;exact .jm a.W (.less a.1 (.done h))
structure Fr.Good(f:Fr):Prop where
 fits:f.Fits
 fr:0<=f.bh/\f.bh<=3
 to:0<=f.gE/\f.gE<=3
 le:f.bh<=f.gE
 cS:1<=f.cS/\f.cS<=6
 most:1<=f.most/\f.most<=6
 sH:f.aq.length<=6
 vr:∀e∈f.aq,bp f.roads.length e=0
 Jd:dQ f.roads=0
theorem oy(g:gL->Int):∀{l:List gL},dh g l=0->∀e∈l,g e=0
 |[],_,e,he=>by simp at he
 | a ::l,h,e,he=>by
   unfold dh at h;split at h
   . next b=>
     rcases List.mem_cons.1 he with rfl|he
     . exact b
     . exact oy g h e he
   . next b=>exact absurd h b
theorem Fr.mQ{f:Fr}(c:f.Fits)(h:check f=0):f.Good:=by
 unfold check at h;split at h
 . next q=>exact absurd h q
 next d=>
 split at h
 . cases h
 next a=>
 split at h
 . cases h
 next e=>
 split at h
 . cases h
 next b=>
 split at h
 . cases h
 next g=>
 simp only[Bool.not_eq_false,Bool.and_eq_true]at a b;exact⟨c,fX a.1,fX a.2,by omega,fX b.1,fX b.2,by omega,oy _ h,by simpa using d⟩
theorem lK{p:Int}{e:gL}(h:bp p e=0):(0<=e.hour/\e.hour<=72)/\(0<=e.place/\e.place<=p-1)/\(0<=e.bk/\e.bk<=5)/\(0<=e.aG/\e.aG<=30)/\(0<=e.eE/\e.eE<=2)/\kj none e.marks=0:=by
 unfold bp at h;split at h
 . cases h
 next a=>
 split at h
 . cases h
 next b=>
 split at h
 . cases h
 next c=>
 split at h
 . next q=>exact absurd h q
 next g=>
 split at h
 . cases h
 next d=>
 split at h
 . cases h
 next f=>
 simp only[Bool.not_eq_false]at a b c d f;exact⟨fX a,fX b,fX c,fX d,fX f,by simpa using g⟩
theorem wO{f:Fr}(a:f.Good)(e:gL):(eT f e).length<=4:=by
 unfold eT;have:=a.fr;have:=a.to;split
 . rw[List.length_map,List.length_range];omega
 . simp
theorem wP{f:Fr}(a:f.Good)(e:gL):(bu f e).length<=5:=by
 unfold bu;have:=wO a e;split
 . rw[List.length_append];simp;omega
 . omega
theorem Ai{f:Fr}{e:gL}(h:e.eE≠0):eT f e=(List.range (f.gE-f.bh+1).toNat).map λi:Nat=>e.aG-f.gE+(i:Int):=if_pos h
theorem uO{b mb:Nat}{f:Fr}{l:List Int}(H:f.Good)(O:l≠[])(hl:l.length<=1000000)(hb:∀n∈l,0<=n/\n<f.aq.length)(h:KF (.val (ints (du f l))) σ):ar prog m 73 [iL b mb f 0,ints l] σ KF:=by
 have h6:=H.sH;have av:=H.fr;have ax:=H.to;have ay:=H.le;refine fs Qn 2 Tryz.func73 rfl rfl (by rfl) (by kernel_rfl) ?_
 simp[Tryz.f73];refine ab.loop l.length (λk s=>∃env A,s=⟨env,A,[],.no⟩/\env 0=iL b mb f 0/\env 11=ints l/\env 12=int l.length/\env 13=int k/\Tok σ A (env 5) 1 ((l.take k).map λn=>ints (bu f (aO f n)))) ⟨_,_,rfl,by simp,by simp,by simp,by simp,.nil σ 1⟩ ?_
 rintro c0 k _ hk ⟨env,A,rfl,C,p,g,o,d⟩ T
 rcases Nat.lt_or_ge k l.length with g1|g1
 . obtain ⟨L,n1⟩:=hb _ (List.getElem_mem g1)
   have n2:l[k].toNat<f.aq.length:=by omega
   obtain⟨e,he⟩:∃e,e=f.aq[l[k].toNat]:=⟨_,rfl⟩;have a7:aO f l[k]=e:=by simp[aO,List.getD_eq_getElem?_getD,n2,he]
   have b0:=lK (H.vr e (by rw[he];exact List.getElem_mem n2))
   have t:(l.take (k+1)).map (λn=>ints (bu f (aO f n)))=(l.take k).map (λn=>ints (bu f (aO f n)))++[ints (bu f e)]:=by rw[List.take_succ_eq_append_getElem g1,List.map_append];simp[a7]
   refine rn ?_;simp[C,p,g,o,g1,L,n2,<-he];refine cZ.intro λc U=>?_
   simp
   have a8:σ c=none:=by
    cases q:σ c with
    |none=>rfl
    |some x=>rw[d.1 c x q]at U;cases U
   have B:Tok σ (A.set c (.cells [int e.hour,int e.place,int e.bk,ints e.marks,int e.aG,int e.eE])) (env 5) 1 ((l.take k).map λn=>ints (bu f (aO f n))):=d.beside a8 (λq=>by obtain⟨_,x,hx⟩:=d.be q;rw[hx]at U;cases U)
   have G:(A.set c (.cells [int e.hour,int e.place,int e.bk,ints e.marks,int e.aG,int e.eE])) c=some (.cells [int e.hour,int e.place,int e.bk,ints e.marks,int e.aG,int e.eE]):=aa.an _ _ _;generalize A.set c (.cells [int e.hour,int e.place,int e.bk,ints e.marks,int e.aG,int e.eE])=D at B G;refine aB.intro (λM=>?_) (λM=>?_)<;>simp at M<;>simp[M]
   . have f1:-9223372036854775808<=f.gE-f.bh/\f.gE-f.bh<=9223372036854775807:=by omega
     have f2:-9223372036854775808<=f.gE-f.bh+1/\f.gE-f.bh+1<=9223372036854775807:=by omega
     simp[C,f1.1,f1.2,f2.1,f2.2];refine rn ?_;simp;obtain⟨a5,I⟩:∃a,a=env 5:=⟨_,rfl⟩;rw[<-I]at B;obtain⟨cnt,P⟩:∃cnt:Nat,(cnt:Int)=f.gE-f.bh+1:=⟨(f.gE-f.bh+1).toNat,by omega⟩
     have b1:cnt<=4:=by omega
     have a9:eT f e=(List.range cnt).map λi:Nat=>e.aG-f.gE+(i:Int):=by rw[Ai M];congr 2;omega
     refine ab.loop cnt (λj s=>∃env J,s=⟨env,J,[],.no⟩/\env 0=iL b mb f 0/\env 11=ints l/\env 12=int l.length/\env 13=int k/\env 5=a5/\env 8=.ref c 0/\env 41=int cnt/\env 42=int j/\Tok D J (env 9) 1 (((List.range j).map λi:Nat=>e.aG-f.gE+(i:Int)).map int)) ⟨_,_,rfl,by simp[C,p,g,o,<-I,P,Tok.nil]⟩ ?_
     clear C p g o d I
     rintro c1 j _ hj ⟨env,J,rfl,C,p,g,o,V,N,E,F,u⟩ ad
     have v:=u.1 _ _ G
     rcases Nat.lt_or_ge j cnt with g3|g3
     . have f3:-9223372036854775808<=e.aG-f.gE/\e.aG-f.gE<=9223372036854775807:=by omega
       have f4:-9223372036854775808<=e.aG-f.gE+j/\e.aG-f.gE+j<=9223372036854775807:=by omega
       refine rn ?_;simp[C,N,E,F,g3,v,f3.1,f3.2,f4.1,f4.2];refine aH lay rfl rfl rfl cr rfl cr rfl qa (by decide) (by simp only[List.length_map,List.length_range,List.length_cons,List.length_nil];omega) (σ0:=D) (es:=((List.range j).map λi:Nat=>e.aG-f.gE+(i:Int)).map int) (xs:=[int (e.aG-f.gE+j)]) (by simpa using u) (.inr ⟨_,rfl⟩) λa' Q w=>?_
       refine pg ?_;simp;refine rn ?_;simp[F];refine⟨by omega,ad _ g3 ⟨_,_,rfl,by simp[C],by simp[p],by simp[g],by simp[o],by simp[V],by simp[N],by simp[E],by simp,?_⟩⟩
       rw[List.range_succ,List.map_append,List.map_append];simpa using w
     . have:j=cnt:=by omega
       subst this;rw[<-a9]at u;have b2:=wO H e;have X:Wl [env 9,int e.aG] [ints (eT f e),int e.aG]:=.cons u.W (.cons (.refl _) .nil)
       by_cases Y:e.eE=1
       . refine ab.Hk 9 u.W ?_
         have y:bu f e=eT f e:=if_neg λq=>q.1 Y
         refine rn ?_;simp[V,N,E,F,v,Y];refine aH lay rfl rfl rfl lJ rfl lJ rfl cr (by decide) (by simp;omega) (σ0:=σ) (es:=(l.take k).map λn=>ints (bu f (aO f n))) (xs:=[ints (bu f e)]) (by simpa using B.up u.1) (.inr ⟨_,by rw[y];simp;rfl⟩) λa4 K z=>?_
         refine rn ?_;simp[o];refine⟨by omega,T _ g1 ⟨_,_,rfl,by simp[C],by simp[p],by simp[g],by simp,?_⟩⟩
         rw[t];simpa using z
       . have R:(e.eE !=1)=true:=by simp[Y]
         by_cases Z:e.aG∈eT f e
         . have y:bu f e=eT f e:=if_neg λq=>q.2 Z
           refine rn ?_;simp[N,E,F,v,R];refine bi Tryz.func124 rfl rfl X (i9 (by omega) ?_)
           refine ab.Hk 9 (a':=ints (eT f e)) (by simpa using u.W) ?_
           refine rn ?_;simp[V,Z];refine aH lay rfl rfl rfl lJ rfl lJ rfl cr (by decide) (by simp;omega) (σ0:=σ) (es:=(l.take k).map λn=>ints (bu f (aO f n))) (xs:=[ints (bu f e)]) (by simpa using B.up u.1) (.inr ⟨_,by rw[y];simp;rfl⟩) λa4 K z=>?_
           refine rn ?_;simp[o];refine⟨by omega,T _ g1 ⟨_,_,rfl,by simp[C],by simp[p],by simp[g],by simp,?_⟩⟩
           rw[t];simpa using z
         . have y:bu f e=eT f e++[e.aG]:=if_pos ⟨Y,Z⟩
           refine rn ?_;simp[N,E,F,v,R];refine bi Tryz.func124 rfl rfl X (i9 (by omega) ?_)
           refine rn ?_;simp[N,Z,v];refine aH lay rfl rfl rfl cr rfl cr rfl qa (by decide) (by simp;omega) (σ0:=D) (es:=(eT f e).map int) (xs:=[int e.aG]) (by simpa using u) (.inr ⟨_,rfl⟩) λa' Q w=>?_
           refine ab.Hk 74 (a':=AV.sl 1 ((eT f e).map int++[int e.aG]) .any) (by simpa using w.W) ?_
           refine rn ?_;simp[V];refine aH lay rfl rfl rfl lJ rfl lJ rfl cr (by decide) (by simp;omega) (σ0:=σ) (es:=(l.take k).map λn=>ints (bu f (aO f n))) (xs:=[ints (bu f e)]) (by simpa using B.up w.1) (.inr ⟨_,by rw[y];simp;rfl⟩) λa4 K z=>?_
           refine rn ?_;simp[o];refine⟨by omega,T _ g1 ⟨_,_,rfl,by simp[C],by simp[p],by simp[g],by simp,?_⟩⟩
           rw[t];simpa using z
   . have y:bu f e=[e.aG]:=by
      simp[bu,eT,M]
     simp[G,M];have X:Wl [AV.lit (.slice none 0 0),int e.aG] [ints [],int e.aG]:=.cons (gl 1) (.cons (.refl _) .nil);refine bi Tryz.func124 rfl rfl X (i9 (by simp) ?_)
     refine rn ?_;simp[G];refine aH lay rfl rfl rfl cr rfl cr rfl qa (by decide) (by simp) (σ0:=D) (es:=[]) (xs:=[int e.aG]) (by simpa using Tok.nil D 1) (.inr ⟨_,rfl⟩) λa' Q w=>?_
     refine ab.Hk 74 (a':=AV.sl 1 [int e.aG] .any) (by simpa using w.W) ?_
     refine rn ?_;simp;refine aH lay rfl rfl rfl lJ rfl lJ rfl cr (by decide) (by simp;omega) (σ0:=σ) (es:=(l.take k).map λn=>ints (bu f (aO f n))) (xs:=[ints (bu f e)]) (by simpa using B.up w.1) (.inr ⟨_,by rw[y];simp;rfl⟩) λa4 K z=>?_
     refine rn ?_;simp[o];refine⟨by omega,T _ g1 ⟨_,_,rfl,by simp[C],by simp[p],by simp[g],by simp,?_⟩⟩
     rw[t];simpa using z
 . have:k=l.length:=by omega
   subst this;rw[List.take_length]at d;refine ab.Hk 5 d.W ?_;have S:0<l.length:=List.length_pos_iff.2 O;refine rn ?_;simp[g,o,S];refine tE lay rfl lJ rfl cr (es:=l.map λn=>ints (bu f (aO f n))) (sp:=.any) (l:=1) (h:=l.length) ?_ (λcap al=>⟨rfl,⟨rfl,by simp⟩,⟨_,rfl⟩,by first|omega|(simp;omega)⟩) (by simp) ?_
   . simp
   obtain⟨L,r,rfl⟩:∃L r,l=L::r:=by
    cases l with
    |nil=>exact absurd rfl O
    |cons a r=>exact⟨a,r,rfl⟩
   refine pg ?_;simp
   have e:List.take r.length (List.map (λn=>ints (bu f (aO f n))) r)=(r.map λn=>bu f (aO f n)).map ints:=by
    rw[List.take_of_length_le (by simp)]
    simp
   rw[e];have hlen:=wP H (aO f L);refine cf Tryz.func103 rfl (Et (first:=bu f (aO f L)) (others:=r.map λn=>bu f (aO f n)) (by omega) (by simp at hl ⊢;omega) (λx hx=>?_) ?_)
   . obtain⟨n,_,rfl⟩:=List.mem_map.1 hx
     have:=wP H (aO f n);omega
   refine pg ?_;simp;refine rn ?_;simp;refine .less d.1 (.done ?_);simpa[du]using h
theorem rX{f:Fr}(h:check f=0):cD f []=0:=by unfold cD;rw[if_neg (by simp[h])];rfl
theorem uP{f:Fr}{l:List Int}(h:check f=0)(a:∀n∈l,0<=n/\n<f.aq.length):cD f l=0:=by
 unfold cD;rw[if_neg (by simp[h]),if_pos];rw[List.all_eq_true];intro n b;have:=a n b;simp[cK];omega
theorem qe.le{σ σ':aa}{b mb:Nat}(h:qe σ b mb σ'):σ.Le σ':=by rw[h.eq];exact aa.fa (aa.fa (aa.le_refl _) h.yF) (by rw[aa.aj _ _ h.ne];exact h.hb)
structure L6(f:Fr)(l:List Int):Prop where
 ok:uJ f l=0
 len:l.length<=1000000
theorem Di(f:Fr):∀{l:List Int}{p:Option Int},iM f p l=0->∀n∈l,0<=n/\n<f.aq.length
 |[],_,_,n,hn=>by simp at hn
 | a::l,p,h,n,hn=>by
   unfold iM at h;split at h
   . cases h
   next b=>
   split at h
   . cases h
   next c=>
   rcases List.mem_cons.1 hn with rfl|hn
   . simp[cK]at b;omega
   . exact Di f h n hn
theorem L6.mem{f:Fr}{l:List Int}(h:L6 f l):∀n∈l,0<=n/\n<f.aq.length:=by
 have:=h.ok;unfold uJ at this;split at this
 . cases this
 . exact Di f this
theorem L6.ne{f:Fr}{l:List Int}(h:L6 f l):l≠[]:=λe=>by have:=h.ok;subst e;simp[uJ]at this
theorem wQ{f:Fr}{l:List Int}(e:f.Fits)(i:check f=0)(g:L6 f l)(h:∀b mb σ',qe σ b mb σ'->KF (.val (.cq [iL b mb f 0,int 0])) σ'):ar prog m 69 [aA f,ints l] σ KF:=by
 have j:=g.len;refine fs Ql 2 Tryz.func69 rfl rfl (by rfl) (by kernel_rfl) ?_;simp[Tryz.f69];have a:=rX i;have k:Wl [AV.agg (eS f),AV.lit (.slice none 0 0)] [aA f,ints []]:=.cons (.refl _) (.cons (gl 1) .nil);refine bi Tryz.func59 rfl rfl k (qf e (by simp) (λq=>absurd a q) λ_ b mb σ' n=>?_);refine rn ?_;simp;refine cZ.intro λc d=>?_
 simp;refine cf Tryz.func120 rfl (Ka e (by omega) ?_);rw[g.ok];refine rn ?_;simp;refine cf Tryz.func119 rfl (OS ?_);refine rn ?_;simp;exact .less (aa.fa (aa.le_refl _) d) (.done (h b mb σ' n))
theorem BR{f:Fr}{l:List Int}(c:f.Fits)(d:check f=0)(a:L6 f l)(h:KF (.val (.cq [ints (du f l),int 0])) σ):ar prog m 28 [aA f,ints l] σ KF:=by
 refine fs [] 2 Tryz.func28 rfl rfl (by rfl) (by kernel_rfl) ?_;simp[Tryz.f28];refine cf Tryz.func69 rfl (wQ c d a λb mb e g=>?_);refine rn ?_;simp;refine cf Tryz.func73 rfl (uO (Fr.mQ c d) a.ne a.len a.mem ?_);refine rn ?_;simp;exact .less g.le (.done h)
theorem yr{a n:Int}(b:0<=n)(h:KF (.val (u8 (bw a n))) σ):ar prog m 208 [u8 a,int n] σ KF:=by
 refine fs [] 2 Tryz.func208 rfl rfl (by rfl) (by kernel_rfl) ?_;simp[Tryz.f208];refine⟨b,?_⟩;simp[Af];exact .done h
theorem mz{l:List Int}(o:l.length<1152921504606846976)(f:∀n∈l,0<=n)(h:KF (.val (u8 (aT l))) σ):ar prog m 206 [ints l] σ KF:=by
 refine fs [] 1 Tryz.func206 rfl rfl (by rfl) (by kernel_rfl) ?_;simp[Tryz.f206];refine ab.loop l.length (λk s=>∃env,s=⟨env,σ,[],.no⟩/\env 3=u8 (aT (l.take k))/\env 4=.fn (.func 208) [u8 (aT (l.take k))] []/\env 9=ints l/\env 10=int l.length/\env 11=int k) ⟨_,rfl,by simp[aT]⟩ ?_;rintro p k _ q ⟨env,rfl,g,i,d,c,a⟩ j;refine rn ?_;simp[c,a];refine aB.intro (λb=>?_) (λb=>?_)<;>(try simp[-Int.not_lt,-Int.not_le,-Nat.not_lt,-Nat.not_le]at b)<;>(try simp[g,i,d,a,b])
 . have e:aT (l.take (k+1))=bw (aT (l.take k)) l[k]:=by
    unfold aT;rw[List.take_succ_eq_append_getElem b,List.foldl_append];rfl
   refine eP Tryz.func208 rfl rfl rfl (yr (f _ (List.getElem_mem b)) ?_);rw[<-e];refine rn ?_;simp[a];exact⟨by omega,j _ b ⟨_,rfl,by simp[d,c]⟩⟩
 . have:k=l.length:=by omega
   subst this;rw[List.take_length];exact .done h
def ys(x:Int):Int:=Dh x (Lk x 1)
def qg:Nat->Int->Int
 |0,x=>x
 |n+1,x=>ys (qg n x)
def Eu:Nat->Int->Int
 |0,_=>0
 |n+1,x=>if x=0 then 0 else 1+Eu n (ys x)
def bc(a b:Int):Int:=Eu 8 (uK a b)
theorem uQ{a b:Int}(g:qg 8 (uK a b)=0)(h:KF (.val (int (bc a b))) σ):ar prog m 207 [u8 a,u8 b] σ KF:=by
 refine fs [] 2 Tryz.func207 rfl rfl (by rfl) (by kernel_rfl) ?_
 simp[Tryz.f207,Eq];refine ab.loop 8 (λk s=>∃env,s=⟨env,σ,[],.no⟩/\env 5=int k/\env 6=u8 (qg k (uK a b))/\bc a b=k+Eu (8-k) (qg k (uK a b))) ⟨_,rfl,by simp,by simp;rfl,by simp[qg,bc]⟩ ?_
 rintro n k _ o ⟨env,rfl,i,f,d⟩ j
 refine rn ?_;simp[f];refine aB.intro (λc=>?_) (λc=>?_)<;>(try simp[-Int.not_lt,-Int.not_le,-Nat.not_lt,-Nat.not_le]at c)<;>(try simp[i,f,c])
 . have l:k<8:=by
    rcases Nat.lt_or_ge k 8 with q|q
    . exact q
    . have:k=8:=by omega
      subst this;exact absurd g c
   refine⟨by omega,?_⟩
   simp[wM,Er];refine j _ l ⟨_,rfl,by simp,by simp[qg,ys],?_⟩
   have e:8-k=(8-(k+1))+1:=by omega
   rw[e,Eu,if_neg c]at d;rw[d];simp only[qg];omega
 . rw[c]at d
   have e:Eu (8-k) 0=0:=by cases 8-k<;>simp[Eu]
   rw[e]at d;rw[d]at h;exact .done (by simpa using h)
abbrev uR(x:Int):AV:=.agg [u8 x]
theorem Kb{x n:Int}(a:0<=n)(h:KF (.val (uR (bw x n))) σ):ar prog m 115 [uR x,int n] σ KF:=by
 refine ar.start lay [2] OI 2 Tryz.func115 rfl rfl (by rfl) (by kernel_rfl) ?_;simp[Tryz.f115];refine cZ.intro λc f=>?_
 simp;refine cZ.intro λd hd=>?_
 obtain⟨b,e,hd⟩:=aa.aL hd;simp[e,aa.aj,Af,a];refine ab.run lay [2] ?_;simp[b,aa.aj];exact .less (by repeat (first|exact aa.le_refl _|assumption|refine aa.iz ?_ (by assumption)|refine aa.jQ ?_ (by assumption))) (.done h)
theorem Hr{x:Int}(h:KF (.val (ints (bS x))) σ):ar prog m 150 [uR x] σ KF:=by
 refine fs [] 1 Tryz.func150 rfl rfl (by rfl) (by kernel_rfl) ?_
 simp[Tryz.f150];refine ab.loop 6 (λk s=>∃env b,s=⟨env,b,[],.no⟩/\env 1=.cp (uR x) 0/\env 5=int k/\Tok σ b (env 3) 1 ((((List.range k).map λn:Nat=>(n:Int)).filter λn=>kT x n).map int)) ⟨_,_,rfl,by simp,by simp,.nil σ 1⟩ ?_
 rintro o k _ p ⟨env,b,rfl,d,c,a⟩ g
 rcases Nat.lt_or_ge k 6 with g1|g1
 . have e:(k:Int)<6:=by omega
   have q:(((List.range k).map λn:Nat=>(n:Int)).filter λn=>kT x n).length<=k:=by refine Nat.le_trans (List.length_filter_le _ _) ?_;rw[List.length_map,List.length_range];exact Nat.le_refl _
   have i:(((List.range (k+1)).map λn:Nat=>(n:Int)).filter λn=>kT x n)=(((List.range k).map λn:Nat=>(n:Int)).filter λn=>kT x n)++if kT x k then[(k:Int)]else[]:=by rw[List.range_succ,List.map_append,List.filter_append];simp[List.filter_cons]
   refine rn ?_;simp[d,c,e,wM];have j:kT x k=(Dh (x.fdiv (2 ^ min k IntKind.u8.bits)) 1==1):=by simp[kT]
   rw[<-j];cases hb:kT x k
   . simp[c]
     refine⟨by omega,g _ g1 ⟨_,_,rfl,by simp[d],by simp,?_⟩⟩
     rw[i,hb];simpa using a
   . simp
     refine aH lay rfl rfl rfl cr rfl cr rfl qa (by decide) (by simp only[List.length_map,List.length_cons,List.length_nil];omega) (σ0:=σ) (es:=(((List.range k).map λn:Nat=>(n:Int)).filter λn=>kT x n).map int) (xs:=[int k]) (by simpa using a) (.inr ⟨_,rfl⟩) λr l f=>?_
     refine rn ?_;simp[c];refine⟨by omega,g _ g1 ⟨_,_,rfl,by simp[d],by simp,?_⟩⟩
     rw[i,hb];simpa using f
 . have:k=6:=by omega
   subst this;refine rn ?_;simp[c];exact .jm a.W (.less a.1 (.done h))
def lL(a b:Int):Int:=if 0<a/\a<b then 3 else if a=b then 1 else 2
theorem BS{a b:Int}(h:KF (.val (int (lL a b))) σ):ar prog m 100 [int a,int b] σ KF:=by
 unfold lL at h;refine fs [] 2 Tryz.func100 rfl rfl (by rfl) (by kernel_rfl) ?_;simp[Tryz.f100];refine sK.intro (λd=>?_) (λd=>?_)<;>(try simp[-Int.not_lt,-Int.not_le,-Nat.not_lt,-Nat.not_le]at d)<;>(try simp[d]at h)<;>(try simp[d])<;>(try exact .done h)
 . refine aB.intro (λe=>?_) (λe=>?_)<;>(try simp[-Int.not_lt,-Int.not_le,-Nat.not_lt,-Nat.not_le]at e)<;>(try simp[e]at h)<;>(try simp[e])<;>(try exact .done h)
   . have:a≠b:=by omega
     refine aB.intro (λc=>?_) (λc=>?_)<;>(try simp[-Int.not_lt,-Int.not_le,-Nat.not_lt,-Nat.not_le]at c)<;>(try simp[c])
     . exact absurd c this
     . exact .done h
   . refine aB.intro (λc=>?_) (λc=>?_)<;>(try simp[-Int.not_lt,-Int.not_le,-Nat.not_lt,-Nat.not_le]at c)<;>(try simp[c]at h)<;>(try simp[c])<;>(try exact .done h)
 . refine aB.intro (λc=>?_) (λc=>?_)<;>(try simp[-Int.not_lt,-Int.not_le,-Nat.not_lt,-Nat.not_le]at c)<;>(try simp[c]at h)<;>(try simp[c])<;>(try exact .done h)
theorem Ev{l:List Int}(b:l≠[])(d:l.length<=1000000000)(h:∀a σ',bn σ σ' a 1 (l.map int)->KF (.val a) σ'):ar prog m 99 [ints l] σ KF:=by
 refine fs [] 1 Tryz.func99 rfl rfl (by rfl) (by kernel_rfl) ?_;simp[Tryz.f99];refine yO lay rfl cr rfl rfl (.inr (.inl ⟨rfl,by simpa using b,rfl⟩)) (.inl ⟨rfl,rfl⟩) ?_;refine rn ?_;simp;refine jv lay rfl rfl rfl cr rfl cr rfl qa (by decide) (by simp;omega) (σ0:=σ) (es:=[]) (xs:=l.map int) (.empty σ 1) (.inl (.inr ⟨_,rfl⟩)) (by simp) λe σ' c=>?_
 refine rn ?_;simp;exact .done (h _ _ (by simpa using c))
def dR(lt:Int->Int->Bool)(x:Int):List Int->List Int
 |[]=>[x]
 |y::r=>if lt x y then y::dR lt x r else x::y::r
def cA(lt:Int->Int->Bool)(l:List Int):List Int:=l.foldl (λr x=>dR lt x r) []
theorem Aj(lt:Int->Int->Bool)(x:Int):∀r,(dR lt x r).length=r.length+1
 |[]=>rfl
 |y::r=>by unfold dR;split<;>simp[Aj lt x r]
theorem iD(lt:Int->Int->Bool)(l:List Int):(cA lt l).length=l.length:=by
 have key:∀(l r:List Int),(l.foldl (λr x=>dR lt x r) r).length=r.length+l.length:=by
  intro l;induction l with
  |nil=>intro r;rfl
  |cons a l b=>intro r;rw[List.foldl_cons,b,Aj];simp;omega
 rw[cA,key];simp
theorem Ak(lt:Int->Int->Bool)(x:Int):∀(r:List Int) (y:Int),y∈dR lt x r↔y=x\/y∈r
 |[],y=>by simp[dR]
 | z :: r,y=>by
   unfold dR;split
   . rw[List.mem_cons,Ak lt x r y,List.mem_cons]
     constructor
     . rintro(h|h|h)
       . exact .inr (.inl h)
       . exact .inl h
       . exact .inr (.inr h)
     . rintro(h|h|h)
       . exact .inr (.inl h)
       . exact .inl h
       . exact .inr (.inr h)
   . simp
theorem nT(lt:Int->Int->Bool)(l:List Int)(y:Int):y∈cA lt l↔y∈l:=by
 have key:∀(l r:List Int),y∈l.foldl (λr x=>dR lt x r) r↔y∈r\/y∈l:=by
  intro l;induction l with
  |nil=>intro r;simp
  | cons a l b=>
    intro r;rw[List.foldl_cons,b,Ak,List.mem_cons];constructor
    . rintro((h|h)|h)
      . exact .inr (.inl h)
      . exact .inl h
      . exact .inr (.inr h)
    . rintro(h|h|h)
      . exact .inl (.inr h)
      . exact .inl (.inl h)
      . exact .inr h
 rw[cA,key];simp
def Al(m:Mo)(y:AV)(c:Int->Int->Int)(In:Int->Prop):Prop:=∀(a b:Int) (σ:aa) (KF:eI->aa->Prop),In a->In b->KF (.val (int (c a b))) σ->dl prog m y [int a,int b] σ KF
theorem OT{α:Type}{A B:List α}{x y:α}{n:Nat}(a:A.length=n):(A++y::x::B)[n]?=some y/\(A++y::x::B)[n+1]?=some x/\((A++y::x::B).set n x).set (n+1) y=A++x::y::B/\((A++y::x::B).set (n+1) y).set n x=A++x::y::B:=by
 subst a;refine⟨by simp,?_,?_,?_⟩
 . rw[List.getElem?_append_right (by omega)];simp
 . rw[List.set_append_right _ _ (by omega),List.set_append_right _ _ (by omega)];simp
 . rw[List.set_append_right _ _ (by omega),List.set_append_right _ _ (by omega)];simp
theorem BT{y:AV}{c:Int->Int->Int}{In:Int->Prop}{l:List Int}{b cap:Nat}{rest:List AV}(W:Al m y c In)(J:∀x∈l,In x)(hl:l.length<=1000000)(hb:σ b=some (.cells (l.map int++rest)))
 (h:KF (.val (.cq [])) (σ.set b (.cells ((cA (λa b=>decide (c a b<0)) l).reverse.map int++rest)))):ar prog m 173 [.eu b 0 l.length cap,int 0,int l.length,y] σ KF:=by
 refine fs ON 4 Tryz.func173 rfl rfl (by rfl) (by kernel_rfl) ?_
 simp[Tryz.f173];obtain⟨lt,E⟩:∃lt,lt=λa b=>decide (c a b<0):=⟨_,rfl⟩
 rw[<-E]at h;refine ab.loop l.length (λi s=>∃env g,s=⟨env,g,[],.no⟩/\env 0=.eu b 0 l.length cap/\env 1=int 0/\env 2=int l.length/\env 3=y/\env 8=int ((i:Int)+1)/\g=σ.set b (.cells ((cA lt (l.take (i+1))).reverse.map int++((l.drop (i+1)).map int++rest)))) ⟨_,_,rfl,by simp,by simp,by simp,by simp,by simp,?_⟩ ?_
 . have e:(cA lt (l.take 1)).reverse.map int++((l.drop 1).map int++rest)=l.map int++rest:=by
    cases l with
    |nil=>simp[cA]
    |cons a l=>simp[cA,dR]
   rw[e]
   funext d
   by_cases q:d=b
   . subst q;rw[aa.an,hb]
   . rw[aa.aj _ _ q]
 rintro c0 i _ hi ⟨env,g,rfl,u,v,w,F,C,j⟩ X
 rcases Nat.lt_or_ge (i+1) l.length with g1|g1
 . have Q:(i:Int)+1<l.length:=by omega
   obtain⟨S,N⟩:∃S,S=cA lt (l.take (i+1)):=⟨_,rfl⟩;have R:S.length=i+1:=by rw[N,iD,List.length_take];omega
   have T:∀x∈S,In x:=λx K=>J x (List.mem_of_mem_take ((nT lt _ x).1 (N ▸ K)))
   have G:cA lt (l.take (i+1+1))=dR lt l[i+1] S:=by rw[N,cA,List.take_succ_eq_append_getElem g1,List.foldl_append];rfl
   obtain⟨x,K⟩:∃x,x=l[i+1]:=⟨_,rfl⟩;have L:In x:=J x (by rw[K];exact List.getElem_mem g1)
   have U:l.drop (i+1)=x::l.drop (i+2):=by rw[K];exact List.drop_eq_getElem_cons g1
   rw[<-N,U]at j;rw[<-K]at G;refine rn ?_;simp[w,C,Q]
   refine ab.loop (i+1) (λk s=>∃env g r f,s=⟨env,g,[],.no⟩/\env 0=.eu b 0 l.length cap/\env 1=int 0/\env 2=int l.length/\env 3=y/\env 8=int ((i:Int)+1)/\env 9=int f.length/\S=r++f/\f.length+k=i+1/\dR lt x S=r++dR lt x f/\
    g=σ.set b (.cells ((f.reverse.map int)++int x::(r.reverse.map int++((l.drop (i+2)).map int++rest))))) ⟨_,_,[],S,rfl,by simp[u],by simp[v],by simp[w],by simp[F],by simp[C],by simp[R],rfl,by omega,rfl,by rw[j];simp⟩ ?_
   clear u v w F C j
   rintro c1 k _ hk ⟨env,g,r,f,rfl,u,v,w,F,C,O,t,hlen,p,j⟩ V
   cases f with
   | nil=>
     simp only[List.length_nil,Nat.zero_add]at hlen;simp only[List.append_nil]at t;subst t
     have o:g=σ.set b (.cells ((cA lt (l.take (i+1+1))).reverse.map int++((l.drop (i+1+1)).map int++rest))):=by rw[j,G,p];simp[dR]
     refine rn ?_;simp[v,O];refine⟨?_,?_⟩
     all_goals
      refine rn ?_;simp[C];refine⟨by omega,X _ (by omega) ⟨_,_,rfl,by simp[u],by simp[v],by simp[w],by simp[F],by simp,o⟩⟩
   | cons z f=>
     obtain⟨e1,e2,e3,e4⟩:=OT (A:=f.reverse.map int) (B:=r.reverse.map int++((l.drop (i+2)).map int++rest)) (x:=int x) (y:=int z) (n:=f.length) (by simp)
     have D:g b=some (.cells (f.reverse.map int++int z::int x::(r.reverse.map int++((l.drop (i+2)).map int++rest)))):=by rw[j,aa.an];simp
     have M:In z:=T z (by rw[t];simp)
     have f1:(0:Int)<(f.length:Int)+1:=by omega
     have Y:(f.length:Int)+1<l.length:=by simp at hlen;omega
     have Z:(f.length:Int)<l.length:=by omega
     have f4:(0:Int)<=(f.length:Int)+1:=by omega
     have f5:((f.length:Int)+1).toNat=f.length+1:=by omega
     have I:-9223372036854775808<=(f.length:Int)/\(f.length:Int)<=9223372036854775807:=by omega
     refine rn ?_;simp[u,v,F,O,f1,Y,Z,f4,f5,I.1,I.2,D];refine⟨W _ _ _ _ L M ?_,W _ _ _ _ L M ?_⟩
     all_goals
      refine pg ?_;simp;refine rn ?_;simp
      by_cases P:c x z<0
      . have f7:f.length+1+1<=f.length+(r.length+(l.length-(i+2)+rest.length)+1+1):=by omega
        have f8:f.length+1<=f.length+(r.length+(l.length-(i+2)+rest.length)+1+1):=by omega
        have H:dR lt x (z::f)=z::dR lt x f:=by rw[E];simp[dR,P]
        simp[u,O,P,f5,I.1,I.2,Y,Z,f4,D,f7,f8];refine rn ?_;simp[O,I.1,I.2];refine V _ (by simp at hlen;omega) ⟨_,_,r++[z],f,rfl,by simp[u],by simp[v],by simp[w],by simp[F],by simp[C],by simp,by rw[t];simp,by simp at hlen;omega,by rw[p,H];simp,?_⟩
        rw[j];simp
      . have H:dR lt x (z::f)=x::z::f:=by rw[E];simp[dR,P]
        have o:g=σ.set b (.cells ((cA lt (l.take (i+1+1))).reverse.map int++((l.drop (i+1+1)).map int++rest))):=by rw[j,G,p,H];simp
        simp[C,P];exact⟨by omega,X _ (by omega) ⟨_,_,rfl,by simp[u],by simp[v],by simp[w],by simp[F],by simp,o⟩⟩
 . have o:(cA lt (l.take (i+1))).reverse.map int++((l.drop (i+1)).map int++rest)=(cA lt l).reverse.map int++rest:=by
    rw[List.take_of_length_le (by omega),List.drop_of_length_le (by omega)];simp
   rw[o]at j;have g2:¬(i:Int)+1<l.length:=by omega
   refine rn ?_;simp[w,C,g2];rw[j];exact .done h
theorem yt{y:AV}{c:Int->Int->Int}{In:Int->Prop}{l:List Int}{b cap:Nat}{rest:List AV}(q:Al m y c In)(g:∀x∈l,In x)(w:l.length<20)(hb:σ b=some (.cells (l.map int++rest)))
 (h:KF (.val (.cq [])) (σ.set b (.cells ((cA (λa b=>decide (c a b<0)) l).reverse.map int++rest)))):ar prog m 168 [.eu b 0 l.length cap,int l.length,y] σ KF:=by
 refine fs [] 3 Tryz.func168 rfl rfl (by rfl) (by kernel_rfl) ?_;simp[Tryz.f168];have r:¬(20:Int)<=l.length:=by omega
 have t:¬(20:Int)<l.length:=by omega
 refine ab.loop 1 (λk s=>∃env,s=⟨env,σ,[],.no⟩/\env 0=.eu b 0 l.length cap/\env 1=int l.length/\env 2=y/\env 6=int 20/\env 7=int 0/\env 8=int 20) ⟨_,rfl,by simp⟩ ?_;rintro z k _ u ⟨env,rfl,j,e,n,f,o,p⟩ v;refine rn ?_;simp[j,e,n,o,p,r];refine cf Tryz.func173 rfl (BT q g (by omega) hb ?_);refine rn ?_;simp;refine ab.loop 1 (λk s=>∃env d,s=⟨env,d,[],.no⟩/\env 1=int l.length/\env 6=int 20/\d=σ.set b (.cells ((cA (λa b=>decide (c a b<0)) l).reverse.map int++rest))) ⟨_,_,rfl,by simp[e,f]⟩ ?_;clear j e n f o p;rintro A k _ u ⟨env,d,rfl,e,f,i⟩ v;refine rn ?_;simp[e,f,t];rw[i];exact .done h
theorem qh{y:AV}{c:Int->Int->Int}{In:Int->Prop}{l:List Int}{b cap:Nat}{rest:List AV}(e:Al m y c In)(d:∀x∈l,In x)(f:l.length<20)(hb:σ b=some (.cells (l.map int++rest)))
 (h:KF (.val (.cq [])) (σ.set b (.cells ((cA (λa b=>decide (c a b<0)) l).reverse.map int++rest)))):ar prog m 156 [.eu b 0 l.length cap,y] σ KF:=by
 refine fs [] 2 Tryz.func156 rfl rfl (by rfl) (by kernel_rfl) ?_;simp[Tryz.f156];refine cf Tryz.func168 rfl (yt e d f hb ?_);refine rn ?_;simp;exact .done (by simpa using h)
theorem Kc{y:AV}{c:Int->Int->Int}{In:Int->Prop}{l:List Int}(r:Al m y c In)(g:∀x∈l,In x)(s:l.length<20)(d:l≠[])(i:y.cells=[y]/\y.flat=true)(h:KF (.val (ints (cA (λa b=>decide (c a b<0)) l).reverse)) σ):ar prog m 123 [.agg [y],ints l] σ KF:=by
 refine fs [] 2 Tryz.func123 rfl rfl (by rfl) (by kernel_rfl) ?_;simp[Tryz.f123,i.2];refine cf Tryz.func99 rfl (Ev d (by omega) λa j k=>?_)
 obtain⟨b,cap,rest,rfl,n,o,v,p,q⟩:∃b cap rest,a=.eu b 0 (l.map int).length cap/\σ b=none/\(l.map int).length<=cap/\(∀e∈l.map int,e.cells.length=1)/\j b=some (.cells (flatten (l.map int)++rest))/\rest.length=(cap-(l.map int).length)*1:=by
  rcases k.2 with⟨e,_⟩|h
  . exact absurd (by simpa using e) d
  . exact h
 have f:∀l:List Int,flatten (l.map int)=l.map int:=λl=>by
  induction l with
  |nil=>rfl
  |cons a l t=>simp[flatten_cons,AV.cells,t]
 rw[f]at p;rw[List.length_map]at o q ⊢;refine rn ?_;simp;refine cf Tryz.func156 rfl (qh r g s p ?_);refine rn ?_;simp;refine bn.thaw (σ0:=σ) (kk:=1) (es:=(cA (λa b=>decide (c a b<0)) l).reverse.map int) ⟨aa.iz k.1 n,.inr ⟨b,cap,rest,?_,n,?_,λe u=>?_,?_,?_⟩⟩ h
 . simp[iD]
 . simpa[iD]using o
 . obtain⟨x,_,rfl⟩:=List.mem_map.1 u;rfl
 . rw[f];simp
 . simpa[iD]using q
def qZ(f:Fr)(a b:Int):Int:=yp (aO f a).hour (aO f b).hour
theorem Kd{b mb:Nat}{f:Fr}{x y:Int}(d:0<=x/\x<f.aq.length)(e:0<=y/\y<f.aq.length)(h:KF (.val (int (qZ f x y))) σ):ar prog m 121 [int x,int y,.cp (iL b mb f 0) 0] σ KF:=by
 have a:x.toNat<f.aq.length:=by omega
 have c:y.toNat<f.aq.length:=by omega
 have ex:aO f x=f.aq[x.toNat]:=by simp[aO,List.getD_eq_getElem?_getD,a]
 have g:aO f y=f.aq[y.toNat]:=by simp[aO,List.getD_eq_getElem?_getD,c]
 unfold qZ at h;rw[ex,g]at h;refine fs OK 3 Tryz.func121 rfl rfl (by rfl) (by kernel_rfl) ?_;simp[Tryz.f121,a,c,d.1,e.1];refine cf Tryz.func122 rfl (BQ ?_);refine pg ?_;simp;refine rn ?_;simp;exact .done h
theorem Ht{b mb:Nat}{f:Fr}:Al m (.fn (.func 121) [] [.cp (iL b mb f 0) 0]) (qZ f) (λn=>0<=n/\n<f.aq.length):=λx y σ KF a c h=>by refine eP Tryz.func121 rfl rfl rfl (Kd a c h)
end Go.Proofs.YtldmpfccgajobaaGreatDoor

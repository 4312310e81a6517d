import Derived.Test.YtldmpfccgajobaaGreatDoorProg
import Derived.Test.YtldmpfccgajobaaGreatDoorC28
set_option linter.all false
namespace Go.Proofs.YtldmpfccgajobaaGreatDoor
open Tryz (prog)
open Go.aR
set_option maxRecDepth 100000
def Ki:List (Nat × TI):=[
 (1,⟨.func,1,8,.nilFunc,[]⟩),
 (2,⟨.int .i64,1,8,(.int .i64 0),[]⟩),
 (3,⟨.int .i64,1,8,(.int .i64 0),[]⟩),
 (4,⟨.bool,1,1,(.bool false),[]⟩),
 (5,⟨.int .u8,1,1,(.int .u8 0),[]⟩),
 (6,⟨.int .u8,1,1,(.int .u8 0),[]⟩),
 (7,⟨.struct,4,24,(.agg #[(.int .i64 0),(.int .i64 0),(.bool false),(.int .u8 0)]),[(0,1,2),(1,1,3),(2,1,4),(3,1,6)]⟩),
 (8,⟨.struct,4,24,(.agg #[(.int .i64 0),(.int .i64 0),(.bool false),(.int .u8 0)]),[(0,1,2),(1,1,3),(2,1,4),(3,1,6)]⟩),
 (9,⟨.string,1,16,(.string ByteArray.empty),[]⟩),
 (10,⟨.string,1,16,(.string ByteArray.empty),[]⟩),
 (11,⟨.string,1,16,(.string ByteArray.empty),[]⟩),
 (12,⟨.int .u64,1,8,(.int .u64 0),[]⟩),
 (13,⟨.struct,2,24,(.agg #[(.string ByteArray.empty),(.int .u64 0)]),[(0,1,9),(1,1,12)]⟩),
 (14,⟨.struct,2,24,(.agg #[(.string ByteArray.empty),(.int .u64 0)]),[(0,1,9),(1,1,12)]⟩),
 (15,⟨.pointer 236,1,8,(.pointer none),[]⟩),
 (16,⟨.pointer 239,1,8,(.pointer none),[]⟩),
 (17,⟨.pointer 247,1,8,(.pointer none),[]⟩),
 (18,⟨.struct,1,8,(.agg #[(.pointer none)]),[(0,1,17)]⟩),
 (19,⟨.struct,1,8,(.agg #[(.pointer none)]),[(0,1,17)]⟩),
 (20,⟨.iface,1,16,.nilIface,[]⟩),
 (21,⟨.int .i32,1,4,(.int .i32 0),[]⟩),
 (22,⟨.slice 30,1,24,(.slice none 0 0),[]⟩),
 (23,⟨.slice 28,1,24,(.slice none 0 0),[]⟩),
 (24,⟨.struct,2,16,(.agg #[(.int .i64 0),(.int .i64 0)]),[(0,1,3),(1,1,3)]⟩),
 (25,⟨.struct,2,16,(.agg #[(.int .i64 0),(.int .i64 0)]),[(0,1,3),(1,1,3)]⟩),
 (26,⟨.struct,6,80,(.agg #[(.slice none 0 0),(.slice none 0 0),(.int .i64 0),(.int .i64 0),(.int .i64 0),(.int .i64 0)]),[(0,1,22),(1,1,23),(2,2,25),(4,1,3),(5,1,3)]⟩),
 (27,⟨.struct,6,80,(.agg #[(.slice none 0 0),(.slice none 0 0),(.int .i64 0),(.int .i64 0),(.int .i64 0),(.int .i64 0)]),[(0,1,22),(1,1,23),(2,2,25),(4,1,3),(5,1,3)]⟩),
 (28,⟨.slice 3,1,24,(.slice none 0 0),[]⟩),
 (29,⟨.struct,6,64,(.agg #[(.int .i64 0),(.int .i64 0),(.int .i64 0),(.slice none 0 0),(.int .i64 0),(.int .i64 0)]),[(0,1,3),(1,1,3),(2,1,3),(3,1,28),(4,1,3),(5,1,3)]⟩),
 (30,⟨.struct,6,64,(.agg #[(.int .i64 0),(.int .i64 0),(.int .i64 0),(.slice none 0 0),(.int .i64 0),(.int .i64 0)]),[(0,1,3),(1,1,3),(2,1,3),(3,1,28),(4,1,3),(5,1,3)]⟩),
 (31,⟨.func,1,8,.nilFunc,[]⟩),
 (32,⟨.func,1,8,.nilFunc,[]⟩),
 (33,⟨.slice 27,1,24,(.slice none 0 0),[]⟩),
 (34,⟨.func,1,8,.nilFunc,[]⟩),
 (35,⟨.pointer 79,1,8,(.pointer none),[]⟩),
 (37,⟨.func,1,8,.nilFunc,[]⟩),
 (38,⟨.int .i64,1,8,(.int .i64 0),[]⟩),
 (40,⟨.func,1,8,.nilFunc,[]⟩),
 (42,⟨.func,1,8,.nilFunc,[]⟩),
 (47,⟨.func,1,8,.nilFunc,[]⟩),
 (72,⟨.func,1,8,.nilFunc,[]⟩),
 (77,⟨.int .u64,1,8,(.int .u64 0),[]⟩),
 (79,⟨.struct,3,40,(.agg #[(.slice none 0 0),(.int .i64 0),(.int .u64 0)]),[(0,1,28),(1,1,3),(2,1,77)]⟩),
 (81,⟨.pointer 141,1,8,(.pointer none),[]⟩),
 (85,⟨.func,1,8,.nilFunc,[]⟩),
 (87,⟨.struct,3,40,(.agg #[(.slice none 0 0),(.int .i64 0),(.bool false)]),[(0,1,28),(1,1,3),(2,1,4)]⟩),
 (92,⟨.func,1,8,.nilFunc,[]⟩),
 (98,⟨.iface,1,16,.nilIface,[]⟩),
 (99,⟨.func,1,8,.nilFunc,[]⟩),
 (101,⟨.func,1,8,.nilFunc,[]⟩),
 (108,⟨.func,1,8,.nilFunc,[]⟩),
 (110,⟨.func,1,8,.nilFunc,[]⟩),
 (112,⟨.func,1,8,.nilFunc,[]⟩),
 (113,⟨.func,1,8,.nilFunc,[]⟩),
 (114,⟨.func,1,8,.nilFunc,[]⟩),
 (115,⟨.struct,2,16,(.agg #[(.int .i64 0),(.int .i64 0)]),[(0,1,3),(1,1,3)]⟩),
 (116,⟨.struct,2,16,(.agg #[(.int .i64 0),(.int .i64 0)]),[(0,1,3),(1,1,3)]⟩),
 (117,⟨.struct,4,32,(.agg #[(.int .i64 0),(.int .i64 0),(.int .i64 0),(.bool false)]),[(0,2,116),(2,1,3),(3,1,4)]⟩),
 (118,⟨.struct,4,32,(.agg #[(.int .i64 0),(.int .i64 0),(.int .i64 0),(.bool false)]),[(0,2,116),(2,1,3),(3,1,4)]⟩),
 (121,⟨.func,1,8,.nilFunc,[]⟩),
 (124,⟨.func,1,8,.nilFunc,[]⟩),
 (129,⟨.func,1,8,.nilFunc,[]⟩),
 (133,⟨.struct,0,0,(.agg #[]),[]⟩),
 (134,⟨.int .u32,1,4,(.int .u32 0),[]⟩),
 (136,⟨.struct,2,8,(.agg #[(.int .i32 0),(.int .u32 0)]),[(0,1,21),(1,1,134)]⟩),
 (138,⟨.struct,2,8,(.agg #[(.int .i32 0),(.int .u32 0)]),[(0,0,133),(0,2,136)]⟩),
 (139,⟨.map 151 4,1,8,(.map none),[]⟩),
 (141,⟨.struct,9,96,(.agg #[(.slice none 0 0),(.slice none 0 0),(.int .i64 0),(.int .i64 0),(.int .i64 0),(.int .i64 0),(.int .i32 0),(.int .u32 0),(.map none)]),[(0,6,27),(6,2,138),(8,1,139)]⟩),
 (142,⟨.chan 3,1,8,(.chan none),[]⟩),
 (143,⟨.struct,0,0,(.agg #[]),[]⟩),
 (144,⟨.struct,0,0,(.agg #[]),[]⟩),
 (146,⟨.struct,1,8,(.agg #[(.int .u64 0)]),[(0,0,143),(0,0,144),(0,1,77)]⟩),
 (148,⟨.struct,2,16,(.agg #[(.int .u64 0),(.int .u32 0)]),[(0,0,133),(0,1,146),(1,1,134)]⟩),
 (151,⟨.struct,1,1,(.agg #[(.int .u8 0)]),[(0,1,5)]⟩),
 (152,⟨.array 6 151,6,6,(.agg #[(.int .u8 0),(.int .u8 0),(.int .u8 0),(.int .u8 0),(.int .u8 0),(.int .u8 0)]),[]⟩),
 (153,⟨.func,1,8,.nilFunc,[]⟩),
 (156,⟨.pointer 87,1,8,(.pointer none),[]⟩),
 (159,⟨.struct,1,8,(.agg #[(.int .i64 0)]),[(0,1,38)]⟩),
 (162,⟨.iface,1,16,.nilIface,[]⟩),
 (164,⟨.pointer 159,1,8,(.pointer none),[]⟩),
 (166,⟨.struct,1,8,(.agg #[.nilFunc]),[(0,1,124)]⟩),
 (167,⟨.struct,0,0,(.agg #[]),[]⟩),
 (168,⟨.struct,0,0,(.agg #[]),[]⟩),
 (169,⟨.struct,0,0,(.agg #[]),[]⟩),
 (170,⟨.slice 98,1,24,(.slice none 0 0),[]⟩),
 (173,⟨.int .u64,1,8,(.int .u64 0),[]⟩),
 (175,⟨.pointer 118,1,8,(.pointer none),[]⟩),
 (176,⟨.pointer 148,1,8,(.pointer none),[]⟩),
 (179,⟨.int .i64,1,8,(.int .i64 0),[]⟩),
 (183,⟨.pointer 134,1,8,(.pointer none),[]⟩),
 (192,⟨.int .u64,1,8,(.int .u64 0),[]⟩),
 (194,⟨.struct,3,24,(.agg #[(.pointer none),(.pointer none),(.int .u64 0)]),[(0,1,17),(1,1,178),(2,1,192)]⟩),
 (197,⟨.iface,1,16,.nilIface,[]⟩),
 (199,⟨.int .u8,1,1,(.int .u8 0),[]⟩),
 (208,⟨.func,1,8,.nilFunc,[]⟩),
 (210,⟨.pointer 138,1,8,(.pointer none),[]⟩),
 (212,⟨.struct,1,8,(.agg #[(.pointer none)]),[(0,1,17)]⟩),
 (236,⟨.struct,4,40,(.agg #[(.pointer none),(.pointer none),(.pointer none),(.string ByteArray.empty)]),[(0,1,17),(1,1,17),(2,1,17),(3,1,9)]⟩),
 (237,⟨.array 0 16,0,0,(.agg #[]),[]⟩),
 (239,⟨.struct,0,0,(.agg #[]),[(0,0,237)]⟩),
 (241,⟨.int .u8,1,1,(.int .u8 0),[]⟩),
 (242,⟨.func,1,8,.nilFunc,[]⟩),
 (243,⟨.pointer 5,1,8,(.pointer none),[]⟩),
 (244,⟨.int .i32,1,4,(.int .i32 0),[]⟩),
 (245,⟨.int .i32,1,4,(.int .i32 0),[]⟩),
 (247,⟨.struct,11,48,(.agg #[(.int .u64 0),(.int .u64 0),(.int .u32 0),(.int .u8 0),(.int .u8 0),(.int .u8 0),(.int .u8 0),.nilFunc,(.pointer none),(.int .i32 0),(.int .i32 0)]),[(0,1,12),(1,1,12),(2,1,134),(3,1,241),(4,1,5),(5,1,5),(6,1,199),(7,1,242),(8,1,243),(9,1,244),(10,1,245)]⟩),
 (248,⟨.int .u8,1,1,(.int .u8 0),[]⟩)]
theorem Hl:(Ki.all λx=>x.2.check Tryz.prog x.1)=true:=by kernel_rfl
def A7(t:Nat):Option TI:=(Ki.find? λx=>x.1==t).map (·.2)
theorem Ey(t:Nat)(i:TI)(h:A7 t=some i):i.check Tryz.prog t=true:=by unfold A7 at h;obtain⟨x,a,rfl⟩:=Option.map_eq_some_iff.1 h;have c:=List.find?_some a;have b:=List.all_eq_true.1 Hl x (List.mem_of_find?_eq_some a);rw[beq_iff_eq.1 c]at b;exact b
def lay:jr Tryz.prog:=⟨A7,Ey,by kernel_rfl⟩
theorem rn{m:Mo}{fid n:Nat}{ro:Option Nat}{hold:List Entry}{s:St}{K:aR.Exit->St->Prop}{todo:List Item}(h:bu lay m fid n ro [] hold 1000 todo s K):ab Tryz.prog m fid n ro hold todo s K:=ab.run lay [] h
theorem pg{m:Mo}{ops:Array Oper}{n:Nat}{Kp:AV->aa->Prop}{R:Env->aa->Prop}{p:kW}{env:Env}{σ:aa}(h:iy lay m [] ops n Kp p env σ R):aI Tryz.prog m ops n Kp p env σ R:=aI.go lay [] h
theorem cf{m:Mo}{f:FuncId}{fn:Func}{args:List AV}{σ:aa}{KF:dF->aa->Prop}(a:Tryz.prog.funcs[f]?=some fn)(hb:(fn.body.isSome && !(fn.name== "runtime.NumGoroutine"))=true)(h:ar Tryz.prog m f args σ KF):dX Tryz.prog m (.fn (.func f) [] []) args σ KF:=by
 simp only[Bool.and_eq_true,Bool.not_eq_true']at hb;exact ai a hb.1 hb.2 h
theorem fs{m:Mo}{f:FuncId}{fn:Func}{args:List AV}{σ:aa}{KF:dF->aa->Prop}{body:Code}(hold:List Entry)(k:Nat)(b:Tryz.prog.funcs[f]?=some fn)(hb:fn.body=some body)(c:args.length=k)(d:ou fn k=true)(a:nH hold body=true)(h:bu lay m f fn.ntmps none [] hold 1000 [.code body] ⟨dT args,σ,[],.no⟩ (Pi lay m fn.results.toList (ov KF))):ar Tryz.prog m f args σ KF:=ar.start lay [] hold k b hb c d a h
@[simp] theorem V':lay.tt 1=some ⟨.func,1,8,.nilFunc,[]⟩:=rfl
@[simp] theorem Wa:lay.tt 2=some ⟨.int .i64,1,8,(.int .i64 0),[]⟩:=rfl
@[simp] theorem oo:lay.tt 3=some ⟨.int .i64,1,8,(.int .i64 0),[]⟩:=rfl
@[simp] theorem Vz:lay.tt 4=some ⟨.bool,1,1,(.bool false),[]⟩:=rfl
@[simp] theorem Ul:lay.tt 5=some ⟨.int .u8,1,1,(.int .u8 0),[]⟩:=rfl
@[simp] theorem Wb:lay.tt 6=some ⟨.int .u8,1,1,(.int .u8 0),[]⟩:=rfl
@[simp] theorem Wc:lay.tt 7=some ⟨.struct,4,24,(.agg #[(.int .i64 0),(.int .i64 0),(.bool false),(.int .u8 0)]),[(0,1,2),(1,1,3),(2,1,4),(3,1,6)]⟩:=rfl
@[simp] theorem We:lay.tt 8=some ⟨.struct,4,24,(.agg #[(.int .i64 0),(.int .i64 0),(.bool false),(.int .u8 0)]),[(0,1,2),(1,1,3),(2,1,4),(3,1,6)]⟩:=rfl
@[simp] theorem Wf:lay.tt 9=some ⟨.string,1,16,(.string ByteArray.empty),[]⟩:=rfl
@[simp] theorem VA:lay.tt 10=some ⟨.string,1,16,(.string ByteArray.empty),[]⟩:=rfl
@[simp] theorem VB:lay.tt 11=some ⟨.string,1,16,(.string ByteArray.empty),[]⟩:=rfl
@[simp] theorem VC:lay.tt 12=some ⟨.int .u64,1,8,(.int .u64 0),[]⟩:=rfl
@[simp] theorem VD:lay.tt 13=some ⟨.struct,2,24,(.agg #[(.string ByteArray.empty),(.int .u64 0)]),[(0,1,9),(1,1,12)]⟩:=rfl
@[simp] theorem VE:lay.tt 14=some ⟨.struct,2,24,(.agg #[(.string ByteArray.empty),(.int .u64 0)]),[(0,1,9),(1,1,12)]⟩:=rfl
@[simp] theorem VF:lay.tt 15=some ⟨.pointer 236,1,8,(.pointer none),[]⟩:=rfl
@[simp] theorem VG:lay.tt 16=some ⟨.pointer 239,1,8,(.pointer none),[]⟩:=rfl
@[simp] theorem VH:lay.tt 17=some ⟨.pointer 247,1,8,(.pointer none),[]⟩:=rfl
@[simp] theorem VI:lay.tt 18=some ⟨.struct,1,8,(.agg #[(.pointer none)]),[(0,1,17)]⟩:=rfl
@[simp] theorem VJ:lay.tt 19=some ⟨.struct,1,8,(.agg #[(.pointer none)]),[(0,1,17)]⟩:=rfl
@[simp] theorem VK:lay.tt 20=some ⟨.iface,1,16,.nilIface,[]⟩:=rfl
@[simp] theorem VL:lay.tt 21=some ⟨.int .i32,1,4,(.int .i32 0),[]⟩:=rfl
@[simp] theorem lz:lay.tt 22=some ⟨.slice 30,1,24,(.slice none 0 0),[]⟩:=rfl
@[simp] theorem kX:lay.tt 23=some ⟨.slice 28,1,24,(.slice none 0 0),[]⟩:=rfl
@[simp] theorem VM:lay.tt 24=some ⟨.struct,2,16,(.agg #[(.int .i64 0),(.int .i64 0)]),[(0,1,3),(1,1,3)]⟩:=rfl
@[simp] theorem VN:lay.tt 25=some ⟨.struct,2,16,(.agg #[(.int .i64 0),(.int .i64 0)]),[(0,1,3),(1,1,3)]⟩:=rfl
@[simp] theorem VO:lay.tt 26=some ⟨.struct,6,80,(.agg #[(.slice none 0 0),(.slice none 0 0),(.int .i64 0),(.int .i64 0),(.int .i64 0),(.int .i64 0)]),[(0,1,22),(1,1,23),(2,2,25),(4,1,3),(5,1,3)]⟩:=rfl
@[simp] theorem VP:lay.tt 27=some ⟨.struct,6,80,(.agg #[(.slice none 0 0),(.slice none 0 0),(.int .i64 0),(.int .i64 0),(.int .i64 0),(.int .i64 0)]),[(0,1,22),(1,1,23),(2,2,25),(4,1,3),(5,1,3)]⟩:=rfl
@[simp] theorem bC:lay.tt 28=some ⟨.slice 3,1,24,(.slice none 0 0),[]⟩:=rfl
@[simp] theorem VQ:lay.tt 29=some ⟨.struct,6,64,(.agg #[(.int .i64 0),(.int .i64 0),(.int .i64 0),(.slice none 0 0),(.int .i64 0),(.int .i64 0)]),[(0,1,3),(1,1,3),(2,1,3),(3,1,28),(4,1,3),(5,1,3)]⟩:=rfl
@[simp] theorem tx:lay.tt 30=some ⟨.struct,6,64,(.agg #[(.int .i64 0),(.int .i64 0),(.int .i64 0),(.slice none 0 0),(.int .i64 0),(.int .i64 0)]),[(0,1,3),(1,1,3),(2,1,3),(3,1,28),(4,1,3),(5,1,3)]⟩:=rfl
@[simp] theorem VR:lay.tt 31=some ⟨.func,1,8,.nilFunc,[]⟩:=rfl
@[simp] theorem VS:lay.tt 32=some ⟨.func,1,8,.nilFunc,[]⟩:=rfl
@[simp] theorem VT:lay.tt 33=some ⟨.slice 27,1,24,(.slice none 0 0),[]⟩:=rfl
@[simp] theorem VU:lay.tt 34=some ⟨.func,1,8,.nilFunc,[]⟩:=rfl
@[simp] theorem VV:lay.tt 35=some ⟨.pointer 79,1,8,(.pointer none),[]⟩:=rfl
@[simp] theorem VW:lay.tt 37=some ⟨.func,1,8,.nilFunc,[]⟩:=rfl
@[simp] theorem VX:lay.tt 38=some ⟨.int .i64,1,8,(.int .i64 0),[]⟩:=rfl
@[simp] theorem VY:lay.tt 40=some ⟨.func,1,8,.nilFunc,[]⟩:=rfl
@[simp] theorem VZ:lay.tt 42=some ⟨.func,1,8,.nilFunc,[]⟩:=rfl
@[simp] theorem V0:lay.tt 47=some ⟨.func,1,8,.nilFunc,[]⟩:=rfl
@[simp] theorem V1:lay.tt 72=some ⟨.func,1,8,.nilFunc,[]⟩:=rfl
@[simp] theorem V2:lay.tt 77=some ⟨.int .u64,1,8,(.int .u64 0),[]⟩:=rfl
@[simp] theorem V3:lay.tt 79=some ⟨.struct,3,40,(.agg #[(.slice none 0 0),(.int .i64 0),(.int .u64 0)]),[(0,1,28),(1,1,3),(2,1,77)]⟩:=rfl
@[simp] theorem V4:lay.tt 81=some ⟨.pointer 141,1,8,(.pointer none),[]⟩:=rfl
@[simp] theorem V5:lay.tt 85=some ⟨.func,1,8,.nilFunc,[]⟩:=rfl
@[simp] theorem V6:lay.tt 87=some ⟨.struct,3,40,(.agg #[(.slice none 0 0),(.int .i64 0),(.bool false)]),[(0,1,28),(1,1,3),(2,1,4)]⟩:=rfl
@[simp] theorem V7:lay.tt 92=some ⟨.func,1,8,.nilFunc,[]⟩:=rfl
@[simp] theorem Rg:lay.tt 98=some ⟨.iface,1,16,.nilIface,[]⟩:=rfl
@[simp] theorem V8:lay.tt 99=some ⟨.func,1,8,.nilFunc,[]⟩:=rfl
@[simp] theorem Um:lay.tt 101=some ⟨.func,1,8,.nilFunc,[]⟩:=rfl
@[simp] theorem Uo:lay.tt 108=some ⟨.func,1,8,.nilFunc,[]⟩:=rfl
@[simp] theorem Up:lay.tt 110=some ⟨.func,1,8,.nilFunc,[]⟩:=rfl
@[simp] theorem Uq:lay.tt 112=some ⟨.func,1,8,.nilFunc,[]⟩:=rfl
@[simp] theorem Ur:lay.tt 113=some ⟨.func,1,8,.nilFunc,[]⟩:=rfl
@[simp] theorem Us:lay.tt 114=some ⟨.func,1,8,.nilFunc,[]⟩:=rfl
@[simp] theorem Ut:lay.tt 115=some ⟨.struct,2,16,(.agg #[(.int .i64 0),(.int .i64 0)]),[(0,1,3),(1,1,3)]⟩:=rfl
@[simp] theorem Uu:lay.tt 116=some ⟨.struct,2,16,(.agg #[(.int .i64 0),(.int .i64 0)]),[(0,1,3),(1,1,3)]⟩:=rfl
@[simp] theorem Uv:lay.tt 117=some ⟨.struct,4,32,(.agg #[(.int .i64 0),(.int .i64 0),(.int .i64 0),(.bool false)]),[(0,2,116),(2,1,3),(3,1,4)]⟩:=rfl
@[simp] theorem Uw:lay.tt 118=some ⟨.struct,4,32,(.agg #[(.int .i64 0),(.int .i64 0),(.int .i64 0),(.bool false)]),[(0,2,116),(2,1,3),(3,1,4)]⟩:=rfl
@[simp] theorem Ux:lay.tt 121=some ⟨.func,1,8,.nilFunc,[]⟩:=rfl
@[simp] theorem Uy:lay.tt 124=some ⟨.func,1,8,.nilFunc,[]⟩:=rfl
@[simp] theorem Uz:lay.tt 129=some ⟨.func,1,8,.nilFunc,[]⟩:=rfl
@[simp] theorem UA:lay.tt 133=some ⟨.struct,0,0,(.agg #[]),[]⟩:=rfl
@[simp] theorem UB:lay.tt 134=some ⟨.int .u32,1,4,(.int .u32 0),[]⟩:=rfl
@[simp] theorem UF:lay.tt 136=some ⟨.struct,2,8,(.agg #[(.int .i32 0),(.int .u32 0)]),[(0,1,21),(1,1,134)]⟩:=rfl
@[simp] theorem UG:lay.tt 138=some ⟨.struct,2,8,(.agg #[(.int .i32 0),(.int .u32 0)]),[(0,0,133),(0,2,136)]⟩:=rfl
@[simp] theorem UH:lay.tt 139=some ⟨.map 151 4,1,8,(.map none),[]⟩:=rfl
@[simp] theorem UI:lay.tt 141=some ⟨.struct,9,96,(.agg #[(.slice none 0 0),(.slice none 0 0),(.int .i64 0),(.int .i64 0),(.int .i64 0),(.int .i64 0),(.int .i32 0),(.int .u32 0),(.map none)]),[(0,6,27),(6,2,138),(8,1,139)]⟩:=rfl
@[simp] theorem FX:lay.tt 142=some ⟨.chan 3,1,8,(.chan none),[]⟩:=rfl
@[simp] theorem UJ:lay.tt 143=some ⟨.struct,0,0,(.agg #[]),[]⟩:=rfl
@[simp] theorem UK:lay.tt 144=some ⟨.struct,0,0,(.agg #[]),[]⟩:=rfl
@[simp] theorem UL:lay.tt 146=some ⟨.struct,1,8,(.agg #[(.int .u64 0)]),[(0,0,143),(0,0,144),(0,1,77)]⟩:=rfl
@[simp] theorem UM:lay.tt 148=some ⟨.struct,2,16,(.agg #[(.int .u64 0),(.int .u32 0)]),[(0,0,133),(0,1,146),(1,1,134)]⟩:=rfl
@[simp] theorem UN:lay.tt 151=some ⟨.struct,1,1,(.agg #[(.int .u8 0)]),[(0,1,5)]⟩:=rfl
@[simp] theorem UO:lay.tt 152=some ⟨.array 6 151,6,6,(.agg #[(.int .u8 0),(.int .u8 0),(.int .u8 0),(.int .u8 0),(.int .u8 0),(.int .u8 0)]),[]⟩:=rfl
@[simp] theorem UQ:lay.tt 153=some ⟨.func,1,8,.nilFunc,[]⟩:=rfl
@[simp] theorem US:lay.tt 156=some ⟨.pointer 87,1,8,(.pointer none),[]⟩:=rfl
@[simp] theorem UT:lay.tt 159=some ⟨.struct,1,8,(.agg #[(.int .i64 0)]),[(0,1,38)]⟩:=rfl
@[simp] theorem Rh:lay.tt 162=some ⟨.iface,1,16,.nilIface,[]⟩:=rfl
@[simp] theorem UU:lay.tt 164=some ⟨.pointer 159,1,8,(.pointer none),[]⟩:=rfl
@[simp] theorem UV:lay.tt 166=some ⟨.struct,1,8,(.agg #[.nilFunc]),[(0,1,124)]⟩:=rfl
@[simp] theorem Rk:lay.tt 167=some ⟨.struct,0,0,(.agg #[]),[]⟩:=rfl
@[simp] theorem Rl:lay.tt 168=some ⟨.struct,0,0,(.agg #[]),[]⟩:=rfl
@[simp] theorem Rm:lay.tt 169=some ⟨.struct,0,0,(.agg #[]),[]⟩:=rfl
@[simp] theorem UW:lay.tt 170=some ⟨.slice 98,1,24,(.slice none 0 0),[]⟩:=rfl
@[simp] theorem UX:lay.tt 173=some ⟨.int .u64,1,8,(.int .u64 0),[]⟩:=rfl
@[simp] theorem UY:lay.tt 175=some ⟨.pointer 118,1,8,(.pointer none),[]⟩:=rfl
@[simp] theorem UZ:lay.tt 176=some ⟨.pointer 148,1,8,(.pointer none),[]⟩:=rfl
@[simp] theorem U1:lay.tt 179=some ⟨.int .i64,1,8,(.int .i64 0),[]⟩:=rfl
@[simp] theorem U2:lay.tt 183=some ⟨.pointer 134,1,8,(.pointer none),[]⟩:=rfl
@[simp] theorem U3:lay.tt 192=some ⟨.int .u64,1,8,(.int .u64 0),[]⟩:=rfl
@[simp] theorem U4:lay.tt 194=some ⟨.struct,3,24,(.agg #[(.pointer none),(.pointer none),(.int .u64 0)]),[(0,1,17),(1,1,178),(2,1,192)]⟩:=rfl
@[simp] theorem U5:lay.tt 197=some ⟨.iface,1,16,.nilIface,[]⟩:=rfl
@[simp] theorem U6:lay.tt 199=some ⟨.int .u8,1,1,(.int .u8 0),[]⟩:=rfl
@[simp] theorem U7:lay.tt 208=some ⟨.func,1,8,.nilFunc,[]⟩:=rfl
@[simp] theorem U8:lay.tt 210=some ⟨.pointer 138,1,8,(.pointer none),[]⟩:=rfl
@[simp] theorem U9:lay.tt 212=some ⟨.struct,1,8,(.agg #[(.pointer none)]),[(0,1,17)]⟩:=rfl
@[simp] theorem Va:lay.tt 236=some ⟨.struct,4,40,(.agg #[(.pointer none),(.pointer none),(.pointer none),(.string ByteArray.empty)]),[(0,1,17),(1,1,17),(2,1,17),(3,1,9)]⟩:=rfl
@[simp] theorem Vb:lay.tt 237=some ⟨.array 0 16,0,0,(.agg #[]),[]⟩:=rfl
@[simp] theorem Vc:lay.tt 239=some ⟨.struct,0,0,(.agg #[]),[(0,0,237)]⟩:=rfl
@[simp] theorem Vd:lay.tt 241=some ⟨.int .u8,1,1,(.int .u8 0),[]⟩:=rfl
@[simp] theorem Ve:lay.tt 242=some ⟨.func,1,8,.nilFunc,[]⟩:=rfl
@[simp] theorem Vf:lay.tt 243=some ⟨.pointer 5,1,8,(.pointer none),[]⟩:=rfl
@[simp] theorem Vg:lay.tt 244=some ⟨.int .i32,1,4,(.int .i32 0),[]⟩:=rfl
@[simp] theorem Vh:lay.tt 245=some ⟨.int .i32,1,4,(.int .i32 0),[]⟩:=rfl
@[simp] theorem Vi:lay.tt 247=some ⟨.struct,11,48,(.agg #[(.int .u64 0),(.int .u64 0),(.int .u32 0),(.int .u8 0),(.int .u8 0),(.int .u8 0),(.int .u8 0),.nilFunc,(.pointer none),(.int .i32 0),(.int .i32 0)]),[(0,1,12),(1,1,12),(2,1,134),(3,1,241),(4,1,5),(5,1,5),(6,1,199),(7,1,242),(8,1,243),(9,1,244),(10,1,245)]⟩:=rfl
@[simp] theorem Vj:lay.tt 248=some ⟨.int .u8,1,1,(.int .u8 0),[]⟩:=rfl
end Go.Proofs.YtldmpfccgajobaaGreatDoor
namespace Go.Proofs.YtldmpfccgajobaaGreatDoor
open Tryz (prog)
open Go.aR
abbrev S9:List Entry:=[⟨2,.take [0,1,3,4,5] false (.one 2 (.one 6 (.one 7 (.take [8] true (.done)))))⟩]
abbrev Ta:List Entry:=[⟨1,.take [0,1,3,4,5,6,7,8] false (.both 2 (.both 9 (.one 10 (.one 11 (.done))) (.one 10 (.one 9 (.one 11 (.done))))) (.one 10 (.one 2 (.one 9 (.one 11 (.done))))))⟩,⟨5,.take [0,2,3,4,5,6,10] false (.both 1 (.one 7 (.one 8 (.one 9 (.one 11 (.done))))) (.one 7 (.both 1 (.one 8 (.one 9 (.one 11 (.done)))) (.one 8 (.take [1] true (.one 9 (.one 11 (.done))))))))⟩]
abbrev On:List Entry:=[⟨8,.take [0,1,2,3,4,5,6] true (.done)⟩]
abbrev Tb:List Entry:=[⟨4,.take [0,1,2,3,4,5,6,7,8] true (.done)⟩]
abbrev Tc:List Entry:=[⟨6,.take [0,1,2,3,4,5,6,7,8,9] false (.one 10 (.take [11] true (.done)))⟩]
abbrev Td:List Entry:=[⟨15,.take [0,1,2,3,4,5] false (.one 6 (.take [7] true (.done)))⟩]
abbrev Te:List Entry:=[⟨19,.take [0,2,3,4,6,7,11] false (.both 1 (.both 5 (.one 8 (.one 9 (.take [10] true (.one 12 (.done))))) (.one 8 (.one 5 (.one 9 (.take [10] true (.one 12 (.done))))))) (.both 5 (.both 1 (.one 8 (.one 9 (.take [10] true (.one 12 (.done))))) (.one 8 (.both 1 (.one 9 (.take [10] true (.one 12 (.done)))) (.one 9 (.take [1,10] true (.one 12 (.done))))))) (.one 8 (.both 1 (.one 5 (.one 9 (.take [10] true (.one 12 (.done))))) (.one 5 (.both 1 (.one 9 (.take [10] true (.one 12 (.done)))) (.one 9 (.take [1,10] true (.one 12 (.done))))))))))⟩]
abbrev Tf:List Entry:=[⟨7,.take [0,2,6] false (.both 1 (.one 3 (.one 4 (.one 5 (.one 7 (.done))))) (.one 3 (.both 1 (.one 4 (.one 5 (.one 7 (.done)))) (.one 4 (.take [1] true (.one 5 (.one 7 (.done))))))))⟩,⟨15,.take [0,2,5,6,8,11,12,13] false (.both 1 (.take [3,4,14] false (.one 7 (.take [9,10,16] false (.one 15 (.one 17 (.done)))))) (.one 7 (.take [9,10,16] false (.take [1,3,4,14] true (.one 15 (.one 17 (.done)))))))⟩,⟨21,.take [0,2,3,7] false (.both 1 (.one 4 (.one 5 (.one 6 (.one 8 (.done))))) (.one 4 (.both 1 (.one 5 (.one 6 (.one 8 (.done)))) (.one 5 (.take [1] true (.one 6 (.one 8 (.done))))))))⟩]
abbrev Tg:List Entry:=[⟨4,.take [0,1,2,3,4,5,6,7] false (.one 8 (.take [9] true (.done)))⟩]
abbrev Th:List Entry:=[⟨6,.take [0,1,2,3] true (.done)⟩]
abbrev Ti:List Entry:=[⟨4,.take [0,1,2,3,4,5,6,7,8,9,10,11,12,13,14,15,16,17] true (.done)⟩]
abbrev Tj:List Entry:=[⟨8,.take [0,1,2,3,4,5,6,7,8,9,10,11,12,13,14] true (.done)⟩,⟨11,.take [0,1,3,4,5,6,7,8,10] false (.one 2 (.take [9,11] false (.one 12 (.one 13 (.take [14] true (.done))))))⟩,⟨17,.take [0,1,2,3] false (.one 4 (.one 5 (.take [6] true (.done))))⟩]
abbrev Tk:List Entry:=[⟨9,.take [0,1,2,3,4,5,6,7,8,9,10,11] false (.one 12 (.take [13,14] true (.done)))⟩]
abbrev Tl:List Entry:=[⟨3,.take [0,1,2,3,4,5,6,7,8,9] true (.done)⟩,⟨4,.take [0,1,2,3,4,5,6,7,8,9,10,11,12,13,14] true (.take [15] true (.done))⟩,⟨6,.take [0,1,2,3,5,6,7,11,12] false (.take [4,8,9,10] true (.one 13 (.done)))⟩]
abbrev Tm:List Entry:=[⟨5,.take [0,1,2,3,4,5,6,7,8,9,10,11,12,13,14,15,16] false (.both 17 (.one 18 (.one 19 (.one 20 (.done)))) (.one 18 (.one 17 (.one 19 (.one 20 (.done))))))⟩,⟨6,.take [0,1,2,3,4,5,6,7,8,9,10,11,12,13,14,15,16,17,18] false (.one 19 (.take [20,21,22] true (.done)))⟩]
abbrev Tn:List Entry:=[⟨24,.take [0,1,2,3,4,5,6,7,8,9,10,11,12,13,14,15,16,17,18,19,20,21,22,23,24] true (.done)⟩,⟨29,.take [0,1,2,3,4,5,6,7,8,9,10,11,12,13,14,15,16,17,18,19,20,21,22] true (.done)⟩]
abbrev Tp:List Entry:=[⟨22,.take [0,1,2,3,4,5,6,7,8,9,10,11,12,13,14,15,16,17,18,19,20,21,22,23,24,25,26,27,28,29] true (.done)⟩,⟨27,.take [0,1,2,3,4,5,6,7,8,9,10,11,12,13,14,15,16,17,18,19,20,21,22] true (.done)⟩]
abbrev Tq:List Entry:=[⟨12,.take [0,1,2,3,4,5,6,7,8,9,10,11,12,13,14,15] true (.done)⟩]
abbrev Rn:List Entry:=[⟨5,.take [0,1,3] false (.both 2 (.both 4 (.one 5 (.one 6 (.one 7 (.take [8] true (.done))))) (.one 5 (.one 4 (.one 6 (.one 7 (.take [8] true (.done))))))) (.one 5 (.one 2 (.one 4 (.one 6 (.one 7 (.take [8] true (.done))))))))⟩,⟨11,.take [0,1,2] false (.one 3 (.one 4 (.done)))⟩]
abbrev Ro:List Entry:=[⟨7,.take [0,1,2,3] true (.done)⟩]
abbrev Rq:List Entry:=[⟨4,.take [0,2,4] false (.take [1] true (.one 3 (.one 5 (.done))))⟩,⟨5,.take [0,1,2] false (.one 3 (.one 4 (.take [5,6,8,9,10,12,15,16,17] false (.both 7 (.both 11 (.both 13 (.both 14 (.one 18 (.one 19 (.take [20,21] true (.done)))) (.one 18 (.one 14 (.one 19 (.take [20,21] true (.done)))))) (.one 18 (.one 13 (.one 14 (.one 19 (.take [20,21] true (.done))))))) (.both 13 (.both 11 (.both 14 (.one 18 (.one 19 (.take [20,21] true (.done)))) (.one 18 (.one 14 (.one 19 (.take [20,21] true (.done)))))) (.one 18 (.one 11 (.one 14 (.one 19 (.take [20,21] true (.done))))))) (.one 18 (.both 11 (.one 13 (.one 14 (.one 19 (.take [20,21] true (.done))))) (.one 13 (.one 11 (.one 14 (.one 19 (.take [20,21] true (.done)))))))))) (.both 11 (.both 7 (.both 13 (.both 14 (.one 18 (.one 19 (.take [20,21] true (.done)))) (.one 18 (.one 14 (.one 19 (.take [20,21] true (.done)))))) (.one 18 (.one 13 (.one 14 (.one 19 (.take [20,21] true (.done))))))) (.both 13 (.both 7 (.both 14 (.one 18 (.one 19 (.take [20,21] true (.done)))) (.one 18 (.one 14 (.one 19 (.take [20,21] true (.done)))))) (.both 14 (.both 7 (.one 18 (.one 19 (.take [20,21] true (.done)))) (.one 18 (.one 7 (.one 19 (.take [20,21] true (.done)))))) (.one 18 (.both 7 (.one 14 (.one 19 (.take [20,21] true (.done)))) (.one 14 (.one 7 (.one 19 (.take [20,21] true (.done))))))))) (.one 18 (.both 7 (.one 13 (.one 14 (.one 19 (.take [20,21] true (.done))))) (.one 13 (.both 7 (.one 14 (.one 19 (.take [20,21] true (.done)))) (.one 14 (.one 7 (.one 19 (.take [20,21] true (.done))))))))))) (.both 13 (.both 7 (.both 11 (.both 14 (.one 18 (.one 19 (.take [20,21] true (.done)))) (.one 18 (.one 14 (.one 19 (.take [20,21] true (.done)))))) (.one 18 (.one 11 (.one 14 (.one 19 (.take [20,21] true (.done))))))) (.both 11 (.both 7 (.both 14 (.one 18 (.one 19 (.take [20,21] true (.done)))) (.one 18 (.one 14 (.one 19 (.take [20,21] true (.done)))))) (.both 14 (.both 7 (.one 18 (.one 19 (.take [20,21] true (.done)))) (.one 18 (.one 7 (.one 19 (.take [20,21] true (.done)))))) (.one 18 (.both 7 (.one 14 (.one 19 (.take [20,21] true (.done)))) (.one 14 (.one 7 (.one 19 (.take [20,21] true (.done))))))))) (.one 18 (.both 7 (.one 11 (.one 14 (.one 19 (.take [20,21] true (.done))))) (.one 11 (.both 7 (.one 14 (.one 19 (.take [20,21] true (.done)))) (.one 14 (.one 7 (.one 19 (.take [20,21] true (.done))))))))))) (.one 18 (.both 7 (.both 11 (.one 13 (.one 14 (.one 19 (.take [20,21] true (.done))))) (.one 13 (.one 11 (.one 14 (.one 19 (.take [20,21] true (.done))))))) (.both 11 (.both 7 (.one 13 (.one 14 (.one 19 (.take [20,21] true (.done))))) (.one 13 (.both 7 (.one 14 (.one 19 (.take [20,21] true (.done)))) (.one 14 (.one 7 (.one 19 (.take [20,21] true (.done)))))))) (.one 13 (.both 7 (.one 11 (.one 14 (.one 19 (.take [20,21] true (.done))))) (.one 11 (.both 7 (.one 14 (.one 19 (.take [20,21] true (.done)))) (.one 14 (.one 7 (.one 19 (.take [20,21] true (.done))))))))))))))))))⟩]
abbrev Rr:List Entry:=[⟨1,.take [0,1,2,3,4,5] true (.one 6 (.done))⟩]
abbrev Rs:List Entry:=[⟨3,.take [0,1,2,3] false (.one 4 (.one 5 (.take [6,7,8,9,10] true (.done))))⟩,⟨6,.take [0,1,2,3,4,5] true (.one 6 (.done))⟩]
abbrev Rt:List Entry:=[⟨1,.take [0,1,2,3,4,5,6,7,8,9,10,11,12,13,14,15,16,17] false (.one 18 (.take [19] true (.done)))⟩]
abbrev Ru:List Entry:=[⟨8,.take [0,1,2,3,4,5,6,7,8,9,10,11,12,13,14,15,16,17,18,19,20] true (.done)⟩]
abbrev Rv:List Entry:=[⟨1,.take [0,1,2,3,4,5,6,7,8,9] true (.done)⟩]
abbrev Rw:List Entry:=[⟨4,.take [0,1,2,3,4,5,6,7,9,10,11,12] false (.both 8 (.one 13 (.one 14 (.take [15,16] true (.done)))) (.one 13 (.one 8 (.one 14 (.take [15,16] true (.done))))))⟩,⟨6,.take [0,1,2,3,4,5,6,7,8,10,11,12,14,16] false (.take [9,13] true (.one 15 (.one 17 (.done))))⟩]
abbrev Rx:List Entry:=[⟨4,.take [0,1,2,3,4,5,6,7,8,9,10,11,12,13,14,15,16,17,18,19,20] true (.done)⟩]
abbrev Ry:List Entry:=[⟨4,.take [0,1,2,3,4,5,6,7,8,9,10,11,12,13,14,15,16,17,18,19,20,21,22] false (.both 23 (.one 24 (.one 25 (.one 26 (.done)))) (.one 24 (.one 23 (.one 25 (.one 26 (.done))))))⟩,⟨5,.take [0,1,2,3,4,5,6,7,8,9,10,11,12,13,14,15,16,17,18,19,20,21,22,23,24,26,27] false (.one 25 (.one 28 (.one 29 (.take [30,31,32] true (.done)))))⟩]
attribute [simp] L0
abbrev int(n:Int):AV:=.lit (.int .i64 n)
abbrev u8(n:Int):AV:=.lit (.int .u8 n)
abbrev bool(b:Bool):AV:=.lit (.bool b)
abbrev ints(l:List Int):AV:=.sl 1 (l.map int) .any
abbrev rows(l:List (List Int)):AV:=.sl 1 (l.map ints) .any
structure gq where
 hour:Int
 place:Int
 bG:Int
 marks:List Int
 aQ:Int
 fT:Int
 deriving DecidableEq
structure Fr where
 ao:List gq
 roads:List (List Int)
 bE:Int
 iQ:Int
 dG:Int
 most:Int
 deriving DecidableEq
abbrev aS(e:gq):AV:=.agg [int e.hour,int e.place,int e.bG,ints e.marks,int e.aQ,int e.fT]
abbrev ll(l:List gq):AV:=.sl 6 (l.map aS) .any
abbrev bS(f:Fr):List AV:=[ll f.ao,rows f.roads,int f.bE,int f.iQ,int f.dG,int f.most]
abbrev az(f:Fr):AV:=.agg (bS f)
abbrev iY(b mb:Nat)(f:Fr)(o:Nat):AV:=.kp b [ll f.ao,rows f.roads,int f.bE,int f.iQ,int f.dG,int f.most,.lit (.int .i32 0),.lit (.int .u32 0),.map mb] [6,7] o
def bx(a b c:Int):Bool:=decide (b<=a) && decide (a<=c)
def pY:Option Int->Int->Bool
 |some q,h=>decide (h<=q)
 |none,_=>false
def ma:Option Int->List Int->Int
 |_,[]=>0
 |p,h::l=>if bx h 0 4=false then 3 else if pY p h=true then 5 else ma (some h) l
def bf(places:Int)(e:gq):Int:=
 if bx e.hour 0 72=false then 1 else if bx e.place 0 (places-1)=false then 3 else if bx e.bG 0 5=false then 1 else if ma none e.marks≠0 then ma none e.marks
 else if bx e.aQ 0 30=false then 1 else if bx e.fT 0 2=false then 8 else 0
def ew(f:gq->Int):List gq->Int
 |[]=>0
 |d::l=>if f d=0 then ew f l else f d
theorem FY(l:List Int)(i:Nat)(h:i<l.length)(p:Option Int):ma p (l.drop i)=if bx l[i] 0 4=false then 3 else if pY p l[i]=true then 5 else ma (some l[i]) (l.drop (i+1)):=by rw[List.drop_eq_getElem_cons h,ma]
theorem uV(f:gq->Int)(l:List gq)(i:Nat)(h:i<l.length):ew f (l.drop i)=if f l[i]=0 then ew f (l.drop (i+1))else f l[i]:=by rw[List.drop_eq_getElem_cons h,ew]
theorem sU{α:Type}{l:List α}{n:α}{k:Nat}(g:k<l.length)(h:n∉l.take k)(a:l[k]≠n):n∉l.take (k+1):=by rw[List.take_succ_eq_append_getElem g,List.mem_append,List.mem_singleton];exact λe=>e.elim h λe=>a e.symm
theorem A8{α:Type}{l a:List α}{k:Nat}(g:k<l.length)(g':k<a.length)(h:l.take k=a.take k)(e:l[k]=a[k]):l.take (k+1)=a.take (k+1):=by rw[List.take_succ_eq_append_getElem g,List.take_succ_eq_append_getElem g',h,e]
def rd(r:List (List Int))(i j:Nat):Int:=(r.getD i []).getD j 0
def bW(r:List (List Int))(i j:Nat):Bool:=rd r i i !=0||rd r i j !=rd r j i||(List.range r.length).any λk=>decide (rd r i j>rd r i k+rd r k j)
def i7(n:Nat)(l:List Int):Int:=if l.length≠n then 9 else if l.all (bx · 0 9)then 0 else 1
def fK(n:Nat):List (List Int)->Int
 |[]=>0
 |l::r=>if i7 n l=0 then fK n r else i7 n l
def fe(r:List (List Int)):Int:=
 if r.length<1 then 7 else if 3<r.length then 6 else if fK r.length r≠0 then fK r.length r
 else if(List.range r.length).any (λi=>(List.range r.length).any λj=>bW r i j)then 9 else 0
def check(f:Fr):Int:=
 if fe f.roads≠0 then fe f.roads else if(bx f.bE 0 3 && bx f.iQ 0 3)=false then 1 else if f.iQ<f.bE then 5
 else if(bx f.dG 1 6 && bx f.most 1 6)=false then 1 else if(6:Int)<f.ao.length then 6 else ew (bf f.roads.length) f.ao
theorem xk(n:Nat)(l:List (List Int))(i:Nat)(h:i<l.length):fK n (l.drop i)=if i7 n l[i]=0 then fK n (l.drop (i+1))else i7 n l[i]:=by rw[List.drop_eq_getElem_cons h,fK]
structure Fr.Fits(f:Fr):Prop where
 ao:f.ao.length<1152921504606846976
 roads:f.roads.length<1152921504606846976
 row:∀r∈f.roads,r.length<1152921504606846976
 marks:∀e∈f.ao,e.marks.length<1152921504606846976
def jK(i:Int):List Int->Int->Int
 |[],_=>-1
 |x::l,v=>if x=v then i else jK (i+1) l v
def qK(l:List Int)(v:Int):Int:=jK 0 l v
theorem zw(l:List Int)(v:Int)(i:Nat)(h:i<l.length)(c:Int):jK c (l.drop i) v=if l[i]=v then c else jK (c+1) (l.drop (i+1)) v:=by rw[List.drop_eq_getElem_cons h,jK]
theorem xl(v:Int):∀(l:List Int) (i:Int),0<=i->(0<=jK i l v↔v∈l)
 |[],i,h=>by simp[jK]
 | x::l,i,h=>by
   unfold jK;split
   . next e=>subst e;simp[h]
   . next e=>rw[xl v l (i+1) (by omega)];simp[Ne.symm e]
theorem mD(l:List Int)(v:Int):0<=qK l v↔v∈l:=xl v l 0 (Int.le_refl _)
def gz(f:Fr)(e:gq):List Int:=if e.fT≠0 then(List.range (f.iQ-f.bE+1).toNat).map λi:Nat=>e.aQ-f.iQ+(i:Int)else[]
def bL(f:Fr)(e:gq):List Int:=if e.fT≠1/\e.aQ∉gz f e then gz f e++[e.aQ]else gz f e
def dm(first:List Int)(others:List (List Int)):List Int:=first.filter λx=>others.all λl=>decide (x∈l)
def be(f:Fr)(i:Int):gq:=f.ao.getD i.toNat ⟨0,0,0,[],0,0⟩
def eP(f:Fr)(l:List Int):List Int:=match l.map λi=>bL f (be f i)with|[]=>[]|a::r=>dm a r
def kq(f:Fr):Option Int->List Int->Int
 |_,[]=>0
 |p,n::l=>if bx n 0 (f.ao.length-1)=false then 3 else if pY p n=true then 5 else kq f (some n) l
def xm(f:Fr)(l:List Int):Int:=if l.length=0 then 7 else kq f none l
theorem Ez(f:Fr)(l:List Int)(i:Nat)(h:i<l.length)(p:Option Int):kq f p (l.drop i)=if bx l[i] 0 (f.ao.length-1)=false then 3 else if pY p l[i]=true then 5 else kq f (some l[i]) (l.drop (i+1)):=by rw[List.drop_eq_getElem_cons h,kq]
abbrev Tr(n:Int):AV:=if n=0 then .lit .nilIface else .px 159 (.agg [int n])
def Rz(a b:Int):Int:=IntKind.u8.wrap (((BitVec.ofInt 8 a|||BitVec.ofInt 8 b).toNat:Nat):Int)
def FZ(a b:Int):Int:=IntKind.u8.wrap (((BitVec.ofInt 8 a &&& BitVec.ofInt 8 b).toNat:Nat):Int)
def xp(a b:Int):Int:=IntKind.u8.wrap (((BitVec.ofInt 8 a ^^^ BitVec.ofInt 8 b).toNat:Nat):Int)
def Od(a b:Int):Int:=IntKind.u8.wrap (a-b)
theorem CV(a b:Int):qG .or .u8 a b=some (.int .u8 (Rz a b)):=rfl
theorem zx(a b:Int):qG .and .u8 a b=some (.int .u8 (FZ a b)):=rfl
theorem Hm(a b:Int):qG .xor .u8 a b=some (.int .u8 (xp a b)):=rfl
theorem Hn(a b:Int):qG .sub .u8 a b=some (.int .u8 (Od a b)):=rfl
def bH(m n:Int):Int:=Rz m (IntKind.u8.wrap (2 ^ min n.toNat IntKind.u8.bits))
def nE(m n:Int):Bool:=FZ (m.fdiv (2 ^ min n.toNat IntKind.u8.bits)) 1==1
def cD(m:Int):List Int:=((List.range 6).map λn:Nat=>(n:Int)).filter λn=>nE m n
def bd(l:List Int):Int:=l.foldl bH 0
end Go.Proofs.YtldmpfccgajobaaGreatDoor
namespace Go.Proofs.YtldmpfccgajobaaGreatDoor
open Tryz (prog)
open Go.aR Go.Conc
set_option maxHeartbeats 1000000
variable{m:Mo}{σ:aa}{KF:dF->aa->Prop}
theorem dZ{a c d:Int}(h:KF (.val (bool (bx a c d))) σ):ar prog m 80 [int a,int c,int d] σ KF:=by
 unfold bx at h;refine fs [] 3 Tryz.func80 rfl rfl (by rfl) (by kernel_rfl) ?_;simp[Tryz.f80];refine vp.intro (λb=>?_) (λb=>?_)<;>simp[b]
 . exact .done (by simpa[b]using h)
 . exact .done (by simpa[b]using h)
theorem Kj{l:List Int}{v:Int}(n:l.length<1152921504606846976)(h:KF (.val (int (qK l v))) σ):ar prog m 157 [ints l,int v] σ KF:=by
 refine fs [] 2 Tryz.func157 rfl rfl (by rfl) (by kernel_rfl) ?_;simp[Tryz.f157];refine ab.loop l.length (λk s=>∃env,s=⟨env,σ,[],.no⟩/\env 0=ints l/\env 1=int v/\env 7=int l.length/\env 8=int k/\jK 0 l v=jK k (l.drop k) v) ⟨_,rfl,by simp⟩ ?_;rintro o k _ p ⟨env,rfl,f,g,i,d,a⟩ j;refine rn ?_;simp[i,d];refine aE.intro (λc=>?_) (λc=>?_)<;>(try simp[-Int.not_lt,-Int.not_le,-Nat.not_lt,-Nat.not_le]at c)<;>(try simp[f,g,d,c])
 . rw[zw l v k c]at a
   refine aE.intro (λb=>?_) (λb=>?_)<;>(try simp[-Int.not_lt,-Int.not_le,-Nat.not_lt,-Nat.not_le]at b)<;>(try simp[b]at a)<;>(try simp[d,b])<;>(try exact .done a)
   . subst b
     unfold qK at h;rw[a]at h;exact .done h
   . exact⟨by omega,j _ c ⟨_,rfl,by simp[f],by simp[g],by simp[i],by simp,by rw[a,if_neg (λe=>b e.symm)];simp⟩⟩
 . have:k=l.length:=by omega
   subst this;unfold qK at h;rw[a]at h;simp[jK]at h;exact .done h
theorem kQ{l:List Int}{v:Int}(a:l.length<1152921504606846976)(h:KF (.val (bool (decide (v∈l)))) σ):ar prog m 124 [ints l,int v] σ KF:=by
 refine fs [] 2 Tryz.func124 rfl rfl (by rfl) (by kernel_rfl) ?_;simp[Tryz.f124];refine cf Tryz.func157 rfl (Kj a ?_);refine rn ?_;simp;rw[<-decide_eq_decide.2 (mD l v)]at h;exact .done h
theorem sV{l:List Int}{v:Int}(i:l.length<1152921504606846976)(h:KF (.val (int (qK l v))) σ):ar prog m 105 [ints l,int v] σ KF:=by
 refine fs [] 2 Tryz.func105 rfl rfl (by rfl) (by kernel_rfl) ?_;simp[Tryz.f105];refine ab.loop l.length (λk s=>∃env,s=⟨env,σ,[],.no⟩/\env 0=ints l/\env 1=int v/\env 5=int k/\jK 0 l v=jK k (l.drop k) v) ⟨_,rfl,by simp⟩ ?_;rintro j k _ n ⟨env,rfl,d,f,e,a⟩ g;refine rn ?_;simp[d,e];refine aE.intro (λb=>?_) (λb=>?_)<;>(try simp[-Int.not_lt,-Int.not_le,-Nat.not_lt,-Nat.not_le]at b)<;>(try simp[d,f,e,b])
 . rw[zw l v k b]at a
   refine aE.intro (λc=>?_) (λc=>?_)<;>(try simp[-Int.not_lt,-Int.not_le,-Nat.not_lt,-Nat.not_le]at c)<;>(try simp[c]at a)<;>(try simp[e,c])<;>(try exact .done a)
   . subst c
     unfold qK at h;rw[a]at h;exact .done h
   . exact⟨by omega,g _ b ⟨_,rfl,by simp[d],by simp[f],by simp,by rw[a];simp⟩⟩
 . have:k=l.length:=by omega
   subst this;unfold qK at h;rw[a]at h;simp[jK]at h;exact .done h
theorem fa{a b:List Int}(r:a.length<1152921504606846976)(hb:b.length<1152921504606846976)(h:KF (.val (bool (decide (a=b)))) σ):ar prog m 21 [ints a,ints b] σ KF:=by
 refine fs Tb 2 Tryz.func21 rfl rfl (by rfl) (by kernel_rfl) ?_
 simp[Tryz.f21];refine ab.loop a.length (λk s=>∃env,s=⟨env,σ,[],.no⟩/\env 0=ints a/\env 1=ints b/\env 5=int k/\k<=b.length/\a.take k=b.take k) ⟨_,rfl,by simp⟩ ?_
 rintro t k _ u ⟨env,rfl,f,j,g,o,l⟩ p
 refine rn ?_;simp[f,g];refine vp.intro (λc=>?_) (λc=>?_)<;>(try simp[-Int.not_lt,-Int.not_le,-Nat.not_lt,-Nat.not_le]at c)<;>(try simp[f,j,g,c])
 . refine aE.intro (λi=>?_) (λi=>?_)<;>(try simp[-Int.not_lt,-Int.not_le,-Nat.not_lt,-Nat.not_le]at i)<;>(try simp[f,j,g,i,c])
   . refine rn ?_
     simp;refine aE.intro (λd=>?_) (λd=>?_)<;>(try simp[-Int.not_lt,-Int.not_le,-Nat.not_lt,-Nat.not_le]at d)<;>(try simp[g,d])
     . have:a≠b:=λe=>by subst e;exact d rfl
       simp[this]at h;exact .done h
     . refine⟨by omega,p _ c ⟨_,rfl,by simp[f],by simp[j],by simp,by omega,A8 c i l d⟩⟩
   . have:a≠b:=λe=>by subst e;omega
     have n:((a.length:Int)==b.length)=false:=by rw[beq_eq_false_iff_ne];omega
     rw[n];exact .done (by simpa[this]using h)
 . have:k=a.length:=by omega
   subst this;rw[List.take_length]at l
   by_cases e:a.length=b.length
   . have:a=b:=by rw[l,e,List.take_length]
     exact .done (by simpa[this,e]using h)
   . have:a≠b:=λq=>e (by rw[q])
     have n:((a.length:Int)==b.length)=false:=by rw[beq_eq_false_iff_ne];omega
     rw[n];exact .done (by simpa[this]using h)
theorem CW{l:List Int}(c:l.length<=1000000000)(h:∀a σ',bF σ σ' a 1 (l.map int)->KF (.val a) σ'):ar prog m 25 [ints l] σ KF:=by
 refine fs [] 1 Tryz.func25 rfl rfl (by rfl) (by kernel_rfl) ?_;simp[Tryz.f25];refine jx lay rfl rfl rfl bC rfl bC rfl oo (by decide) (by simp;omega) (σ0:=σ) (es:=[]) (xs:=l.map int) (.empty σ 1) (.inl (.inr ⟨_,rfl⟩)) (by simp) λd σ' b=>?_
 refine rn ?_;simp;exact .done (h _ _ (by simpa using b))
theorem xq{l:List Int}(b:l.length<=1000000000)(h:KF (.val (ints l)) σ):ar prog m 25 [ints l] σ KF:=(CW b λa c d=>d.thaw h).thaw
theorem CX{n:Int}(h:KF (.val (bool false)) σ):ar prog m 155 [int n] σ KF:=by
 refine fs [] 1 Tryz.func155 rfl rfl (by rfl) (by kernel_rfl) ?_;simp[Tryz.f155];exact .done h
def A9(x y:Int):Int:=if x<y then -1 else if y<x then 1 else 0
theorem EA{x y:Int}(h:KF (.val (int (A9 x y))) σ):ar prog m 122 [int x,int y] σ KF:=by
 unfold A9 at h;refine fs [] 2 Tryz.func122 rfl rfl (by rfl) (by kernel_rfl) ?_;simp[Tryz.f122];refine cf Tryz.func155 rfl (CX ?_);refine rn ?_;simp;refine cf Tryz.func155 rfl (CX ?_);refine rn ?_;simp;refine aE.intro (λa=>?_) (λa=>?_)<;>(try simp[-Int.not_lt,-Int.not_le,-Nat.not_lt,-Nat.not_le]at a)<;>(try simp[a]at h)<;>(try simp[a])<;>(try exact .done h);refine aE.intro (λb=>?_) (λb=>?_)<;>(try simp[-Int.not_lt,-Int.not_le,-Nat.not_lt,-Nat.not_le]at b)<;>(try simp[b]at h)<;>(try simp[b])<;>(try exact .done h)
theorem yJ{l:List Int}(g:l.length<1152921504606846976)(hb:∀x∈l,-1<=x/\x<=1000)(h:KF (.val (int (l.foldl (λn k=>max n (k+1)) 0))) σ):ar prog m 65 [ints l] σ KF:=by
 refine fs [] 1 Tryz.func65 rfl rfl (by rfl) (by kernel_rfl) ?_;simp[Tryz.f65];refine ab.loop l.length (λk s=>∃env,s=⟨env,σ,[],.no⟩/\env 3=int ((l.take k).foldl (λn k=>max n (k+1)) 0)/\env 6=ints l/\env 7=int l.length/\env 8=int k) ⟨_,rfl,by simp⟩ ?_;rintro i k _ j ⟨env,rfl,e,b,c,d⟩ f;refine rn ?_;simp[c,d];refine aE.intro (λa=>?_) (λa=>?_)<;>(try simp[-Int.not_lt,-Int.not_le,-Nat.not_lt,-Nat.not_le]at a)<;>(try simp[e,b,d,a])
 . have:=hb _ (List.getElem_mem a)
   refine⟨by omega,?_⟩;refine⟨by omega,f _ a ⟨_,rfl,?_,by simp[b],by simp[c],by simp⟩⟩;rw[List.take_succ_eq_append_getElem a,List.foldl_append];simp;split<;>omega
 . have:k=l.length:=by omega
   subst this;rw[List.take_length];exact .done h
theorem nr{e:gq}{places:Int}(w:0<=places/\places<1152921504606846976)(x:e.marks.length<1152921504606846976)(h:KF (.val (int (bf places e))) σ):ar prog m 81 [aS e,int places] σ KF:=by
 unfold bf at h;refine fs [] 2 Tryz.func81 rfl rfl (by rfl) (by kernel_rfl) ?_;simp[Tryz.f81];refine cf Tryz.func80 rfl (dZ ?_);refine rn ?_;simp;refine aE.intro (λl=>?_) (λl=>?_)<;>(try simp[-Int.not_lt,-Int.not_le,-Nat.not_lt,-Nat.not_le]at l)<;>(try simp[l]at h)<;>(try simp[l])<;>(try exact .done h);refine⟨by omega,?_⟩;refine cf Tryz.func80 rfl (dZ ?_);refine rn ?_;simp;refine aE.intro (λn=>?_) (λn=>?_)<;>(try simp[-Int.not_lt,-Int.not_le,-Nat.not_lt,-Nat.not_le]at n)<;>(try simp[n]at h)<;>(try simp[n])<;>(try exact .done h);refine cf Tryz.func80 rfl (dZ ?_);refine rn ?_;simp;refine aE.intro (λo=>?_) (λo=>?_)<;>(try simp[-Int.not_lt,-Int.not_le,-Nat.not_lt,-Nat.not_le]at o)<;>(try simp[o]at h)<;>(try simp[o])<;>(try exact .done h)
 refine ab.loop e.marks.length (λk s=>∃env,s=⟨env,σ,[],.no⟩/\env 2=.cp (aS e) 0/\env 22=ints e.marks/\env 23=int e.marks.length/\env 24=int k/\ma none e.marks=ma (if k=0 then none else e.marks[k-1]?) (e.marks.drop k)) ⟨_,rfl,by simp⟩ ?_;rintro y k _ z ⟨env,rfl,j,g,i,b,a⟩ q;refine rn ?_;simp[i,b];refine aE.intro (λf=>?_) (λf=>?_)<;>(try simp[-Int.not_lt,-Int.not_le,-Nat.not_lt,-Nat.not_le]at f)<;>(try simp[j,g,b,f])
 . rw [FY _ k f]at a
   refine cf Tryz.func80 rfl (dZ ?_);refine rn ?_;simp;refine aE.intro (λc=>?_) (λc=>?_)<;>(try simp[-Int.not_lt,-Int.not_le,-Nat.not_lt,-Nat.not_le]at c)<;>(try simp[c]at a)<;>(try simp[c])<;>(try exact .done a)
   . refine vp.intro (λd=>?_) (λd=>?_)<;>(try simp[-Int.not_lt,-Int.not_le,-Nat.not_lt,-Nat.not_le]at d)<;>(try simp[d]at a)<;>(try simp[j,b,d])<;>(try exact .done a)
     . have t:(k:Int)-1=((k-1:Nat):Int):=by omega
       have r:k-1<e.marks.length:=by omega
       have u:¬k=0:=by omega
       simp[t,r];repeat refine⟨by omega,?_⟩
       try simp[r,u,pY]at a
       refine aE.intro (λp=>?_) (λp=>?_)<;>(try simp[-Int.not_lt,-Int.not_le,-Nat.not_lt,-Nat.not_le]at p)<;>(try simp[p]at a)<;>(try simp[b,p])<;>(try exact .done a)
       . simp[a]at h
         exact .done h
       . refine⟨by omega,q _ f ⟨_,rfl,by simp[j],by simp[g],by simp[i],by simp,?_⟩⟩
         simp[a,f]
     . have v:k=0:=by omega
       subst v;simp[pY]at a;refine⟨by omega,q _ f ⟨_,rfl,by simp[j],by simp[g],by simp[i],by simp,?_⟩⟩;simp[a,f]
   . simp[a]at h
     exact .done h
 . have:k=e.marks.length:=by omega
   subst this;simp[ma]at a;simp[a]at h;refine cf Tryz.func80 rfl (dZ ?_);refine rn ?_;simp;refine aE.intro (λc=>?_) (λc=>?_)<;>(try simp[-Int.not_lt,-Int.not_le,-Nat.not_lt,-Nat.not_le]at c)<;>(try simp[c]at h)<;>(try simp[j,c])<;>(try exact .done h);refine cf Tryz.func80 rfl (dZ ?_);refine rn ?_;simp;refine aE.intro (λd=>?_) (λd=>?_)<;>(try simp[-Int.not_lt,-Int.not_le,-Nat.not_lt,-Nat.not_le]at d)<;>(try simp[d]at h)<;>(try simp[d])<;>(try exact .done h)
theorem iv{n:Nat}:∀{r:List (List Int)},fK n r=0->∀l∈r,l.length=n/\∀x∈l,bx x 0 9=true
 |[],_,l,c=>by simp at c
 | a :: r,h,l,c=>by
   unfold fK at h;split at h
   . next b=>
     rcases List.mem_cons.1 c with rfl|c
     . unfold i7 at b
       split at b
       . cases b
       . next d=>
         split at b
         . next e=>exact⟨by simpa using d,λx f=>List.all_eq_true.1 e x f⟩
         . cases b
     . exact iv h l c
   . next b=>exact absurd h b
theorem dE{r:List (List Int)}{i j:Nat}(a:i<r.length)(b:j<r[i].length):rd r i j=r[i][j]:=by simp[rd,List.getD_eq_getElem?_getD,a,b]
theorem iU{a b c:Int}(h:bx a b c=true):b<=a/\a<=c:=by simpa[bx]using h
theorem yf{r:List (List Int)}(hr:r.length<1152921504606846976)(hl:∀l∈r,l.length<1152921504606846976)(h:KF (.val (int (fe r))) σ):ar prog m 79 [rows r] σ KF:=by
 unfold fe at h;refine fs Tn 1 Tryz.func79 rfl rfl (by rfl) (by kernel_rfl) ?_
 simp[Tryz.f79];refine aE.intro (λg1=>?_) (λg1=>?_)<;>simp at g1<;>simp[g1]
 . rw[if_pos (show r.length<1 by omega)]at h
   exact .done h
 refine aE.intro (λg2=>?_) (λg2=>?_)<;>simp at g2<;>simp[g2]
 . have X:¬r.length<1:=by omega
   have N:3<r.length:=by omega
   rw[if_neg (show ¬r.length<1 by omega),if_pos N]at h
   exact .done h
 have X:¬r.length<1:=by omega
 have N:¬3<r.length:=by omega
 rw[if_neg X,if_neg N]at h;refine ab.loop r.length (λk s=>∃env,s=⟨env,σ,[],.no⟩/\env 0=rows r/\env 19=rows r/\env 20=int r.length/\env 21=int k/\fK r.length r=fK r.length (r.drop k)) ⟨_,rfl,by simp⟩ ?_
 rintro c0 k _ hk ⟨env,rfl,b,p,q,n,v⟩ Y
 refine rn ?_;simp[q,n];refine aE.intro (λK=>?_) (λK=>?_)<;>(try simp[-Int.not_lt,-Int.not_le,-Nat.not_lt,-Nat.not_le]at K)<;>(try simp[b,p,n,K])
 . rw [xk _ _ k K]at v
   obtain⟨l,O⟩:∃l,l=r[k]:=⟨_,rfl⟩;simp only[<-O]at v ⊢;have ad:l.length<1152921504606846976:=hl l (by rw[O];exact List.getElem_mem K)
   refine aE.intro (λa=>?_) (λa=>?_)<;>simp at a<;>simp[a]
   . have x:l.length≠r.length:=λe=>a (by rw[e])
     simp[i7,x]at v;simp[v]at h;exact .done h
   have x:l.length=r.length:=by omega
   refine ab.loop l.length (λj s=>∃env,s=⟨env,σ,[],.no⟩/\env 0=rows r/\env 19=rows r/\env 20=int r.length/\env 21=int k/\env 30=ints l/\env 31=int l.length/\env 32=int j/\(l.take j).all (bx · 0 9)=true) ⟨_,rfl,by simp[b,p,q,n,x]⟩ ?_
   clear b p q n
   rintro c1 j _ L ⟨env,rfl,b,p,q,n,P,Q,G,y⟩ H
   refine rn ?_;simp[Q,G];refine aE.intro (λf=>?_) (λf=>?_)<;>(try simp[-Int.not_lt,-Int.not_le,-Nat.not_lt,-Nat.not_le]at f)<;>(try simp[n,P,G,f])
   . refine cf Tryz.func80 rfl (dZ ?_)
     refine rn ?_;simp;refine aE.intro (λw=>?_) (λw=>?_)<;>(try simp[-Int.not_lt,-Int.not_le,-Nat.not_lt,-Nat.not_le]at w)<;>(try simp[G,w])
     . refine⟨by omega,H _ f ⟨_,rfl,by simp[b],by simp[p],by simp[q],by simp[n],by simp[P],by simp[Q],by simp,?_⟩⟩
       rw[List.take_succ_eq_append_getElem f,List.all_append,y];simp[w]
     . have:l.all (bx · 0 9)=false:=by
        rw[List.all_eq_false];exact⟨_,List.getElem_mem f,by simp[w]⟩
       simp[i7,x,this]at v;simp[v]at h;exact .done h
   . have:j=l.length:=by omega
     subst this;rw[List.take_length]at y;have a7:i7 r.length l=0:=by unfold i7;rw[if_neg (by simp[x]),if_pos y]
     rw[if_pos a7]at v;exact⟨by omega,Y _ K ⟨_,rfl,by simp[b],by simp[p],by simp[q],by simp,v⟩⟩
 have:k=r.length:=by omega
 subst this;simp[fK]at v;rw[if_neg (by rw[v];simp)]at h
 clear Y;have o:∀(i:Nat) (E:i<r.length),r[i].length=r.length:=λi E=>(iv v _ (List.getElem_mem E)).1
 have R:∀(i:Nat) (E:i<r.length) (j:Nat) (L:j<r[i].length),0<=r[i][j]/\r[i][j]<=9:=λi E j L=>iU ((iv v _ (List.getElem_mem E)).2 _ (List.getElem_mem L))
 refine ab.loop r.length (λi s=>∃env,s=⟨env,σ,[],.no⟩/\env 0=rows r/\env 41=rows r/\env 42=int r.length/\env 43=int i/\∀Z<i,∀j<r.length,bW r Z j=false) ⟨_,rfl,by simp[b]⟩ ?_
 clear b p q n
 rintro c1 i _ E ⟨env,rfl,b,g,d,c,z⟩ Y
 refine rn ?_;simp[d,c];refine aE.intro (λa=>?_) (λa=>?_)<;>(try simp[-Int.not_lt,-Int.not_le,-Nat.not_lt,-Nat.not_le]at a)<;>(try simp[b,c,a])
 . refine ab.loop r.length (λj s=>∃env,s=⟨env,σ,[],.no⟩/\env 0=rows r/\env 41=rows r/\env 42=int r.length/\env 43=int i/\env 8=int i/\env 46=rows r/\env 47=int r.length/\env 48=int j/\∀F<j,bW r i F=false) ⟨_,rfl,by simp[b,g,d,c]⟩ ?_
   clear b g d c
   rintro c2 j _ L ⟨env,rfl,b,g,d,c,C,A,u,t,S⟩ H
   refine rn ?_;simp[u,t];refine aE.intro (λf=>?_) (λf=>?_)<;>(try simp[-Int.not_lt,-Int.not_le,-Nat.not_lt,-Nat.not_le]at f)<;>(try simp[b,c,C,t,f])
   . have q1 : i<r[i].length:=by rw[o i a];exact a
     have M:j<r[i].length:=by rw[o i a];exact f
     have q3:i<r[j].length:=by rw[o j f];exact a
     simp[C,a,q1];refine Jb.intro (λw=>?_) (λw=>?_)<;>(try simp[-Int.not_lt,-Int.not_le,-Nat.not_lt,-Nat.not_le]at w)<;>(try simp[b,C,w,a,f,M,q3])
     . refine rn ?_
       simp;refine aE.intro (λT=>?_) (λT=>?_)<;>(try simp[-Int.not_lt,-Int.not_le,-Nat.not_lt,-Nat.not_le]at T)<;>(try simp[b,T])
       ·
        have hb:bW r i j=true:=by unfold bW;rw[dE a M,dE f q3];simp[T]
        have:((List.range r.length).any λi=>(List.range r.length).any λj=>bW r i j)=true:=List.any_eq_true.2 ⟨i,List.mem_range.2 a,List.any_eq_true.2 ⟨j,List.mem_range.2 f,hb⟩⟩
        rw[if_pos this]at h;exact .done h
       . refine ab.loop r.length (λk s=>∃env,s=⟨env,σ,[],.no⟩/\env 0=rows r/\env 41=rows r/\env 42=int r.length/\env 43=int i/\env 8=int i/\env 46=rows r/\env 47=int r.length/\env 48=int j/\env 9=int j/\env 76=rows r/\env 77=int r.length/\env 78=int k/\∀U<k,¬rd r i j>rd r i U+rd r U j) ⟨_,rfl,by simp[b,g,d,c,C,A,u,t]⟩ ?_
         clear b g d c C A u t
         rintro c3 k _ hk ⟨env,rfl,b,g,d,c,C,A,u,t,h9,a8,V,I,W⟩ a9
         refine rn ?_;simp[V,I];refine aE.intro (λB=>?_) (λB=>?_)<;>(try simp[-Int.not_lt,-Int.not_le,-Nat.not_lt,-Nat.not_le]at B)<;>(try simp[b,C,t,I,B])
         . have p1:k<r[i].length:=by rw[o i a];exact B
           have p2:j<r[k].length:=by rw[o k B];exact f
           have b1:=R i a k p1;have b2:=R k B j p2;have f1:-9223372036854775808<=r[i][k]+r[k][j]:=by omega
           have f2:r[i][k]+r[k][j]<=9223372036854775807:=by omega
           simp[b,C,h9,a,B,M,p1,p2,f1,f2];refine rn ?_;simp;refine aE.intro (λD=>?_) (λD=>?_)<;>(try simp[-Int.not_lt,-Int.not_le,-Nat.not_lt,-Nat.not_le]at D)<;>(try simp[I,D])
           . have hb:bW r i j=true:=by
              unfold bW;have:((List.range r.length).any λk=>decide (rd r i j>rd r i k+rd r k j))=true:=List.any_eq_true.2 ⟨k,List.mem_range.2 B,by rw[dE a M,dE a p1,dE B p2];simpa using D⟩
              rw[this];simp
             have:((List.range r.length).any λi=>(List.range r.length).any λj=>bW r i j)=true:=List.any_eq_true.2 ⟨i,List.mem_range.2 a,List.any_eq_true.2 ⟨j,List.mem_range.2 f,hb⟩⟩
             rw[if_pos this]at h;exact .done h
           . refine⟨by omega,a9 _ B ⟨_,rfl,by simp[b],by simp[g],by simp[d],by simp[c],by simp[C],by simp[A],by simp[u],by simp[t],by simp[h9],by simp[a8],by simp[V],by simp,λU al=>?_⟩⟩
             by_cases e:U=k
             . subst e
               rw[dE a M,dE a p1,dE B p2];omega
             . exact W U (by omega)
         . have:k=r.length:=by omega
           subst this;refine⟨by omega,H _ f ⟨_,rfl,by simp[b],by simp[g],by simp[d],by simp[c],by simp[C],by simp[A],by simp[u],by simp,λF J=>?_⟩⟩
           by_cases e:F=j
           . subst e
             unfold bW
             have X:((List.range r.length).any λk=>decide (rd r i F>rd r i k+rd r k F))=false:=by rw[List.any_eq_false];intro k hk;simpa using W k (List.mem_range.1 hk)
             have N:rd r i i=0:=by rw[dE a q1];exact w
             have e3:rd r i F=rd r F i:=by rw[dE a M,dE f q3];exact T
             rw[X,N,e3];simp
           . exact S F (by omega)
     . have e:(r[i][i]!=0)=true:=by simp[w]
       simp[e];refine rn ?_;simp
       have hb:bW r i j=true:=by unfold bW;rw[dE a q1];simp[w]
       have:((List.range r.length).any λi=>(List.range r.length).any λj=>bW r i j)=true:=List.any_eq_true.2 ⟨i,List.mem_range.2 a,List.any_eq_true.2 ⟨j,List.mem_range.2 f,hb⟩⟩
       rw[if_pos this]at h;exact .done h
   . have:j=r.length:=by omega
     subst this;refine⟨by omega,Y _ a ⟨_,rfl,by simp[b],by simp[g],by simp[d],by simp,λZ av j J=>?_⟩⟩
     by_cases e:Z=i
     . subst e;exact S j J
     . exact z Z (by omega) j J
 . have:i=r.length:=by omega
   subst this
   have:((List.range r.length).any λi=>(List.range r.length).any λj=>bW r i j)=false:=by rw[List.any_eq_false];intro i E;rw[Bool.not_eq_true,List.any_eq_false];intro j L;rw[z i (List.mem_range.1 E) j (List.mem_range.1 L)];simp
   rw[this]at h;exact .done (by simpa using h)
end Go.Proofs.YtldmpfccgajobaaGreatDoor

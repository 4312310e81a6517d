/- Part 29 of the proof. -/
import Derived.Test.YtalogdafegmilaaGreatDoorProg
import Derived.Test.YtalogdafegmilaaGreatDoorC28
set_option linter.all false
namespace Go.Proofs.YtalogdafegmilaaGreatDoor
open Go.aN
set_option maxRecDepth 100000
def HZ:List (Nat × TI):=[
 (1,⟨.func,1,8,.nilFunc,[]⟩),
 (2,⟨.int .i64,1,8,(.int .i64 0),[]⟩),
 (3,⟨.int .i64,1,8,(.int .i64 0),[]⟩),
 (4,⟨.bool,1,1,(.bool false),[]⟩),
 (5,⟨.int .u8,1,1,(.int .u8 0),[]⟩),
 (6,⟨.int .u8,1,1,(.int .u8 0),[]⟩),
 (7,⟨.struct,4,24,(.agg #[(.int .i64 0),(.int .i64 0),(.bool false),(.int .u8 0)]),[(0,1,2),(1,1,3),(2,1,4),(3,1,6)]⟩),
 (8,⟨.struct,4,24,(.agg #[(.int .i64 0),(.int .i64 0),(.bool false),(.int .u8 0)]),[(0,1,2),(1,1,3),(2,1,4),(3,1,6)]⟩),
 (9,⟨.string,1,16,(.string ByteArray.empty),[]⟩),
 (10,⟨.string,1,16,(.string ByteArray.empty),[]⟩),
 (11,⟨.string,1,16,(.string ByteArray.empty),[]⟩),
 (12,⟨.int .u64,1,8,(.int .u64 0),[]⟩),
 (13,⟨.struct,2,24,(.agg #[(.string ByteArray.empty),(.int .u64 0)]),[(0,1,9),(1,1,12)]⟩),
 (14,⟨.struct,2,24,(.agg #[(.string ByteArray.empty),(.int .u64 0)]),[(0,1,9),(1,1,12)]⟩),
 (15,⟨.pointer 217,1,8,(.pointer none),[]⟩),
 (16,⟨.pointer 220,1,8,(.pointer none),[]⟩),
 (17,⟨.pointer 228,1,8,(.pointer none),[]⟩),
 (18,⟨.struct,1,8,(.agg #[(.pointer none)]),[(0,1,17)]⟩),
 (19,⟨.struct,1,8,(.agg #[(.pointer none)]),[(0,1,17)]⟩),
 (20,⟨.iface,1,16,.nilIface,[]⟩),
 (21,⟨.int .i32,1,4,(.int .i32 0),[]⟩),
 (22,⟨.slice 3,1,24,(.slice none 0 0),[]⟩),
 (23,⟨.pointer 73,1,8,(.pointer none),[]⟩),
 (24,⟨.func,1,8,.nilFunc,[]⟩),
 (25,⟨.slice 52,1,24,(.slice none 0 0),[]⟩),
 (26,⟨.slice 22,1,24,(.slice none 0 0),[]⟩),
 (27,⟨.struct,2,16,(.agg #[(.int .i64 0),(.int .i64 0)]),[(0,1,3),(1,1,3)]⟩),
 (28,⟨.struct,2,16,(.agg #[(.int .i64 0),(.int .i64 0)]),[(0,1,3),(1,1,3)]⟩),
 (29,⟨.struct,6,80,(.agg #[(.slice none 0 0),(.slice none 0 0),(.int .i64 0),(.int .i64 0),(.int .i64 0),(.int .i64 0)]),[(0,1,25),(1,1,26),(2,2,28),(4,1,3),(5,1,3)]⟩),
 (30,⟨.struct,6,80,(.agg #[(.slice none 0 0),(.slice none 0 0),(.int .i64 0),(.int .i64 0),(.int .i64 0),(.int .i64 0)]),[(0,1,25),(1,1,26),(2,2,28),(4,1,3),(5,1,3)]⟩),
 (31,⟨.func,1,8,.nilFunc,[]⟩),
 (32,⟨.func,1,8,.nilFunc,[]⟩),
 (33,⟨.func,1,8,.nilFunc,[]⟩),
 (34,⟨.func,1,8,.nilFunc,[]⟩),
 (35,⟨.int .i64,1,8,(.int .i64 0),[]⟩),
 (37,⟨.func,1,8,.nilFunc,[]⟩),
 (40,⟨.func,1,8,.nilFunc,[]⟩),
 (41,⟨.func,1,8,.nilFunc,[]⟩),
 (47,⟨.func,1,8,.nilFunc,[]⟩),
 (50,⟨.func,1,8,.nilFunc,[]⟩),
 (52,⟨.struct,6,64,(.agg #[(.int .i64 0),(.int .i64 0),(.int .i64 0),(.slice none 0 0),(.int .i64 0),(.int .i64 0)]),[(0,1,3),(1,1,3),(2,1,3),(3,1,22),(4,1,3),(5,1,3)]⟩),
 (68,⟨.func,1,8,.nilFunc,[]⟩),
 (71,⟨.int .u64,1,8,(.int .u64 0),[]⟩),
 (72,⟨.struct,3,40,(.agg #[(.slice none 0 0),(.int .i64 0),(.int .u64 0)]),[(0,1,22),(1,1,3),(2,1,71)]⟩),
 (73,⟨.struct,3,40,(.agg #[(.slice none 0 0),(.int .i64 0),(.int .u64 0)]),[(0,1,22),(1,1,3),(2,1,71)]⟩),
 (78,⟨.pointer 123,1,8,(.pointer none),[]⟩),
 (80,⟨.func,1,8,.nilFunc,[]⟩),
 (83,⟨.func,1,8,.nilFunc,[]⟩),
 (86,⟨.func,1,8,.nilFunc,[]⟩),
 (87,⟨.func,1,8,.nilFunc,[]⟩),
 (88,⟨.struct,3,40,(.agg #[(.slice none 0 0),(.int .i64 0),(.bool false)]),[(0,1,22),(1,1,3),(2,1,4)]⟩),
 (89,⟨.struct,3,40,(.agg #[(.slice none 0 0),(.int .i64 0),(.bool false)]),[(0,1,22),(1,1,3),(2,1,4)]⟩),
 (91,⟨.func,1,8,.nilFunc,[]⟩),
 (92,⟨.func,1,8,.nilFunc,[]⟩),
 (95,⟨.func,1,8,.nilFunc,[]⟩),
 (98,⟨.iface,1,16,.nilIface,[]⟩),
 (99,⟨.func,1,8,.nilFunc,[]⟩),
 (101,⟨.func,1,8,.nilFunc,[]⟩),
 (103,⟨.struct,2,16,(.agg #[(.int .i64 0),(.int .i64 0)]),[(0,1,3),(1,1,3)]⟩),
 (105,⟨.struct,4,32,(.agg #[(.int .i64 0),(.int .i64 0),(.int .i64 0),(.bool false)]),[(0,2,103),(2,1,3),(3,1,4)]⟩),
 (110,⟨.func,1,8,.nilFunc,[]⟩),
 (112,⟨.int .u64,1,8,(.int .u64 0),[]⟩),
 (114,⟨.struct,0,0,(.agg #[]),[]⟩),
 (115,⟨.struct,0,0,(.agg #[]),[]⟩),
 (116,⟨.int .u32,1,4,(.int .u32 0),[]⟩),
 (118,⟨.struct,2,8,(.agg #[(.int .i32 0),(.int .u32 0)]),[(0,1,21),(1,1,116)]⟩),
 (120,⟨.struct,2,8,(.agg #[(.int .i32 0),(.int .u32 0)]),[(0,0,115),(0,2,118)]⟩),
 (121,⟨.map 136 4,1,8,(.map none),[]⟩),
 (123,⟨.struct,9,96,(.agg #[(.slice none 0 0),(.slice none 0 0),(.int .i64 0),(.int .i64 0),(.int .i64 0),(.int .i64 0),(.int .i32 0),(.int .u32 0),(.map none)]),[(0,6,30),(6,2,120),(8,1,121)]⟩),
 (124,⟨.chan 3,1,8,(.chan none),[]⟩),
 (125,⟨.struct,0,0,(.agg #[]),[]⟩),
 (126,⟨.struct,0,0,(.agg #[]),[]⟩),
 (128,⟨.struct,1,8,(.agg #[(.int .u64 0)]),[(0,0,125),(0,0,126),(0,1,71)]⟩),
 (130,⟨.struct,2,16,(.agg #[(.int .u64 0),(.int .u32 0)]),[(0,0,115),(0,1,128),(1,1,116)]⟩),
 (133,⟨.func,1,8,.nilFunc,[]⟩),
 (136,⟨.struct,1,1,(.agg #[(.int .u8 0)]),[(0,1,5)]⟩),
 (137,⟨.array 6 136,6,6,(.agg #[(.int .u8 0),(.int .u8 0),(.int .u8 0),(.int .u8 0),(.int .u8 0),(.int .u8 0)]),[]⟩),
 (140,⟨.pointer 89,1,8,(.pointer none),[]⟩),
 (142,⟨.struct,1,8,(.agg #[(.int .i64 0)]),[(0,1,35)]⟩),
 (145,⟨.iface,1,16,.nilIface,[]⟩),
 (147,⟨.pointer 142,1,8,(.pointer none),[]⟩),
 (149,⟨.struct,1,8,(.agg #[.nilFunc]),[(0,1,34)]⟩),
 (150,⟨.struct,0,0,(.agg #[]),[]⟩),
 (151,⟨.struct,0,0,(.agg #[]),[]⟩),
 (152,⟨.struct,0,0,(.agg #[]),[]⟩),
 (153,⟨.slice 98,1,24,(.slice none 0 0),[]⟩),
 (155,⟨.pointer 105,1,8,(.pointer none),[]⟩),
 (156,⟨.pointer 130,1,8,(.pointer none),[]⟩),
 (159,⟨.int .i64,1,8,(.int .i64 0),[]⟩),
 (163,⟨.pointer 116,1,8,(.pointer none),[]⟩),
 (173,⟨.int .u64,1,8,(.int .u64 0),[]⟩),
 (175,⟨.struct,3,24,(.agg #[(.pointer none),(.pointer none),(.int .u64 0)]),[(0,1,17),(1,1,158),(2,1,173)]⟩),
 (177,⟨.iface,1,16,.nilIface,[]⟩),
 (178,⟨.iface,1,16,.nilIface,[]⟩),
 (180,⟨.int .u8,1,1,(.int .u8 0),[]⟩),
 (191,⟨.pointer 120,1,8,(.pointer none),[]⟩),
 (193,⟨.struct,1,8,(.agg #[(.pointer none)]),[(0,1,17)]⟩),
 (217,⟨.struct,4,40,(.agg #[(.pointer none),(.pointer none),(.pointer none),(.string ByteArray.empty)]),[(0,1,17),(1,1,17),(2,1,17),(3,1,9)]⟩),
 (218,⟨.array 0 16,0,0,(.agg #[]),[]⟩),
 (220,⟨.struct,0,0,(.agg #[]),[(0,0,218)]⟩),
 (222,⟨.int .u8,1,1,(.int .u8 0),[]⟩),
 (223,⟨.func,1,8,.nilFunc,[]⟩),
 (224,⟨.pointer 5,1,8,(.pointer none),[]⟩),
 (225,⟨.int .i32,1,4,(.int .i32 0),[]⟩),
 (226,⟨.int .i32,1,4,(.int .i32 0),[]⟩),
 (228,⟨.struct,11,48,(.agg #[(.int .u64 0),(.int .u64 0),(.int .u32 0),(.int .u8 0),(.int .u8 0),(.int .u8 0),(.int .u8 0),.nilFunc,(.pointer none),(.int .i32 0),(.int .i32 0)]),[(0,1,12),(1,1,12),(2,1,116),(3,1,222),(4,1,5),(5,1,5),(6,1,180),(7,1,223),(8,1,224),(9,1,225),(10,1,226)]⟩),
 (229,⟨.int .u8,1,1,(.int .u8 0),[]⟩)]
theorem Fd:(HZ.all λx=>x.2.check Tryz.prog x.1)=true:=by kernel_rfl
def zc(t:Nat):Option TI:=(HZ.find? λx=>x.1==t).map (·.2)
theorem CQ(t:Nat)(i:TI)(h:zc t=some i):i.check Tryz.prog t=true:=by unfold zc at h;obtain⟨x,hx,rfl⟩:=Option.map_eq_some_iff.1 h;have h1:=List.find?_some hx;have h2:=List.all_eq_true.1 Fd x (List.mem_of_find?_eq_some hx);rw[beq_iff_eq.1 h1]at h2;exact h2
def lay:iE Tryz.prog:=⟨zc,CQ,by kernel_rfl⟩
@[simp] theorem SX:lay.tt 1=some ⟨.func,1,8,.nilFunc,[]⟩:=rfl
@[simp] theorem SY:lay.tt 2=some ⟨.int .i64,1,8,(.int .i64 0),[]⟩:=rfl
@[simp] theorem pQ:lay.tt 3=some ⟨.int .i64,1,8,(.int .i64 0),[]⟩:=rfl
@[simp] theorem R6:lay.tt 4=some ⟨.bool,1,1,(.bool false),[]⟩:=rfl
@[simp] theorem Q8:lay.tt 5=some ⟨.int .u8,1,1,(.int .u8 0),[]⟩:=rfl
@[simp] theorem SZ:lay.tt 6=some ⟨.int .u8,1,1,(.int .u8 0),[]⟩:=rfl
@[simp] theorem S3:lay.tt 7=some ⟨.struct,4,24,(.agg #[(.int .i64 0),(.int .i64 0),(.bool false),(.int .u8 0)]),[(0,1,2),(1,1,3),(2,1,4),(3,1,6)]⟩:=rfl
@[simp] theorem S4:lay.tt 8=some ⟨.struct,4,24,(.agg #[(.int .i64 0),(.int .i64 0),(.bool false),(.int .u8 0)]),[(0,1,2),(1,1,3),(2,1,4),(3,1,6)]⟩:=rfl
@[simp] theorem S5:lay.tt 9=some ⟨.string,1,16,(.string ByteArray.empty),[]⟩:=rfl
@[simp] theorem R7:lay.tt 10=some ⟨.string,1,16,(.string ByteArray.empty),[]⟩:=rfl
@[simp] theorem R8:lay.tt 11=some ⟨.string,1,16,(.string ByteArray.empty),[]⟩:=rfl
@[simp] theorem R9:lay.tt 12=some ⟨.int .u64,1,8,(.int .u64 0),[]⟩:=rfl
@[simp] theorem Sa:lay.tt 13=some ⟨.struct,2,24,(.agg #[(.string ByteArray.empty),(.int .u64 0)]),[(0,1,9),(1,1,12)]⟩:=rfl
@[simp] theorem Sb:lay.tt 14=some ⟨.struct,2,24,(.agg #[(.string ByteArray.empty),(.int .u64 0)]),[(0,1,9),(1,1,12)]⟩:=rfl
@[simp] theorem Sc:lay.tt 15=some ⟨.pointer 217,1,8,(.pointer none),[]⟩:=rfl
@[simp] theorem Sd:lay.tt 16=some ⟨.pointer 220,1,8,(.pointer none),[]⟩:=rfl
@[simp] theorem Se:lay.tt 17=some ⟨.pointer 228,1,8,(.pointer none),[]⟩:=rfl
@[simp] theorem Sf:lay.tt 18=some ⟨.struct,1,8,(.agg #[(.pointer none)]),[(0,1,17)]⟩:=rfl
@[simp] theorem Sg:lay.tt 19=some ⟨.struct,1,8,(.agg #[(.pointer none)]),[(0,1,17)]⟩:=rfl
@[simp] theorem Si:lay.tt 20=some ⟨.iface,1,16,.nilIface,[]⟩:=rfl
@[simp] theorem Sj:lay.tt 21=some ⟨.int .i32,1,4,(.int .i32 0),[]⟩:=rfl
@[simp] theorem cA:lay.tt 22=some ⟨.slice 3,1,24,(.slice none 0 0),[]⟩:=rfl
@[simp] theorem Sk:lay.tt 23=some ⟨.pointer 73,1,8,(.pointer none),[]⟩:=rfl
@[simp] theorem Sl:lay.tt 24=some ⟨.func,1,8,.nilFunc,[]⟩:=rfl
@[simp] theorem sB:lay.tt 25=some ⟨.slice 52,1,24,(.slice none 0 0),[]⟩:=rfl
@[simp] theorem jC:lay.tt 26=some ⟨.slice 22,1,24,(.slice none 0 0),[]⟩:=rfl
@[simp] theorem Sm:lay.tt 27=some ⟨.struct,2,16,(.agg #[(.int .i64 0),(.int .i64 0)]),[(0,1,3),(1,1,3)]⟩:=rfl
@[simp] theorem Sn:lay.tt 28=some ⟨.struct,2,16,(.agg #[(.int .i64 0),(.int .i64 0)]),[(0,1,3),(1,1,3)]⟩:=rfl
@[simp] theorem So:lay.tt 29=some ⟨.struct,6,80,(.agg #[(.slice none 0 0),(.slice none 0 0),(.int .i64 0),(.int .i64 0),(.int .i64 0),(.int .i64 0)]),[(0,1,25),(1,1,26),(2,2,28),(4,1,3),(5,1,3)]⟩:=rfl
@[simp] theorem Sp:lay.tt 30=some ⟨.struct,6,80,(.agg #[(.slice none 0 0),(.slice none 0 0),(.int .i64 0),(.int .i64 0),(.int .i64 0),(.int .i64 0)]),[(0,1,25),(1,1,26),(2,2,28),(4,1,3),(5,1,3)]⟩:=rfl
@[simp] theorem Sq:lay.tt 31=some ⟨.func,1,8,.nilFunc,[]⟩:=rfl
@[simp] theorem Sr:lay.tt 32=some ⟨.func,1,8,.nilFunc,[]⟩:=rfl
@[simp] theorem Ss:lay.tt 33=some ⟨.func,1,8,.nilFunc,[]⟩:=rfl
@[simp] theorem Su:lay.tt 34=some ⟨.func,1,8,.nilFunc,[]⟩:=rfl
@[simp] theorem Sv:lay.tt 35=some ⟨.int .i64,1,8,(.int .i64 0),[]⟩:=rfl
@[simp] theorem Sw:lay.tt 37=some ⟨.func,1,8,.nilFunc,[]⟩:=rfl
@[simp] theorem Sx:lay.tt 40=some ⟨.func,1,8,.nilFunc,[]⟩:=rfl
@[simp] theorem Sz:lay.tt 41=some ⟨.func,1,8,.nilFunc,[]⟩:=rfl
@[simp] theorem SA:lay.tt 47=some ⟨.func,1,8,.nilFunc,[]⟩:=rfl
@[simp] theorem SB:lay.tt 50=some ⟨.func,1,8,.nilFunc,[]⟩:=rfl
@[simp] theorem CR:lay.tt 52=some ⟨.struct,6,64,(.agg #[(.int .i64 0),(.int .i64 0),(.int .i64 0),(.slice none 0 0),(.int .i64 0),(.int .i64 0)]),[(0,1,3),(1,1,3),(2,1,3),(3,1,22),(4,1,3),(5,1,3)]⟩:=rfl
@[simp] theorem SC:lay.tt 68=some ⟨.func,1,8,.nilFunc,[]⟩:=rfl
@[simp] theorem SD:lay.tt 71=some ⟨.int .u64,1,8,(.int .u64 0),[]⟩:=rfl
@[simp] theorem SE:lay.tt 72=some ⟨.struct,3,40,(.agg #[(.slice none 0 0),(.int .i64 0),(.int .u64 0)]),[(0,1,22),(1,1,3),(2,1,71)]⟩:=rfl
@[simp] theorem SF:lay.tt 73=some ⟨.struct,3,40,(.agg #[(.slice none 0 0),(.int .i64 0),(.int .u64 0)]),[(0,1,22),(1,1,3),(2,1,71)]⟩:=rfl
@[simp] theorem SG:lay.tt 78=some ⟨.pointer 123,1,8,(.pointer none),[]⟩:=rfl
@[simp] theorem SH:lay.tt 80=some ⟨.func,1,8,.nilFunc,[]⟩:=rfl
@[simp] theorem SI:lay.tt 83=some ⟨.func,1,8,.nilFunc,[]⟩:=rfl
@[simp] theorem SJ:lay.tt 86=some ⟨.func,1,8,.nilFunc,[]⟩:=rfl
@[simp] theorem SK:lay.tt 87=some ⟨.func,1,8,.nilFunc,[]⟩:=rfl
@[simp] theorem SL:lay.tt 88=some ⟨.struct,3,40,(.agg #[(.slice none 0 0),(.int .i64 0),(.bool false)]),[(0,1,22),(1,1,3),(2,1,4)]⟩:=rfl
@[simp] theorem SM:lay.tt 89=some ⟨.struct,3,40,(.agg #[(.slice none 0 0),(.int .i64 0),(.bool false)]),[(0,1,22),(1,1,3),(2,1,4)]⟩:=rfl
@[simp] theorem SN:lay.tt 91=some ⟨.func,1,8,.nilFunc,[]⟩:=rfl
@[simp] theorem SO:lay.tt 92=some ⟨.func,1,8,.nilFunc,[]⟩:=rfl
@[simp] theorem SP:lay.tt 95=some ⟨.func,1,8,.nilFunc,[]⟩:=rfl
@[simp] theorem OA:lay.tt 98=some ⟨.iface,1,16,.nilIface,[]⟩:=rfl
@[simp] theorem SS:lay.tt 99=some ⟨.func,1,8,.nilFunc,[]⟩:=rfl
@[simp] theorem Q9:lay.tt 101=some ⟨.func,1,8,.nilFunc,[]⟩:=rfl
@[simp] theorem Q':lay.tt 103=some ⟨.struct,2,16,(.agg #[(.int .i64 0),(.int .i64 0)]),[(0,1,3),(1,1,3)]⟩:=rfl
@[simp] theorem Ra:lay.tt 105=some ⟨.struct,4,32,(.agg #[(.int .i64 0),(.int .i64 0),(.int .i64 0),(.bool false)]),[(0,2,103),(2,1,3),(3,1,4)]⟩:=rfl
@[simp] theorem Rb:lay.tt 110=some ⟨.func,1,8,.nilFunc,[]⟩:=rfl
@[simp] theorem Rc:lay.tt 112=some ⟨.int .u64,1,8,(.int .u64 0),[]⟩:=rfl
@[simp] theorem Rd:lay.tt 114=some ⟨.struct,0,0,(.agg #[]),[]⟩:=rfl
@[simp] theorem Re:lay.tt 115=some ⟨.struct,0,0,(.agg #[]),[]⟩:=rfl
@[simp] theorem Rf:lay.tt 116=some ⟨.int .u32,1,4,(.int .u32 0),[]⟩:=rfl
@[simp] theorem Rg:lay.tt 118=some ⟨.struct,2,8,(.agg #[(.int .i32 0),(.int .u32 0)]),[(0,1,21),(1,1,116)]⟩:=rfl
@[simp] theorem Rh:lay.tt 120=some ⟨.struct,2,8,(.agg #[(.int .i32 0),(.int .u32 0)]),[(0,0,115),(0,2,118)]⟩:=rfl
@[simp] theorem Rk:lay.tt 121=some ⟨.map 136 4,1,8,(.map none),[]⟩:=rfl
@[simp] theorem Rl:lay.tt 123=some ⟨.struct,9,96,(.agg #[(.slice none 0 0),(.slice none 0 0),(.int .i64 0),(.int .i64 0),(.int .i64 0),(.int .i64 0),(.int .i32 0),(.int .u32 0),(.map none)]),[(0,6,30),(6,2,120),(8,1,121)]⟩:=rfl
@[simp] theorem Ea:lay.tt 124=some ⟨.chan 3,1,8,(.chan none),[]⟩:=rfl
@[simp] theorem Rm:lay.tt 125=some ⟨.struct,0,0,(.agg #[]),[]⟩:=rfl
@[simp] theorem Rn:lay.tt 126=some ⟨.struct,0,0,(.agg #[]),[]⟩:=rfl
@[simp] theorem Ro:lay.tt 128=some ⟨.struct,1,8,(.agg #[(.int .u64 0)]),[(0,0,125),(0,0,126),(0,1,71)]⟩:=rfl
@[simp] theorem Rq:lay.tt 130=some ⟨.struct,2,16,(.agg #[(.int .u64 0),(.int .u32 0)]),[(0,0,115),(0,1,128),(1,1,116)]⟩:=rfl
@[simp] theorem Rr:lay.tt 133=some ⟨.func,1,8,.nilFunc,[]⟩:=rfl
@[simp] theorem Rs:lay.tt 136=some ⟨.struct,1,1,(.agg #[(.int .u8 0)]),[(0,1,5)]⟩:=rfl
@[simp] theorem Rt:lay.tt 137=some ⟨.array 6 136,6,6,(.agg #[(.int .u8 0),(.int .u8 0),(.int .u8 0),(.int .u8 0),(.int .u8 0),(.int .u8 0)]),[]⟩:=rfl
@[simp] theorem Ru:lay.tt 140=some ⟨.pointer 89,1,8,(.pointer none),[]⟩:=rfl
@[simp] theorem Rv:lay.tt 142=some ⟨.struct,1,8,(.agg #[(.int .i64 0)]),[(0,1,35)]⟩:=rfl
@[simp] theorem OB:lay.tt 145=some ⟨.iface,1,16,.nilIface,[]⟩:=rfl
@[simp] theorem Rw:lay.tt 147=some ⟨.pointer 142,1,8,(.pointer none),[]⟩:=rfl
@[simp] theorem Rx:lay.tt 149=some ⟨.struct,1,8,(.agg #[.nilFunc]),[(0,1,34)]⟩:=rfl
@[simp] theorem OC:lay.tt 150=some ⟨.struct,0,0,(.agg #[]),[]⟩:=rfl
@[simp] theorem OD:lay.tt 151=some ⟨.struct,0,0,(.agg #[]),[]⟩:=rfl
@[simp] theorem OE:lay.tt 152=some ⟨.struct,0,0,(.agg #[]),[]⟩:=rfl
@[simp] theorem Ry:lay.tt 153=some ⟨.slice 98,1,24,(.slice none 0 0),[]⟩:=rfl
@[simp] theorem Rz:lay.tt 155=some ⟨.pointer 105,1,8,(.pointer none),[]⟩:=rfl
@[simp] theorem RA:lay.tt 156=some ⟨.pointer 130,1,8,(.pointer none),[]⟩:=rfl
@[simp] theorem RB:lay.tt 159=some ⟨.int .i64,1,8,(.int .i64 0),[]⟩:=rfl
@[simp] theorem RC:lay.tt 163=some ⟨.pointer 116,1,8,(.pointer none),[]⟩:=rfl
@[simp] theorem RD:lay.tt 173=some ⟨.int .u64,1,8,(.int .u64 0),[]⟩:=rfl
@[simp] theorem RE:lay.tt 175=some ⟨.struct,3,24,(.agg #[(.pointer none),(.pointer none),(.int .u64 0)]),[(0,1,17),(1,1,158),(2,1,173)]⟩:=rfl
@[simp] theorem RF:lay.tt 177=some ⟨.iface,1,16,.nilIface,[]⟩:=rfl
@[simp] theorem RG:lay.tt 178=some ⟨.iface,1,16,.nilIface,[]⟩:=rfl
@[simp] theorem RH:lay.tt 180=some ⟨.int .u8,1,1,(.int .u8 0),[]⟩:=rfl
@[simp] theorem RI:lay.tt 191=some ⟨.pointer 120,1,8,(.pointer none),[]⟩:=rfl
@[simp] theorem RJ:lay.tt 193=some ⟨.struct,1,8,(.agg #[(.pointer none)]),[(0,1,17)]⟩:=rfl
@[simp] theorem RK:lay.tt 217=some ⟨.struct,4,40,(.agg #[(.pointer none),(.pointer none),(.pointer none),(.string ByteArray.empty)]),[(0,1,17),(1,1,17),(2,1,17),(3,1,9)]⟩:=rfl
@[simp] theorem RL:lay.tt 218=some ⟨.array 0 16,0,0,(.agg #[]),[]⟩:=rfl
@[simp] theorem RM:lay.tt 220=some ⟨.struct,0,0,(.agg #[]),[(0,0,218)]⟩:=rfl
@[simp] theorem RN:lay.tt 222=some ⟨.int .u8,1,1,(.int .u8 0),[]⟩:=rfl
@[simp] theorem RO:lay.tt 223=some ⟨.func,1,8,.nilFunc,[]⟩:=rfl
@[simp] theorem RP:lay.tt 224=some ⟨.pointer 5,1,8,(.pointer none),[]⟩:=rfl
@[simp] theorem RQ:lay.tt 225=some ⟨.int .i32,1,4,(.int .i32 0),[]⟩:=rfl
@[simp] theorem RR:lay.tt 226=some ⟨.int .i32,1,4,(.int .i32 0),[]⟩:=rfl
@[simp] theorem RS:lay.tt 228=some ⟨.struct,11,48,(.agg #[(.int .u64 0),(.int .u64 0),(.int .u32 0),(.int .u8 0),(.int .u8 0),(.int .u8 0),(.int .u8 0),.nilFunc,(.pointer none),(.int .i32 0),(.int .i32 0)]),[(0,1,12),(1,1,12),(2,1,116),(3,1,222),(4,1,5),(5,1,5),(6,1,180),(7,1,223),(8,1,224),(9,1,225),(10,1,226)]⟩:=rfl
@[simp] theorem RT:lay.tt 229=some ⟨.int .u8,1,1,(.int .u8 0),[]⟩:=rfl
end Go.Proofs.YtalogdafegmilaaGreatDoor
namespace Go.Proofs.YtalogdafegmilaaGreatDoor
open Go.aN
abbrev P8:List Entry:=[⟨7,.take [0,2,6] false (.both 1 (.one 3 (.one 4 (.one 5 (.one 7 (.done))))) (.one 3 (.both 1 (.one 4 (.one 5 (.one 7 (.done)))) (.one 4 (.take [1] true (.one 5 (.one 7 (.done))))))))⟩,⟨15,.take [0,2,5,6,8,11,12,13] false (.both 1 (.take [3,4,14] false (.one 7 (.take [9,10,16] false (.one 15 (.one 17 (.done)))))) (.one 7 (.take [9,10,16] false (.take [1,3,4,14] true (.one 15 (.one 17 (.done)))))))⟩,⟨21,.take [0,2,3,7] false (.both 1 (.one 4 (.one 5 (.one 6 (.one 8 (.done))))) (.one 4 (.both 1 (.one 5 (.one 6 (.one 8 (.done)))) (.one 5 (.take [1] true (.one 6 (.one 8 (.done))))))))⟩]
abbrev OF:List Entry:=[⟨8,.take [0,1,2,3,4,5,6] true (.done)⟩]
abbrev P9:List Entry:=[⟨4,.take [0,1,2,3,4,5,6,7,8] true (.done)⟩]
abbrev Qa:List Entry:=[⟨19,.take [0,2,3,4,6,7,11] false (.both 1 (.both 5 (.one 8 (.one 9 (.take [10] true (.one 12 (.done))))) (.one 8 (.one 5 (.one 9 (.take [10] true (.one 12 (.done))))))) (.both 5 (.both 1 (.one 8 (.one 9 (.take [10] true (.one 12 (.done))))) (.one 8 (.both 1 (.one 9 (.take [10] true (.one 12 (.done)))) (.one 9 (.take [1,10] true (.one 12 (.done))))))) (.one 8 (.both 1 (.one 5 (.one 9 (.take [10] true (.one 12 (.done))))) (.one 5 (.both 1 (.one 9 (.take [10] true (.one 12 (.done)))) (.one 9 (.take [1,10] true (.one 12 (.done))))))))))⟩]
abbrev Qb:List Entry:=[⟨3,.take [0,1,2,3,4,5,6,7,8,9] true (.done)⟩,⟨4,.take [0,1,2,3,4,5,6,7,8,9,10,11,12,13,14] true (.take [15] true (.done))⟩,⟨6,.take [0,1,2,3,5,6,7,11,12] false (.take [4,8,9,10] true (.one 13 (.done)))⟩]
abbrev Qc:List Entry:=[⟨6,.take [0,1,2,3] true (.done)⟩]
abbrev OG:List Entry:=[⟨7,.take [0,1,2,3] true (.done)⟩]
abbrev Qd:List Entry:=[⟨24,.take [0,1,2,3,4,5,6,7,8,9,10,11,12,13,14,15,16,17,18,19,20,21,22,23,24] true (.done)⟩,⟨29,.take [0,1,2,3,4,5,6,7,8,9,10,11,12,13,14,15,16,17,18,19,20,21,22] true (.done)⟩]
abbrev Qe:List Entry:=[⟨8,.take [0,1,2,3,4,5,6,7,8,9,10,11,12,13,14] true (.done)⟩,⟨11,.take [0,1,3,4,5,6,7,8,10] false (.one 2 (.take [9,11] false (.one 12 (.one 13 (.take [14] true (.done))))))⟩,⟨17,.take [0,1,2,3] false (.one 4 (.one 5 (.take [6] true (.done))))⟩]
abbrev Qf:List Entry:=[⟨4,.take [0,2,4] false (.take [1] true (.one 3 (.one 5 (.done))))⟩,⟨5,.take [0,1,2] false (.one 3 (.one 4 (.take [5,6,8,9,10,12,15,16,17] false (.both 7 (.both 11 (.both 13 (.both 14 (.one 18 (.one 19 (.take [20,21] true (.done)))) (.one 18 (.one 14 (.one 19 (.take [20,21] true (.done)))))) (.one 18 (.one 13 (.one 14 (.one 19 (.take [20,21] true (.done))))))) (.both 13 (.both 11 (.both 14 (.one 18 (.one 19 (.take [20,21] true (.done)))) (.one 18 (.one 14 (.one 19 (.take [20,21] true (.done)))))) (.one 18 (.one 11 (.one 14 (.one 19 (.take [20,21] true (.done))))))) (.one 18 (.both 11 (.one 13 (.one 14 (.one 19 (.take [20,21] true (.done))))) (.one 13 (.one 11 (.one 14 (.one 19 (.take [20,21] true (.done)))))))))) (.both 11 (.both 7 (.both 13 (.both 14 (.one 18 (.one 19 (.take [20,21] true (.done)))) (.one 18 (.one 14 (.one 19 (.take [20,21] true (.done)))))) (.one 18 (.one 13 (.one 14 (.one 19 (.take [20,21] true (.done))))))) (.both 13 (.both 7 (.both 14 (.one 18 (.one 19 (.take [20,21] true (.done)))) (.one 18 (.one 14 (.one 19 (.take [20,21] true (.done)))))) (.both 14 (.both 7 (.one 18 (.one 19 (.take [20,21] true (.done)))) (.one 18 (.one 7 (.one 19 (.take [20,21] true (.done)))))) (.one 18 (.both 7 (.one 14 (.one 19 (.take [20,21] true (.done)))) (.one 14 (.one 7 (.one 19 (.take [20,21] true (.done))))))))) (.one 18 (.both 7 (.one 13 (.one 14 (.one 19 (.take [20,21] true (.done))))) (.one 13 (.both 7 (.one 14 (.one 19 (.take [20,21] true (.done)))) (.one 14 (.one 7 (.one 19 (.take [20,21] true (.done))))))))))) (.both 13 (.both 7 (.both 11 (.both 14 (.one 18 (.one 19 (.take [20,21] true (.done)))) (.one 18 (.one 14 (.one 19 (.take [20,21] true (.done)))))) (.one 18 (.one 11 (.one 14 (.one 19 (.take [20,21] true (.done))))))) (.both 11 (.both 7 (.both 14 (.one 18 (.one 19 (.take [20,21] true (.done)))) (.one 18 (.one 14 (.one 19 (.take [20,21] true (.done)))))) (.both 14 (.both 7 (.one 18 (.one 19 (.take [20,21] true (.done)))) (.one 18 (.one 7 (.one 19 (.take [20,21] true (.done)))))) (.one 18 (.both 7 (.one 14 (.one 19 (.take [20,21] true (.done)))) (.one 14 (.one 7 (.one 19 (.take [20,21] true (.done))))))))) (.one 18 (.both 7 (.one 11 (.one 14 (.one 19 (.take [20,21] true (.done))))) (.one 11 (.both 7 (.one 14 (.one 19 (.take [20,21] true (.done)))) (.one 14 (.one 7 (.one 19 (.take [20,21] true (.done))))))))))) (.one 18 (.both 7 (.both 11 (.one 13 (.one 14 (.one 19 (.take [20,21] true (.done))))) (.one 13 (.one 11 (.one 14 (.one 19 (.take [20,21] true (.done))))))) (.both 11 (.both 7 (.one 13 (.one 14 (.one 19 (.take [20,21] true (.done))))) (.one 13 (.both 7 (.one 14 (.one 19 (.take [20,21] true (.done)))) (.one 14 (.one 7 (.one 19 (.take [20,21] true (.done)))))))) (.one 13 (.both 7 (.one 11 (.one 14 (.one 19 (.take [20,21] true (.done))))) (.one 11 (.both 7 (.one 14 (.one 19 (.take [20,21] true (.done)))) (.one 14 (.one 7 (.one 19 (.take [20,21] true (.done))))))))))))))))))⟩]
abbrev Qg:List Entry:=[⟨1,.take [0,1,2,3,4,5] true (.one 6 (.done))⟩]
abbrev Qh:List Entry:=[⟨3,.take [0,1,2,3] false (.one 4 (.one 5 (.take [6,7,8,9,10] true (.done))))⟩,⟨6,.take [0,1,2,3,4,5] true (.one 6 (.done))⟩]
abbrev Qi:List Entry:=[⟨1,.take [0,1,2,3,4,5,6,7,8,9] true (.done)⟩]
abbrev Qj:List Entry:=[⟨1,.take [0,1,2,3,4,5,6,7,8,9,10,11,12,13,14,15,16,17] false (.one 18 (.take [19] true (.done)))⟩]
abbrev OH:List Entry:=[⟨4,.take [0,1,2,3,4,5,6,7,9,10,11,12] false (.both 8 (.one 13 (.one 14 (.take [15,16] true (.done)))) (.one 13 (.one 8 (.one 14 (.take [15,16] true (.done))))))⟩,⟨6,.take [0,1,2,3,4,5,6,7,8,10,11,12,14,16] false (.take [9,13] true (.one 15 (.one 17 (.done))))⟩]
abbrev OI:List Entry:=[⟨4,.take [0,1,2,3,4,5,6,7,8,9,10,11,12,13,14,15,16,17,18,19,20] true (.done)⟩]
abbrev OJ:List Entry:=[⟨4,.take [0,1,2,3,4,5,6,7,8,9,10,11,12,13,14,15,16,17,18,19,20,21,22] false (.both 23 (.one 24 (.one 25 (.one 26 (.done)))) (.one 24 (.one 23 (.one 25 (.one 26 (.done))))))⟩,⟨5,.take [0,1,2,3,4,5,6,7,8,9,10,11,12,13,14,15,16,17,18,19,20,21,22,23,24,26,27] false (.one 25 (.one 28 (.one 29 (.take [30,31,32] true (.done)))))⟩]
attribute [simp] JE
abbrev int(n:Int):AV:=.lit (.int .i64 n)
abbrev u8(n:Int):AV:=.lit (.int .u8 n)
abbrev bool(b:Bool):AV:=.lit (.bool b)
abbrev ints(l:List Int):AV:=.sl 1 (l.map int) .any
abbrev rows(l:List (List Int)):AV:=.sl 1 (l.map ints) .any
structure lP where
 hour:Int
 place:Int
 cS:Int
 marks:List Int
 aX:Int
 iS:Int
 deriving DecidableEq
structure Fr where
 az:List lP
 roads:List (List Int)
 bM:Int
 jn:Int
 dR:Int
 most:Int
 deriving DecidableEq
abbrev dt(e:lP):AV:=.agg [int e.hour,int e.place,int e.cS,ints e.marks,int e.aX,int e.iS]
abbrev ru(l:List lP):AV:=.sl 6 (l.map dt) .any
abbrev eP(f:Fr):List AV:=[ru f.az,rows f.roads,int f.bM,int f.jn,int f.dR,int f.most]
abbrev aF(f:Fr):AV:=.agg (eP f)
abbrev iF(b mb:Nat)(f:Fr)(o:Nat):AV:=.kp b [ru f.az,rows f.roads,int f.bM,int f.jn,int f.dR,int f.most,.lit (.int .i32 0),.lit (.int .u32 0),.map mb] [6,7] o
def dv(a lo hi:Int):Bool:=decide (lo<=a) && decide (a<=hi)
def lw:Option Int->Int->Bool
 |some q,h=>decide (h<=q)
 |none,_=>false
def rv:Option Int->List Int->Int
 |_,[]=>0
 |p,h::l=>if dv h 0 4=false then 3 else if lw p h=true then 5 else rv (some h) l
def cI(places:Int)(e:lP):Int:=
 if dv e.hour 0 72=false then 1 else if dv e.place 0 (places-1)=false then 3 else if dv e.cS 0 5=false then 1 else if rv none e.marks≠0 then rv none e.marks
 else if dv e.aX 0 30=false then 1 else if dv e.iS 0 2=false then 8 else 0
def fE(f:lP->Int):List lP->Int
 |[]=>0
 |d::l=>if f d=0 then fE f l else f d
theorem KG(l:List Int)(i:Nat)(h:i<l.length)(p:Option Int):rv p (l.drop i)=if dv l[i] 0 4=false then 3 else if lw p l[i]=true then 5 else rv (some l[i]) (l.drop (i+1)):=by rw[List.drop_eq_getElem_cons h,rv]
theorem Bl(f:lP->Int)(l:List lP)(i:Nat)(h:i<l.length):fE f (l.drop i)=if f l[i]=0 then fE f (l.drop (i+1))else f l[i]:=by rw[List.drop_eq_getElem_cons h,fE]
theorem zd{α:Type}{l l':List α}{k:Nat}(g:k<l.length)(g':k<l'.length)(h:l.take k=l'.take k)(e:l[k]=l'[k]):l.take (k+1)=l'.take (k+1):=by rw[List.take_succ_eq_append_getElem g,List.take_succ_eq_append_getElem g',h,e]
def rd(r:List (List Int))(i j:Nat):Int:=(r.getD i []).getD j 0
def dZ(r:List (List Int))(i j:Nat):Bool:=rd r i i !=0||rd r i j !=rd r j i||(List.range r.length).any λk=>decide (rd r i j>rd r i k+rd r k j)
def kZ(n:Nat)(l:List Int):Int:=if l.length≠n then 9 else if l.all (dv · 0 9)then 0 else 1
def gl(n:Nat):List (List Int)->Int
 |[]=>0
 |l::r=>if kZ n l=0 then gl n r else kZ n l
def i6(r:List (List Int)):Int:=
 if r.length<1 then 7 else if 3<r.length then 6 else if gl r.length r≠0 then gl r.length r
 else if(List.range r.length).any (λi=>(List.range r.length).any λj=>dZ r i j)then 9 else 0
def check(f:Fr):Int:=
 if i6 f.roads≠0 then i6 f.roads else if(dv f.bM 0 3 && dv f.jn 0 3)=false then 1 else if f.jn<f.bM then 5
 else if(dv f.dR 1 6 && dv f.most 1 6)=false then 1 else if(6:Int)<f.az.length then 6 else fE (cI f.roads.length) f.az
theorem CS(n:Nat)(l:List (List Int))(i:Nat)(h:i<l.length):gl n (l.drop i)=if kZ n l[i]=0 then gl n (l.drop (i+1))else kZ n l[i]:=by rw[List.drop_eq_getElem_cons h,gl]
structure Fr.Fits(f:Fr):Prop where
 az:f.az.length<1152921504606846976
 roads:f.roads.length<1152921504606846976
 row:∀r∈f.roads,r.length<1152921504606846976
 marks:∀e∈f.az,e.marks.length<1152921504606846976
def i7(i:Int):List Int->Int->Int
 |[],_=>-1
 |x::l,v=>if x=v then i else i7 (i+1) l v
def nD(l:List Int)(v:Int):Int:=i7 0 l v
theorem xK(l:List Int)(v:Int)(i:Nat)(h:i<l.length)(c:Int):i7 c (l.drop i) v=if l[i]=v then c else i7 (c+1) (l.drop (i+1)) v:=by rw[List.drop_eq_getElem_cons h,i7]
theorem vK(v:Int):∀(l:List Int) (i:Int),0<=i->(0<=i7 i l v↔v∈l)
 |[],i,h=>by simp[i7]
 | x::l,i,h=>by
   unfold i7;split
   . next e=>subst e;simp[h]
   . next e=>rw[vK v l (i+1) (by omega)];simp[Ne.symm e]
theorem iR(l:List Int)(v:Int):0<=nD l v↔v∈l:=vK v l 0 (Int.le_refl _)
def gN(f:Fr)(e:lP):List Int:=if e.iS≠0 then(List.range (f.jn-f.bM+1).toNat).map λi:Nat=>e.aX-f.jn+(i:Int)else[]
def bO(f:Fr)(e:lP):List Int:=if e.iS≠1/\e.aX∉gN f e then gN f e++[e.aX]else gN f e
def dE(first:List Int)(others:List (List Int)):List Int:=first.filter λx=>others.all λl=>decide (x∈l)
def bT(f:Fr)(i:Int):lP:=f.az.getD i.toNat ⟨0,0,0,[],0,0⟩
def dS(f:Fr)(l:List Int):List Int:=match l.map λi=>bO f (bT f i)with|[]=>[]|a::r=>dE a r
def ez(f:Fr):Option Int->List Int->Int
 |_,[]=>0
 |p,n::l=>if dv n 0 (f.az.length-1)=false then 3 else if lw p n=true then 5 else ez f (some n) l
def nQ(f:Fr)(l:List Int):Int:=if l.length=0 then 7 else ez f none l
theorem CT(f:Fr)(l:List Int)(i:Nat)(h:i<l.length)(p:Option Int):ez f p (l.drop i)=if dv l[i] 0 (f.az.length-1)=false then 3 else if lw p l[i]=true then 5 else ez f (some l[i]) (l.drop (i+1)):=by rw[List.drop_eq_getElem_cons h,ez]
abbrev Qk(n:Int):AV:=if n=0 then .lit .nilIface else .nI 142 (.agg [int n])
def OK(a b:Int):Int:=IntKind.u8.wrap (((BitVec.ofInt 8 a|||BitVec.ofInt 8 b).toNat:Nat):Int)
def Eb(a b:Int):Int:=IntKind.u8.wrap (((BitVec.ofInt 8 a &&& BitVec.ofInt 8 b).toNat:Nat):Int)
def vL(a b:Int):Int:=IntKind.u8.wrap (((BitVec.ofInt 8 a ^^^ BitVec.ofInt 8 b).toNat:Nat):Int)
def Lt(a b:Int):Int:=IntKind.u8.wrap (a-b)
theorem Bm(a b:Int):pe .or .u8 a b=some (.int .u8 (OK a b)):=rfl
theorem xL(a b:Int):pe .and .u8 a b=some (.int .u8 (Eb a b)):=rfl
theorem Fe(a b:Int):pe .xor .u8 a b=some (.int .u8 (vL a b)):=rfl
theorem Ff(a b:Int):pe .sub .u8 a b=some (.int .u8 (Lt a b)):=rfl
def bq(m n:Int):Int:=OK m (IntKind.u8.wrap (2 ^ min n.toNat IntKind.u8.bits))
def lV(m n:Int):Bool:=Eb (m.fdiv (2 ^ min n.toNat IntKind.u8.bits)) 1==1
def bU(m:Int):List Int:=((List.range 6).map λn:Nat=>(n:Int)).filter λn=>lV m n
def bH(l:List Int):Int:=l.foldl bq 0
end Go.Proofs.YtalogdafegmilaaGreatDoor
namespace Go.Proofs.YtalogdafegmilaaGreatDoor
open Go.aN Go.Conc
set_option maxHeartbeats 1000000
variable{m:Mo}{σ:aa}{KF:cL->aa->Prop}
theorem dB{a lo hi:Int}(h:KF (.val (bool (dv a lo hi))) σ):aA Tryz.prog m 76 [int a,int lo,int hi] σ KF:=by
 unfold dv at h;refine aA.start lay [] [] 3 Tryz.func76 rfl rfl (by rfl) (by kernel_rfl) ?_;simp[Tryz.f76];refine wk.intro (λh1=>?_) (λh1=>?_)<;>simp[h1]
 . exact .done (by simpa[h1]using h)
 . exact .done (by simpa[h1]using h)
theorem H1{l:List Int}{v:Int}(hl:l.length<1152921504606846976)(h:KF (.val (int (nD l v))) σ):aA Tryz.prog m 116 [ints l,int v] σ KF:=by
 refine aA.start lay [] [] 2 Tryz.func116 rfl rfl (by rfl) (by kernel_rfl) ?_;simp[Tryz.f116];refine ab.loop l.length (λk s=>∃env,s=⟨env,σ,[],.no⟩/\env 0=ints l/\env 1=int v/\env 7=int l.length/\env 8=int k/\i7 0 l v=i7 k (l.drop k) v) ⟨_,rfl,by simp⟩ ?_;rintro c0 k _ hk ⟨env,rfl,h0,h1,h7,h8,hn⟩ ih;refine ab.run lay [] ?_;simp[h0,h1,h7,h8];refine aK.intro (λg1=>?_) (λg1=>?_)<;>(try simp[-Int.not_lt,-Int.not_le,-Nat.not_lt,-Nat.not_le]at g1)<;>(try simp[h0,h1,h7,h8,g1])
 . rw[xK l v k g1]at hn
   refine aK.intro (λg2=>?_) (λg2=>?_)<;>(try simp[-Int.not_lt,-Int.not_le,-Nat.not_lt,-Nat.not_le]at g2)<;>(try simp[g2]at hn)<;>(try simp[h0,h1,h7,h8,g2])<;>(try exact .done hn)
   . subst g2
     unfold nD at h;rw[hn]at h;exact .done h
   . exact⟨by omega,ih _ g1 ⟨_,rfl,by simp[h0,h1,h7,h8],by simp[h0,h1,h7,h8],by simp[h0,h1,h7,h8],by simp,by rw[hn,if_neg (λe=>g2 e.symm)];simp⟩⟩
 . have:k=l.length:=by omega
   subst this;unfold nD at h;rw[hn]at h;simp[i7]at h;exact .done h
theorem jO{l:List Int}{v:Int}(hl:l.length<1152921504606846976)(h:KF (.val (bool (decide (v∈l)))) σ):aA Tryz.prog m 83 [ints l,int v] σ KF:=by
 refine aA.start lay [] [] 2 Tryz.func83 rfl rfl (by rfl) (by kernel_rfl) ?_;simp[Tryz.f83];refine aq Tryz.func116 rfl rfl (H1 hl ?_);refine ab.run lay [] ?_;simp;rw[<-decide_eq_decide.2 (iR l v)]at h;exact .done h
theorem nO{l:List Int}{v:Int}(hl:l.length<1152921504606846976)(h:KF (.val (int (nD l v))) σ):aA Tryz.prog m 34 [ints l,int v] σ KF:=by
 refine aA.start lay [] [] 2 Tryz.func34 rfl rfl (by rfl) (by kernel_rfl) ?_;simp[Tryz.f34];refine ab.loop l.length (λk s=>∃env,s=⟨env,σ,[],.no⟩/\env 0=ints l/\env 1=int v/\env 5=int k/\i7 0 l v=i7 k (l.drop k) v) ⟨_,rfl,by simp⟩ ?_;rintro c0 k _ hk ⟨env,rfl,h0,h1,h5,hn⟩ ih;refine ab.run lay [] ?_;simp[h0,h1,h5];refine aK.intro (λg1=>?_) (λg1=>?_)<;>(try simp[-Int.not_lt,-Int.not_le,-Nat.not_lt,-Nat.not_le]at g1)<;>(try simp[h0,h1,h5,g1])
 . rw[xK l v k g1]at hn
   refine aK.intro (λg2=>?_) (λg2=>?_)<;>(try simp[-Int.not_lt,-Int.not_le,-Nat.not_lt,-Nat.not_le]at g2)<;>(try simp[g2]at hn)<;>(try simp[h0,h1,h5,g2])<;>(try exact .done hn)
   . subst g2
     unfold nD at h;rw[hn]at h;exact .done h
   . exact⟨by omega,ih _ g1 ⟨_,rfl,by simp[h0,h1,h5],by simp[h0,h1,h5],by simp,by rw[hn];simp⟩⟩
 . have:k=l.length:=by omega
   subst this;unfold nD at h;rw[hn]at h;simp[i7]at h;exact .done h
theorem oi{a b:List Int}(ha:a.length<1152921504606846976)(hb:b.length<1152921504606846976)(h:KF (.val (bool (decide (a=b)))) σ):aA Tryz.prog m 24 [ints a,ints b] σ KF:=by
 refine aA.start lay [] P9 2 Tryz.func24 rfl rfl (by rfl) (by kernel_rfl) ?_
 simp[Tryz.f24];refine ab.loop a.length (λk s=>∃env,s=⟨env,σ,[],.no⟩/\env 0=ints a/\env 1=ints b/\env 5=int k/\k<=b.length/\a.take k=b.take k) ⟨_,rfl,by simp⟩ ?_
 rintro c0 k _ hk ⟨env,rfl,h0,h1,h5,hkb,hn⟩ ih
 refine ab.run lay [] ?_;simp[h0,h1,h5];refine wk.intro (λg1=>?_) (λg1=>?_)<;>(try simp[-Int.not_lt,-Int.not_le,-Nat.not_lt,-Nat.not_le]at g1)<;>(try simp[h0,h1,h5,g1])
 . refine aK.intro (λg2=>?_) (λg2=>?_)<;>(try simp[-Int.not_lt,-Int.not_le,-Nat.not_lt,-Nat.not_le]at g2)<;>(try simp[h0,h1,h5,g2,g1])
   . refine ab.run lay [] ?_
     simp[h0,h1,h5];refine aK.intro (λg3=>?_) (λg3=>?_)<;>(try simp[-Int.not_lt,-Int.not_le,-Nat.not_lt,-Nat.not_le]at g3)<;>(try simp[h0,h1,h5,g3])
     . have:a≠b:=λe=>by subst e;exact g3 rfl
       simp[this]at h;exact .done h
     . refine⟨by omega,ih _ g1 ⟨_,rfl,by simp[h0,h1,h5],by simp[h0,h1,h5],by simp,by omega,zd g1 g2 hn g3⟩⟩
   . have:a≠b:=λe=>by subst e;omega
     have e':((a.length:Int)==b.length)=false:=by rw[beq_eq_false_iff_ne];omega
     rw[e'];exact .done (by simpa[this]using h)
 . have:k=a.length:=by omega
   subst this;rw[List.take_length]at hn
   by_cases e:a.length=b.length
   . have:a=b:=by rw[hn,e,List.take_length]
     exact .done (by simpa[this,e]using h)
   . have:a≠b:=λq=>e (by rw[q])
     have e':((a.length:Int)==b.length)=false:=by rw[beq_eq_false_iff_ne];omega
     rw[e'];exact .done (by simpa[this]using h)
theorem Bn{n:Int}(h:KF (.val (bool false)) σ):aA Tryz.prog m 125 [int n] σ KF:=by
 refine aA.start lay [] [] 1 Tryz.func125 rfl rfl (by rfl) (by kernel_rfl) ?_;simp[Tryz.f125];exact .done h
def ze(x y:Int):Int:=if x<y then -1 else if y<x then 1 else 0
theorem CU{x y:Int}(h:KF (.val (int (ze x y))) σ):aA Tryz.prog m 96 [int x,int y] σ KF:=by
 unfold ze at h;refine aA.start lay [] [] 2 Tryz.func96 rfl rfl (by rfl) (by kernel_rfl) ?_;simp[Tryz.f96];refine aq Tryz.func125 rfl rfl (Bn ?_);refine ab.run lay [] ?_;simp;refine aq Tryz.func125 rfl rfl (Bn ?_);refine ab.run lay [] ?_;simp;refine aK.intro (λg1=>?_) (λg1=>?_)<;>(try simp[-Int.not_lt,-Int.not_le,-Nat.not_lt,-Nat.not_le]at g1)<;>(try simp[g1]at h)<;>(try simp[g1])<;>(try exact .done h);refine aK.intro (λg2=>?_) (λg2=>?_)<;>(try simp[-Int.not_lt,-Int.not_le,-Nat.not_lt,-Nat.not_le]at g2)<;>(try simp[g2]at h)<;>(try simp[g2])<;>(try exact .done h)
theorem wY{l:List Int}(hl:l.length<1152921504606846976)(hb:∀x∈l,-1<=x/\x<=1000)(h:KF (.val (int (l.foldl (λn k=>max n (k+1)) 0))) σ):aA Tryz.prog m 59 [ints l] σ KF:=by
 refine aA.start lay [] [] 1 Tryz.func59 rfl rfl (by rfl) (by kernel_rfl) ?_;simp[Tryz.f59];refine ab.loop l.length (λk s=>∃env,s=⟨env,σ,[],.no⟩/\env 3=int ((l.take k).foldl (λn k=>max n (k+1)) 0)/\env 6=ints l/\env 7=int l.length/\env 8=int k) ⟨_,rfl,by simp⟩ ?_;rintro c0 k _ hk ⟨env,rfl,h3,h6,h7,h8⟩ ih;refine ab.run lay [] ?_;simp[h3,h6,h7,h8];refine aK.intro (λg1=>?_) (λg1=>?_)<;>(try simp[-Int.not_lt,-Int.not_le,-Nat.not_lt,-Nat.not_le]at g1)<;>(try simp[h3,h6,h7,h8,g1])
 . have:=hb _ (List.getElem_mem g1)
   refine⟨by omega,?_⟩;refine⟨by omega,ih _ g1 ⟨_,rfl,?_,by simp[h3,h6,h7,h8],by simp[h3,h6,h7,h8],by simp⟩⟩;rw[List.take_succ_eq_append_getElem g1,List.foldl_append];simp[h3];split<;>omega
 . have:k=l.length:=by omega
   subst this;rw[List.take_length];exact .done h
end Go.Proofs.YtalogdafegmilaaGreatDoor
namespace Go.Proofs.YtalogdafegmilaaGreatDoor
open Go.aN Go.Conc
set_option maxHeartbeats 1000000
variable{m:Mo}{σ:aa}{KF:cL->aa->Prop}
theorem wA{e:lP}{places:Int}(hp:0<=places/\places<1152921504606846976)(hm:e.marks.length<1152921504606846976)(h:KF (.val (int (cI places e))) σ):aA Tryz.prog m 71 [dt e,int places] σ KF:=by
 unfold cI at h;refine aA.start lay [] [] 2 Tryz.func71 rfl rfl (by rfl) (by kernel_rfl) ?_;simp[Tryz.f71];refine aq Tryz.func76 rfl rfl (dB ?_);refine ab.run lay [] ?_;simp;refine aK.intro (λg1=>?_) (λg1=>?_)<;>(try simp[-Int.not_lt,-Int.not_le,-Nat.not_lt,-Nat.not_le]at g1)<;>(try simp[g1]at h)<;>(try simp[g1])<;>(try exact .done h);refine⟨by omega,?_⟩;refine aq Tryz.func76 rfl rfl (dB ?_);refine ab.run lay [] ?_;simp;refine aK.intro (λg2=>?_) (λg2=>?_)<;>(try simp[-Int.not_lt,-Int.not_le,-Nat.not_lt,-Nat.not_le]at g2)<;>(try simp[g2]at h)<;>(try simp[g2])<;>(try exact .done h);refine aq Tryz.func76 rfl rfl (dB ?_);refine ab.run lay [] ?_;simp;refine aK.intro (λg3=>?_) (λg3=>?_)<;>(try simp[-Int.not_lt,-Int.not_le,-Nat.not_lt,-Nat.not_le]at g3)<;>(try simp[g3]at h)<;>(try simp[g3])<;>(try exact .done h)
 refine ab.loop e.marks.length (λk s=>∃env,s=⟨env,σ,[],.no⟩/\env 2=.cp (dt e) 0/\env 22=ints e.marks/\env 23=int e.marks.length/\env 24=int k/\rv none e.marks=rv (if k=0 then none else e.marks[k-1]?) (e.marks.drop k)) ⟨_,rfl,by simp⟩ ?_;rintro c0 k _ hk ⟨env,rfl,h2,h22,h23,h24,hn⟩ ih;refine ab.run lay [] ?_;simp[h2,h22,h23,h24];refine aK.intro (λg4=>?_) (λg4=>?_)<;>(try simp[-Int.not_lt,-Int.not_le,-Nat.not_lt,-Nat.not_le]at g4)<;>(try simp[h2,h22,h23,h24,g4])
 . rw [KG _ k g4]at hn
   refine aq Tryz.func76 rfl rfl (dB ?_);refine ab.run lay [] ?_;simp[h2,h22,h23,h24];refine aK.intro (λg5=>?_) (λg5=>?_)<;>(try simp[-Int.not_lt,-Int.not_le,-Nat.not_lt,-Nat.not_le]at g5)<;>(try simp[g5]at hn)<;>(try simp[h2,h22,h23,h24,g5])<;>(try exact .done hn)
   . refine wk.intro (λg6=>?_) (λg6=>?_)<;>(try simp[-Int.not_lt,-Int.not_le,-Nat.not_lt,-Nat.not_le]at g6)<;>(try simp[g6]at hn)<;>(try simp[h2,h22,h23,h24,g6,g4])<;>(try exact .done hn)
     . have e0:(k:Int)-1=((k-1:Nat):Int):=by omega
       have e1:k-1<e.marks.length:=by omega
       have e2:¬k=0:=by omega
       simp[e0,e1];repeat refine⟨by omega,?_⟩
       try simp[e1,e2,lw]at hn
       refine aK.intro (λg7=>?_) (λg7=>?_)<;>(try simp[-Int.not_lt,-Int.not_le,-Nat.not_lt,-Nat.not_le]at g7)<;>(try simp[g7]at hn)<;>(try simp[h2,h22,h23,h24,g7])<;>(try exact .done hn)
       . simp[hn]at h
         exact .done h
       . refine⟨by omega,ih _ g4 ⟨_,rfl,by simp[h2,h22,h23,h24],by simp[h2,h22,h23,h24],by simp[h2,h22,h23,h24],by simp,?_⟩⟩
         simp[hn,g4]
     . have g8:k=0:=by omega
       subst g8;simp[lw]at hn;refine⟨by omega,ih _ g4 ⟨_,rfl,by simp[h2,h22,h23,h24],by simp[h2,h22,h23,h24],by simp[h2,h22,h23,h24],by simp,?_⟩⟩;simp[hn,g4]
   . simp[hn]at h
     exact .done h
 . have:k=e.marks.length:=by omega
   subst this;simp[rv]at hn;simp[hn]at h;refine aq Tryz.func76 rfl rfl (dB ?_);refine ab.run lay [] ?_;simp[h2,h22,h23,h24];refine aK.intro (λg5=>?_) (λg5=>?_)<;>(try simp[-Int.not_lt,-Int.not_le,-Nat.not_lt,-Nat.not_le]at g5)<;>(try simp[g5]at h)<;>(try simp[h2,h22,h23,h24,g5])<;>(try exact .done h);refine aq Tryz.func76 rfl rfl (dB ?_);refine ab.run lay [] ?_;simp[h2,h22,h23,h24];refine aK.intro (λg6=>?_) (λg6=>?_)<;>(try simp[-Int.not_lt,-Int.not_le,-Nat.not_lt,-Nat.not_le]at g6)<;>(try simp[g6]at h)<;>(try simp[h2,h22,h23,h24,g6])<;>(try exact .done h)
end Go.Proofs.YtalogdafegmilaaGreatDoor
namespace Go.Proofs.YtalogdafegmilaaGreatDoor
open Go.aN Go.Conc
set_option maxHeartbeats 1000000
variable{m:Mo}{σ:aa}{KF:cL->aa->Prop}
theorem kj{n:Nat}:∀{r:List (List Int)},gl n r=0->∀l∈r,l.length=n/\∀x∈l,dv x 0 9=true
 |[],_,l,hl=>by simp at hl
 | a :: r,h,l,hl=>by
   unfold gl at h;split at h
   . next h0=>
     rcases List.mem_cons.1 hl with rfl|hl
     . unfold kZ at h0
       split at h0
       . cases h0
       . next h1=>
         split at h0
         . next h2=>exact⟨by simpa using h1,λx hx=>List.all_eq_true.1 h2 x hx⟩
         . cases h0
     . exact kj h l hl
   . next h0=>exact absurd h h0
theorem mI{r:List (List Int)}{i j:Nat}(hi:i<r.length)(hj:j<r[i].length):rd r i j=r[i][j]:=by simp[rd,List.getD_eq_getElem?_getD,hi,hj]
theorem i8{a lo hi:Int}(h:dv a lo hi=true):lo<=a/\a<=hi:=by simpa[dv]using h
theorem wB{r:List (List Int)}(hr:r.length<1152921504606846976)(hl:∀l∈r,l.length<1152921504606846976)(h:KF (.val (int (i6 r))) σ):aA Tryz.prog m 82 [rows r] σ KF:=by
 unfold i6 at h;refine aA.start lay [] Qd 1 Tryz.func82 rfl rfl (by rfl) (by kernel_rfl) ?_
 simp[Tryz.f82];refine aK.intro (λg1=>?_) (λg1=>?_)<;>simp at g1<;>simp[g1]
 . rw[if_pos (show r.length<1 by omega)]at h
   exact .done h
 refine aK.intro (λg2=>?_) (λg2=>?_)<;>simp at g2<;>simp[g2]
 . have e1:¬r.length<1:=by omega
   have e2:3<r.length:=by omega
   rw[if_neg (show ¬r.length<1 by omega),if_pos e2]at h
   exact .done h
 have e1:¬r.length<1:=by omega
 have e2:¬3<r.length:=by omega
 rw[if_neg e1,if_neg e2]at h;refine ab.loop r.length (λk s=>∃env,s=⟨env,σ,[],.no⟩/\env 0=rows r/\env 19=rows r/\env 20=int r.length/\env 21=int k/\gl r.length r=gl r.length (r.drop k)) ⟨_,rfl,by simp⟩ ?_
 rintro c0 k _ hk ⟨env,rfl,h0,h19,h20,h21,hn⟩ ih
 refine ab.run lay [] ?_;simp[h0,h19,h20,h21];refine aK.intro (λg4=>?_) (λg4=>?_)<;>(try simp[-Int.not_lt,-Int.not_le,-Nat.not_lt,-Nat.not_le]at g4)<;>(try simp[h0,h19,h20,h21,g4])
 . rw [CS _ _ k g4]at hn
   obtain⟨l,hlk⟩:∃l,l=r[k]:=⟨_,rfl⟩;simp only[<-hlk]at hn ⊢;have hl':l.length<1152921504606846976:=hl l (by rw[hlk];exact List.getElem_mem g4)
   refine aK.intro (λg5=>?_) (λg5=>?_)<;>simp at g5<;>simp[g5]
   . have g5':l.length≠r.length:=λe=>g5 (by rw[e])
     simp[kZ,g5']at hn;simp[hn]at h;exact .done h
   have g5':l.length=r.length:=by omega
   refine ab.loop l.length (λj s=>∃env,s=⟨env,σ,[],.no⟩/\env 0=rows r/\env 19=rows r/\env 20=int r.length/\env 21=int k/\env 30=ints l/\env 31=int l.length/\env 32=int j/\(l.take j).all (dv · 0 9)=true) ⟨_,rfl,by simp[h0,h19,h20,h21,g5',<-hlk]⟩ ?_
   clear h0 h19 h20 h21
   rintro c1 j _ hj ⟨env,rfl,h0,h19,h20,h21,h30,h31,h32,hall⟩ ih2
   refine ab.run lay [] ?_;simp[h0,h19,h20,h21,h30,h31,h32];refine aK.intro (λg6=>?_) (λg6=>?_)<;>(try simp[-Int.not_lt,-Int.not_le,-Nat.not_lt,-Nat.not_le]at g6)<;>(try simp[h0,h19,h20,h21,h30,h31,h32,g6])
   . refine aq Tryz.func76 rfl rfl (dB ?_)
     refine ab.run lay [] ?_;simp[h0,h19,h20,h21,h30,h31,h32];refine aK.intro (λg7=>?_) (λg7=>?_)<;>(try simp[-Int.not_lt,-Int.not_le,-Nat.not_lt,-Nat.not_le]at g7)<;>(try simp[h0,h19,h20,h21,h30,h31,h32,g7])
     . refine⟨by omega,ih2 _ g6 ⟨_,rfl,by simp[h0,h19,h20,h21,h30,h31,h32],by simp[h0,h19,h20,h21,h30,h31,h32],by simp[h0,h19,h20,h21,h30,h31,h32],by simp[h0,h19,h20,h21,h30,h31,h32],by simp[h0,h19,h20,h21,h30,h31,h32],by simp[h0,h19,h20,h21,h30,h31,h32],by simp,?_⟩⟩
       rw[List.take_succ_eq_append_getElem g6,List.all_append,hall];simp[g7]
     . have:l.all (dv · 0 9)=false:=by
        rw[List.all_eq_false];exact⟨_,List.getElem_mem g6,by simp[g7]⟩
       simp[kZ,g5',this]at hn;simp[hn]at h;exact .done h
   . have:j=l.length:=by omega
     subst this;rw[List.take_length]at hall;have h0':kZ r.length l=0:=by unfold kZ;rw[if_neg (by simp[g5']),if_pos hall]
     rw[if_pos h0']at hn;exact⟨by omega,ih _ g4 ⟨_,rfl,by simp[h0,h19,h20,h21,h30,h31,h32],by simp[h0,h19,h20,h21,h30,h31,h32],by simp[h0,h19,h20,h21,h30,h31,h32],by simp,hn⟩⟩
 have:k=r.length:=by omega
 subst this;simp[gl]at hn;rw[if_neg (by rw[hn];simp)]at h
 clear ih;have hrow:∀(i:Nat) (hi:i<r.length),r[i].length=r.length:=λi hi=>(kj hn _ (List.getElem_mem hi)).1
 have hbd:∀(i:Nat) (hi:i<r.length) (j:Nat) (hj:j<r[i].length),0<=r[i][j]/\r[i][j]<=9:=λi hi j hj=>i8 ((kj hn _ (List.getElem_mem hi)).2 _ (List.getElem_mem hj))
 refine ab.loop r.length (λi s=>∃env,s=⟨env,σ,[],.no⟩/\env 0=rows r/\env 41=rows r/\env 42=int r.length/\env 43=int i/\∀i'<i,∀j<r.length,dZ r i' j=false) ⟨_,rfl,by simp[h0]⟩ ?_
 clear h0 h19 h20 h21
 rintro c1 i _ hi ⟨env,rfl,h0,h41,h42,h43,hgood⟩ ih
 refine ab.run lay [] ?_;simp[h0,h41,h42,h43];refine aK.intro (λg5=>?_) (λg5=>?_)<;>(try simp[-Int.not_lt,-Int.not_le,-Nat.not_lt,-Nat.not_le]at g5)<;>(try simp[h0,h41,h42,h43,g5])
 . refine ab.loop r.length (λj s=>∃env,s=⟨env,σ,[],.no⟩/\env 0=rows r/\env 41=rows r/\env 42=int r.length/\env 43=int i/\env 8=int i/\env 46=rows r/\env 47=int r.length/\env 48=int j/\∀j'<j,dZ r i j'=false) ⟨_,rfl,by simp[h0,h41,h42,h43]⟩ ?_
   clear h0 h41 h42 h43
   rintro c2 j _ hj ⟨env,rfl,h0,h41,h42,h43,h8,h46,h47,h48,hgj⟩ ih2
   refine ab.run lay [] ?_;simp[h0,h41,h42,h43,h8,h46,h47,h48];refine aK.intro (λg6=>?_) (λg6=>?_)<;>(try simp[-Int.not_lt,-Int.not_le,-Nat.not_lt,-Nat.not_le]at g6)<;>(try simp[h0,h41,h42,h43,h8,h46,h47,h48,g6])
   . have q1 : i<r[i].length:=by rw[hrow i g5];exact g5
     have q2:j<r[i].length:=by rw[hrow i g5];exact g6
     have q3:i<r[j].length:=by rw[hrow j g6];exact g5
     simp[h0,h41,h42,h43,h8,h46,h47,h48,g5,g6,q1,q2,q3];refine Jx.intro (λg7=>?_) (λg7=>?_)<;>(try simp[-Int.not_lt,-Int.not_le,-Nat.not_lt,-Nat.not_le]at g7)<;>(try simp[h0,h41,h42,h43,h8,h46,h47,h48,g7,g5,g6,q1,q2,q3])
     . refine ab.run lay [] ?_
       simp[h0,h41,h42,h43,h8,h46,h47,h48];refine aK.intro (λg8=>?_) (λg8=>?_)<;>(try simp[-Int.not_lt,-Int.not_le,-Nat.not_lt,-Nat.not_le]at g8)<;>(try simp[h0,h41,h42,h43,h8,h46,h47,h48,g8])
       ·
        have hb:dZ r i j=true:=by unfold dZ;rw[mI g5 q2,mI g6 q3];simp[g8]
        have:((List.range r.length).any λi=>(List.range r.length).any λj=>dZ r i j)=true:=List.any_eq_true.2 ⟨i,List.mem_range.2 g5,List.any_eq_true.2 ⟨j,List.mem_range.2 g6,hb⟩⟩
        rw[if_pos this]at h;exact .done h
       . refine ab.loop r.length (λk s=>∃env,s=⟨env,σ,[],.no⟩/\env 0=rows r/\env 41=rows r/\env 42=int r.length/\env 43=int i/\env 8=int i/\env 46=rows r/\env 47=int r.length/\env 48=int j/\env 9=int j/\env 76=rows r/\env 77=int r.length/\env 78=int k/\∀k'<k,¬rd r i j>rd r i k'+rd r k' j) ⟨_,rfl,by simp[h0,h41,h42,h43,h8,h46,h47,h48]⟩ ?_
         clear h0 h41 h42 h43 h8 h46 h47 h48
         rintro c3 k _ hk ⟨env,rfl,h0,h41,h42,h43,h8,h46,h47,h48,h9,h76,h77,h78,hgk⟩ ih3
         refine ab.run lay [] ?_;simp[h0,h41,h42,h43,h8,h46,h47,h48,h9,h76,h77,h78];refine aK.intro (λg9=>?_) (λg9=>?_)<;>(try simp[-Int.not_lt,-Int.not_le,-Nat.not_lt,-Nat.not_le]at g9)<;>(try simp[h0,h41,h42,h43,h8,h46,h47,h48,h9,h76,h77,h78,g9])
         . have p1:k<r[i].length:=by rw[hrow i g5];exact g9
           have p2:j<r[k].length:=by rw[hrow k g9];exact g6
           have b1:=hbd i g5 k p1;have b2:=hbd k g9 j p2;have f1:-9223372036854775808<=r[i][k]+r[k][j]:=by omega
           have f2:r[i][k]+r[k][j]<=9223372036854775807:=by omega
           simp[h0,h41,h42,h43,h8,h46,h47,h48,h9,h76,h77,h78,g5,g6,g9,q2,p1,p2,f1,f2];refine ab.run lay [] ?_;simp[h0,h41,h42,h43,h8,h46,h47,h48,h9,h76,h77,h78];refine aK.intro (λg10=>?_) (λg10=>?_)<;>(try simp[-Int.not_lt,-Int.not_le,-Nat.not_lt,-Nat.not_le]at g10)<;>(try simp[h0,h41,h42,h43,h8,h46,h47,h48,h9,h76,h77,h78,g10])
           . have hb:dZ r i j=true:=by
              unfold dZ;have:((List.range r.length).any λk=>decide (rd r i j>rd r i k+rd r k j))=true:=List.any_eq_true.2 ⟨k,List.mem_range.2 g9,by rw[mI g5 q2,mI g5 p1,mI g9 p2];simpa using g10⟩
              rw[this];simp
             have:((List.range r.length).any λi=>(List.range r.length).any λj=>dZ r i j)=true:=List.any_eq_true.2 ⟨i,List.mem_range.2 g5,List.any_eq_true.2 ⟨j,List.mem_range.2 g6,hb⟩⟩
             rw[if_pos this]at h;exact .done h
           . refine⟨by omega,ih3 _ g9 ⟨_,rfl,by simp[h0,h41,h42,h43,h8,h46,h47,h48,h9,h76,h77,h78],by simp[h0,h41,h42,h43,h8,h46,h47,h48,h9,h76,h77,h78],by simp[h0,h41,h42,h43,h8,h46,h47,h48,h9,h76,h77,h78],by simp[h0,h41,h42,h43,h8,h46,h47,h48,h9,h76,h77,h78],by simp[h0,h41,h42,h43,h8,h46,h47,h48,h9,h76,h77,h78],by simp[h0,h41,h42,h43,h8,h46,h47,h48,h9,h76,h77,h78],by simp[h0,h41,h42,h43,h8,h46,h47,h48,h9,h76,h77,h78],by simp[h0,h41,h42,h43,h8,h46,h47,h48,h9,h76,h77,h78],by simp[h0,h41,h42,h43,h8,h46,h47,h48,h9,h76,h77,h78],by simp[h0,h41,h42,h43,h8,h46,h47,h48,h9,h76,h77,h78],by simp[h0,h41,h42,h43,h8,h46,h47,h48,h9,h76,h77,h78],by simp,λk' hk'=>?_⟩⟩
             by_cases e:k'=k
             . subst e
               rw[mI g5 q2,mI g5 p1,mI g9 p2];omega
             . exact hgk k' (by omega)
         . have:k=r.length:=by omega
           subst this;refine⟨by omega,ih2 _ g6 ⟨_,rfl,by simp[h0,h41,h42,h43,h8,h46,h47,h48,h9,h76,h77,h78],by simp[h0,h41,h42,h43,h8,h46,h47,h48,h9,h76,h77,h78],by simp[h0,h41,h42,h43,h8,h46,h47,h48,h9,h76,h77,h78],by simp[h0,h41,h42,h43,h8,h46,h47,h48,h9,h76,h77,h78],by simp[h0,h41,h42,h43,h8,h46,h47,h48,h9,h76,h77,h78],by simp[h0,h41,h42,h43,h8,h46,h47,h48,h9,h76,h77,h78],by simp[h0,h41,h42,h43,h8,h46,h47,h48,h9,h76,h77,h78],by simp,λj' hj'=>?_⟩⟩
           by_cases e:j'=j
           . subst e
             unfold dZ
             have e1:((List.range r.length).any λk=>decide (rd r i j'>rd r i k+rd r k j'))=false:=by rw[List.any_eq_false];intro k hk;simpa using hgk k (List.mem_range.1 hk)
             have e2:rd r i i=0:=by rw[mI g5 q1];exact g7
             have e3:rd r i j'=rd r j' i:=by rw[mI g5 q2,mI g6 q3];exact g8
             rw[e1,e2,e3];simp
           . exact hgj j' (by omega)
     . have e:(r[i][i] !=0)=true:=by simp[g7]
       simp[h0,h41,h42,h43,h8,h46,h47,h48,e];refine ab.run lay [] ?_;simp[h0,h41,h42,h43,h8,h46,h47,h48]
       have hb:dZ r i j=true:=by unfold dZ;rw[mI g5 q1];simp[g7]
       have:((List.range r.length).any λi=>(List.range r.length).any λj=>dZ r i j)=true:=List.any_eq_true.2 ⟨i,List.mem_range.2 g5,List.any_eq_true.2 ⟨j,List.mem_range.2 g6,hb⟩⟩
       rw[if_pos this]at h;exact .done h
   . have:j=r.length:=by omega
     subst this;refine⟨by omega,ih _ g5 ⟨_,rfl,by simp[h0,h41,h42,h43,h8,h46,h47,h48],by simp[h0,h41,h42,h43,h8,h46,h47,h48],by simp[h0,h41,h42,h43,h8,h46,h47,h48],by simp,λi' hi' j hj'=>?_⟩⟩
     by_cases e:i'=i
     . subst e;exact hgj j hj'
     . exact hgood i' (by omega) j hj'
 . have:i=r.length:=by omega
   subst this
   have:((List.range r.length).any λi=>(List.range r.length).any λj=>dZ r i j)=false:=by rw[List.any_eq_false];intro i hi;rw[Bool.not_eq_true,List.any_eq_false];intro j hj;rw[hgood i (List.mem_range.1 hi) j (List.mem_range.1 hj)];simp
   rw[this]at h;exact .done (by simpa using h)
end Go.Proofs.YtalogdafegmilaaGreatDoor

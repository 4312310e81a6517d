/- Part 27 of the proof. -/
import Derived.Test.YtelgggdkahhhfaaGreatDoorProg
import Derived.Test.YtelgggdkahhhfaaGreatDoorC26
set_option linter.all false
namespace Go.Proofs.YtelgggdkahhhfaaGreatDoor
open Go.aZ
set_option maxRecDepth 100000
def DN:List (Nat × TI):=[
 (1,⟨.func,1,8,.nilFunc,[]⟩),
 (2,⟨.int .i64,1,8,(.int .i64 0),[]⟩),
 (3,⟨.int .i64,1,8,(.int .i64 0),[]⟩),
 (4,⟨.bool,1,1,(.bool false),[]⟩),
 (5,⟨.int .u8,1,1,(.int .u8 0),[]⟩),
 (6,⟨.int .u8,1,1,(.int .u8 0),[]⟩),
 (7,⟨.struct,4,24,(.agg #[(.int .i64 0),(.int .i64 0),(.bool false),(.int .u8 0)]),[(0,1,2),(1,1,3),(2,1,4),(3,1,6)]⟩),
 (8,⟨.struct,4,24,(.agg #[(.int .i64 0),(.int .i64 0),(.bool false),(.int .u8 0)]),[(0,1,2),(1,1,3),(2,1,4),(3,1,6)]⟩),
 (9,⟨.string,1,16,(.string ByteArray.empty),[]⟩),
 (10,⟨.string,1,16,(.string ByteArray.empty),[]⟩),
 (11,⟨.string,1,16,(.string ByteArray.empty),[]⟩),
 (12,⟨.int .u64,1,8,(.int .u64 0),[]⟩),
 (13,⟨.struct,2,24,(.agg #[(.string ByteArray.empty),(.int .u64 0)]),[(0,1,9),(1,1,12)]⟩),
 (14,⟨.struct,2,24,(.agg #[(.string ByteArray.empty),(.int .u64 0)]),[(0,1,9),(1,1,12)]⟩),
 (15,⟨.pointer 209,1,8,(.pointer none),[]⟩),
 (16,⟨.pointer 212,1,8,(.pointer none),[]⟩),
 (17,⟨.pointer 220,1,8,(.pointer none),[]⟩),
 (18,⟨.struct,1,8,(.agg #[(.pointer none)]),[(0,1,17)]⟩),
 (19,⟨.struct,1,8,(.agg #[(.pointer none)]),[(0,1,17)]⟩),
 (20,⟨.iface,1,16,.nilIface,[]⟩),
 (21,⟨.int .i32,1,4,(.int .i32 0),[]⟩),
 (22,⟨.slice 3,1,24,(.slice none 0 0),[]⟩),
 (23,⟨.pointer 62,1,8,(.pointer none),[]⟩),
 (24,⟨.func,1,8,.nilFunc,[]⟩),
 (25,⟨.slice 65,1,24,(.slice none 0 0),[]⟩),
 (26,⟨.slice 22,1,24,(.slice none 0 0),[]⟩),
 (27,⟨.struct,2,16,(.agg #[(.int .i64 0),(.int .i64 0)]),[(0,1,3),(1,1,3)]⟩),
 (28,⟨.struct,2,16,(.agg #[(.int .i64 0),(.int .i64 0)]),[(0,1,3),(1,1,3)]⟩),
 (29,⟨.struct,6,80,(.agg #[(.slice none 0 0),(.slice none 0 0),(.int .i64 0),(.int .i64 0),(.int .i64 0),(.int .i64 0)]),[(0,1,25),(1,1,26),(2,2,28),(4,1,3),(5,1,3)]⟩),
 (30,⟨.struct,6,80,(.agg #[(.slice none 0 0),(.slice none 0 0),(.int .i64 0),(.int .i64 0),(.int .i64 0),(.int .i64 0)]),[(0,1,25),(1,1,26),(2,2,28),(4,1,3),(5,1,3)]⟩),
 (31,⟨.func,1,8,.nilFunc,[]⟩),
 (32,⟨.func,1,8,.nilFunc,[]⟩),
 (33,⟨.func,1,8,.nilFunc,[]⟩),
 (34,⟨.func,1,8,.nilFunc,[]⟩),
 (35,⟨.int .i64,1,8,(.int .i64 0),[]⟩),
 (37,⟨.func,1,8,.nilFunc,[]⟩),
 (40,⟨.func,1,8,.nilFunc,[]⟩),
 (41,⟨.func,1,8,.nilFunc,[]⟩),
 (47,⟨.func,1,8,.nilFunc,[]⟩),
 (60,⟨.int .u64,1,8,(.int .u64 0),[]⟩),
 (62,⟨.struct,3,40,(.agg #[(.slice none 0 0),(.int .i64 0),(.int .u64 0)]),[(0,1,22),(1,1,3),(2,1,60)]⟩),
 (63,⟨.func,1,8,.nilFunc,[]⟩),
 (65,⟨.struct,6,64,(.agg #[(.int .i64 0),(.int .i64 0),(.int .i64 0),(.slice none 0 0),(.int .i64 0),(.int .i64 0)]),[(0,1,3),(1,1,3),(2,1,3),(3,1,22),(4,1,3),(5,1,3)]⟩),
 (70,⟨.pointer 113,1,8,(.pointer none),[]⟩),
 (72,⟨.func,1,8,.nilFunc,[]⟩),
 (73,⟨.func,1,8,.nilFunc,[]⟩),
 (74,⟨.func,1,8,.nilFunc,[]⟩),
 (75,⟨.func,1,8,.nilFunc,[]⟩),
 (77,⟨.func,1,8,.nilFunc,[]⟩),
 (80,⟨.struct,3,40,(.agg #[(.slice none 0 0),(.int .i64 0),(.bool false)]),[(0,1,22),(1,1,3),(2,1,4)]⟩),
 (81,⟨.struct,3,40,(.agg #[(.slice none 0 0),(.int .i64 0),(.bool false)]),[(0,1,22),(1,1,3),(2,1,4)]⟩),
 (83,⟨.func,1,8,.nilFunc,[]⟩),
 (92,⟨.iface,1,16,.nilIface,[]⟩),
 (97,⟨.struct,2,16,(.agg #[(.int .i64 0),(.int .i64 0)]),[(0,1,3),(1,1,3)]⟩),
 (99,⟨.struct,4,32,(.agg #[(.int .i64 0),(.int .i64 0),(.int .i64 0),(.bool false)]),[(0,2,97),(2,1,3),(3,1,4)]⟩),
 (101,⟨.func,1,8,.nilFunc,[]⟩),
 (102,⟨.int .u64,1,8,(.int .u64 0),[]⟩),
 (105,⟨.struct,0,0,(.agg #[]),[]⟩),
 (106,⟨.int .u32,1,4,(.int .u32 0),[]⟩),
 (108,⟨.struct,2,8,(.agg #[(.int .i32 0),(.int .u32 0)]),[(0,1,21),(1,1,106)]⟩),
 (110,⟨.struct,2,8,(.agg #[(.int .i32 0),(.int .u32 0)]),[(0,0,105),(0,2,108)]⟩),
 (111,⟨.map 127 4,1,8,(.map none),[]⟩),
 (113,⟨.struct,9,96,(.agg #[(.slice none 0 0),(.slice none 0 0),(.int .i64 0),(.int .i64 0),(.int .i64 0),(.int .i64 0),(.int .i32 0),(.int .u32 0),(.map none)]),[(0,6,30),(6,2,110),(8,1,111)]⟩),
 (114,⟨.chan 3,1,8,(.chan none),[]⟩),
 (115,⟨.struct,0,0,(.agg #[]),[]⟩),
 (116,⟨.struct,0,0,(.agg #[]),[]⟩),
 (118,⟨.struct,1,8,(.agg #[(.int .u64 0)]),[(0,0,115),(0,0,116),(0,1,60)]⟩),
 (120,⟨.struct,2,16,(.agg #[(.int .u64 0),(.int .u32 0)]),[(0,0,105),(0,1,118),(1,1,106)]⟩),
 (121,⟨.func,1,8,.nilFunc,[]⟩),
 (124,⟨.func,1,8,.nilFunc,[]⟩),
 (127,⟨.struct,1,1,(.agg #[(.int .u8 0)]),[(0,1,5)]⟩),
 (128,⟨.array 6 127,6,6,(.agg #[(.int .u8 0),(.int .u8 0),(.int .u8 0),(.int .u8 0),(.int .u8 0),(.int .u8 0)]),[]⟩),
 (131,⟨.pointer 81,1,8,(.pointer none),[]⟩),
 (133,⟨.struct,1,8,(.agg #[(.int .i64 0)]),[(0,1,35)]⟩),
 (136,⟨.iface,1,16,.nilIface,[]⟩),
 (138,⟨.pointer 133,1,8,(.pointer none),[]⟩),
 (140,⟨.struct,1,8,(.agg #[.nilFunc]),[(0,1,34)]⟩),
 (141,⟨.struct,0,0,(.agg #[]),[]⟩),
 (142,⟨.struct,0,0,(.agg #[]),[]⟩),
 (143,⟨.struct,0,0,(.agg #[]),[]⟩),
 (144,⟨.slice 92,1,24,(.slice none 0 0),[]⟩),
 (147,⟨.pointer 120,1,8,(.pointer none),[]⟩),
 (150,⟨.int .i64,1,8,(.int .i64 0),[]⟩),
 (154,⟨.pointer 106,1,8,(.pointer none),[]⟩),
 (165,⟨.int .u64,1,8,(.int .u64 0),[]⟩),
 (167,⟨.struct,3,24,(.agg #[(.pointer none),(.pointer none),(.int .u64 0)]),[(0,1,17),(1,1,149),(2,1,165)]⟩),
 (170,⟨.iface,1,16,.nilIface,[]⟩),
 (172,⟨.int .u8,1,1,(.int .u8 0),[]⟩),
 (183,⟨.pointer 110,1,8,(.pointer none),[]⟩),
 (185,⟨.struct,1,8,(.agg #[(.pointer none)]),[(0,1,17)]⟩),
 (209,⟨.struct,4,40,(.agg #[(.pointer none),(.pointer none),(.pointer none),(.string ByteArray.empty)]),[(0,1,17),(1,1,17),(2,1,17),(3,1,9)]⟩),
 (210,⟨.array 0 16,0,0,(.agg #[]),[]⟩),
 (212,⟨.struct,0,0,(.agg #[]),[(0,0,210)]⟩),
 (214,⟨.int .u8,1,1,(.int .u8 0),[]⟩),
 (215,⟨.func,1,8,.nilFunc,[]⟩),
 (216,⟨.pointer 5,1,8,(.pointer none),[]⟩),
 (217,⟨.int .i32,1,4,(.int .i32 0),[]⟩),
 (218,⟨.int .i32,1,4,(.int .i32 0),[]⟩),
 (220,⟨.struct,11,48,(.agg #[(.int .u64 0),(.int .u64 0),(.int .u32 0),(.int .u8 0),(.int .u8 0),(.int .u8 0),(.int .u8 0),.nilFunc,(.pointer none),(.int .i32 0),(.int .i32 0)]),[(0,1,12),(1,1,12),(2,1,106),(3,1,214),(4,1,5),(5,1,5),(6,1,172),(7,1,215),(8,1,216),(9,1,217),(10,1,218)]⟩),
 (221,⟨.int .u8,1,1,(.int .u8 0),[]⟩)]
theorem AY:(DN.all fun x=>x.2.check Tryz.prog x.1)=true:=by kernel_rfl
def vn (t:Nat):Option TI:=(DN.find? fun x=>x.1 == t).map (·.2)
theorem yA (t:Nat) (i:TI) (h:vn t=some i):i.check Tryz.prog t=true:=by
 unfold vn at h;obtain⟨x,hx,rfl⟩:=Option.map_eq_some_iff.1 h;have h1:=List.find?_some hx;have h2:=List.all_eq_true.1 AY x (List.mem_of_find?_eq_some hx);rw[beq_iff_eq.1 h1] at h2;exact h2
def lay:iB Tryz.prog:=⟨vn,yA,by kernel_rfl⟩
@[simp] theorem OJ:lay.tt 1=some ⟨.func,1,8,.nilFunc,[]⟩:=rfl
@[simp] theorem OK:lay.tt 2=some ⟨.int .i64,1,8,(.int .i64 0),[]⟩:=rfl
@[simp] theorem tO:lay.tt 3=some ⟨.int .i64,1,8,(.int .i64 0),[]⟩:=rfl
@[simp] theorem NV:lay.tt 4=some ⟨.bool,1,1,(.bool false),[]⟩:=rfl
@[simp] theorem M6:lay.tt 5=some ⟨.int .u8,1,1,(.int .u8 0),[]⟩:=rfl
@[simp] theorem OL:lay.tt 6=some ⟨.int .u8,1,1,(.int .u8 0),[]⟩:=rfl
@[simp] theorem OM:lay.tt 7=some ⟨.struct,4,24,(.agg #[(.int .i64 0),(.int .i64 0),(.bool false),(.int .u8 0)]),[(0,1,2),(1,1,3),(2,1,4),(3,1,6)]⟩:=rfl
@[simp] theorem ON:lay.tt 8=some ⟨.struct,4,24,(.agg #[(.int .i64 0),(.int .i64 0),(.bool false),(.int .u8 0)]),[(0,1,2),(1,1,3),(2,1,4),(3,1,6)]⟩:=rfl
@[simp] theorem OP:lay.tt 9=some ⟨.string,1,16,(.string ByteArray.empty),[]⟩:=rfl
@[simp] theorem NW:lay.tt 10=some ⟨.string,1,16,(.string ByteArray.empty),[]⟩:=rfl
@[simp] theorem NX:lay.tt 11=some ⟨.string,1,16,(.string ByteArray.empty),[]⟩:=rfl
@[simp] theorem NY:lay.tt 12=some ⟨.int .u64,1,8,(.int .u64 0),[]⟩:=rfl
@[simp] theorem NZ:lay.tt 13=some ⟨.struct,2,24,(.agg #[(.string ByteArray.empty),(.int .u64 0)]),[(0,1,9),(1,1,12)]⟩:=rfl
@[simp] theorem N1:lay.tt 14=some ⟨.struct,2,24,(.agg #[(.string ByteArray.empty),(.int .u64 0)]),[(0,1,9),(1,1,12)]⟩:=rfl
@[simp] theorem N2:lay.tt 15=some ⟨.pointer 209,1,8,(.pointer none),[]⟩:=rfl
@[simp] theorem N3:lay.tt 16=some ⟨.pointer 212,1,8,(.pointer none),[]⟩:=rfl
@[simp] theorem N4:lay.tt 17=some ⟨.pointer 220,1,8,(.pointer none),[]⟩:=rfl
@[simp] theorem N5:lay.tt 18=some ⟨.struct,1,8,(.agg #[(.pointer none)]),[(0,1,17)]⟩:=rfl
@[simp] theorem N6:lay.tt 19=some ⟨.struct,1,8,(.agg #[(.pointer none)]),[(0,1,17)]⟩:=rfl
@[simp] theorem N7:lay.tt 20=some ⟨.iface,1,16,.nilIface,[]⟩:=rfl
@[simp] theorem N8:lay.tt 21=some ⟨.int .i32,1,4,(.int .i32 0),[]⟩:=rfl
@[simp] theorem dz:lay.tt 22=some ⟨.slice 3,1,24,(.slice none 0 0),[]⟩:=rfl
@[simp] theorem N9:lay.tt 23=some ⟨.pointer 62,1,8,(.pointer none),[]⟩:=rfl
@[simp] theorem Oa:lay.tt 24=some ⟨.func,1,8,.nilFunc,[]⟩:=rfl
@[simp] theorem vo:lay.tt 25=some ⟨.slice 65,1,24,(.slice none 0 0),[]⟩:=rfl
@[simp] theorem kL:lay.tt 26=some ⟨.slice 22,1,24,(.slice none 0 0),[]⟩:=rfl
@[simp] theorem Ob:lay.tt 27=some ⟨.struct,2,16,(.agg #[(.int .i64 0),(.int .i64 0)]),[(0,1,3),(1,1,3)]⟩:=rfl
@[simp] theorem Oc:lay.tt 28=some ⟨.struct,2,16,(.agg #[(.int .i64 0),(.int .i64 0)]),[(0,1,3),(1,1,3)]⟩:=rfl
@[simp] theorem Od:lay.tt 29=some ⟨.struct,6,80,(.agg #[(.slice none 0 0),(.slice none 0 0),(.int .i64 0),(.int .i64 0),(.int .i64 0),(.int .i64 0)]),[(0,1,25),(1,1,26),(2,2,28),(4,1,3),(5,1,3)]⟩:=rfl
@[simp] theorem Oe:lay.tt 30=some ⟨.struct,6,80,(.agg #[(.slice none 0 0),(.slice none 0 0),(.int .i64 0),(.int .i64 0),(.int .i64 0),(.int .i64 0)]),[(0,1,25),(1,1,26),(2,2,28),(4,1,3),(5,1,3)]⟩:=rfl
@[simp] theorem Of:lay.tt 31=some ⟨.func,1,8,.nilFunc,[]⟩:=rfl
@[simp] theorem Og:lay.tt 32=some ⟨.func,1,8,.nilFunc,[]⟩:=rfl
@[simp] theorem Oh:lay.tt 33=some ⟨.func,1,8,.nilFunc,[]⟩:=rfl
@[simp] theorem Oi:lay.tt 34=some ⟨.func,1,8,.nilFunc,[]⟩:=rfl
@[simp] theorem Oj:lay.tt 35=some ⟨.int .i64,1,8,(.int .i64 0),[]⟩:=rfl
@[simp] theorem Ok:lay.tt 37=some ⟨.func,1,8,.nilFunc,[]⟩:=rfl
@[simp] theorem Ol:lay.tt 40=some ⟨.func,1,8,.nilFunc,[]⟩:=rfl
@[simp] theorem Om:lay.tt 41=some ⟨.func,1,8,.nilFunc,[]⟩:=rfl
@[simp] theorem On:lay.tt 47=some ⟨.func,1,8,.nilFunc,[]⟩:=rfl
@[simp] theorem Oo:lay.tt 60=some ⟨.int .u64,1,8,(.int .u64 0),[]⟩:=rfl
@[simp] theorem Oq:lay.tt 62=some ⟨.struct,3,40,(.agg #[(.slice none 0 0),(.int .i64 0),(.int .u64 0)]),[(0,1,22),(1,1,3),(2,1,60)]⟩:=rfl
@[simp] theorem Or:lay.tt 63=some ⟨.func,1,8,.nilFunc,[]⟩:=rfl
@[simp] theorem DO:lay.tt 65=some ⟨.struct,6,64,(.agg #[(.int .i64 0),(.int .i64 0),(.int .i64 0),(.slice none 0 0),(.int .i64 0),(.int .i64 0)]),[(0,1,3),(1,1,3),(2,1,3),(3,1,22),(4,1,3),(5,1,3)]⟩:=rfl
@[simp] theorem Ot:lay.tt 70=some ⟨.pointer 113,1,8,(.pointer none),[]⟩:=rfl
@[simp] theorem Ou:lay.tt 72=some ⟨.func,1,8,.nilFunc,[]⟩:=rfl
@[simp] theorem Ov:lay.tt 73=some ⟨.func,1,8,.nilFunc,[]⟩:=rfl
@[simp] theorem Ow:lay.tt 74=some ⟨.func,1,8,.nilFunc,[]⟩:=rfl
@[simp] theorem Ox:lay.tt 75=some ⟨.func,1,8,.nilFunc,[]⟩:=rfl
@[simp] theorem Oy:lay.tt 77=some ⟨.func,1,8,.nilFunc,[]⟩:=rfl
@[simp] theorem Oz:lay.tt 80=some ⟨.struct,3,40,(.agg #[(.slice none 0 0),(.int .i64 0),(.bool false)]),[(0,1,22),(1,1,3),(2,1,4)]⟩:=rfl
@[simp] theorem OA:lay.tt 81=some ⟨.struct,3,40,(.agg #[(.slice none 0 0),(.int .i64 0),(.bool false)]),[(0,1,22),(1,1,3),(2,1,4)]⟩:=rfl
@[simp] theorem OB:lay.tt 83=some ⟨.func,1,8,.nilFunc,[]⟩:=rfl
@[simp] theorem Kl:lay.tt 92=some ⟨.iface,1,16,.nilIface,[]⟩:=rfl
@[simp] theorem OC:lay.tt 97=some ⟨.struct,2,16,(.agg #[(.int .i64 0),(.int .i64 0)]),[(0,1,3),(1,1,3)]⟩:=rfl
@[simp] theorem OD:lay.tt 99=some ⟨.struct,4,32,(.agg #[(.int .i64 0),(.int .i64 0),(.int .i64 0),(.bool false)]),[(0,2,97),(2,1,3),(3,1,4)]⟩:=rfl
@[simp] theorem M7:lay.tt 101=some ⟨.func,1,8,.nilFunc,[]⟩:=rfl
@[simp] theorem M8:lay.tt 102=some ⟨.int .u64,1,8,(.int .u64 0),[]⟩:=rfl
@[simp] theorem M9:lay.tt 105=some ⟨.struct,0,0,(.agg #[]),[]⟩:=rfl
@[simp] theorem Na:lay.tt 106=some ⟨.int .u32,1,4,(.int .u32 0),[]⟩:=rfl
@[simp] theorem Nb:lay.tt 108=some ⟨.struct,2,8,(.agg #[(.int .i32 0),(.int .u32 0)]),[(0,1,21),(1,1,106)]⟩:=rfl
@[simp] theorem Nc:lay.tt 110=some ⟨.struct,2,8,(.agg #[(.int .i32 0),(.int .u32 0)]),[(0,0,105),(0,2,108)]⟩:=rfl
@[simp] theorem Nd:lay.tt 111=some ⟨.map 127 4,1,8,(.map none),[]⟩:=rfl
@[simp] theorem Nf:lay.tt 113=some ⟨.struct,9,96,(.agg #[(.slice none 0 0),(.slice none 0 0),(.int .i64 0),(.int .i64 0),(.int .i64 0),(.int .i64 0),(.int .i32 0),(.int .u32 0),(.map none)]),[(0,6,30),(6,2,110),(8,1,111)]⟩:=rfl
@[simp] theorem z5:lay.tt 114=some ⟨.chan 3,1,8,(.chan none),[]⟩:=rfl
@[simp] theorem Ng:lay.tt 115=some ⟨.struct,0,0,(.agg #[]),[]⟩:=rfl
@[simp] theorem Nh:lay.tt 116=some ⟨.struct,0,0,(.agg #[]),[]⟩:=rfl
@[simp] theorem Ni:lay.tt 118=some ⟨.struct,1,8,(.agg #[(.int .u64 0)]),[(0,0,115),(0,0,116),(0,1,60)]⟩:=rfl
@[simp] theorem Nj:lay.tt 120=some ⟨.struct,2,16,(.agg #[(.int .u64 0),(.int .u32 0)]),[(0,0,105),(0,1,118),(1,1,106)]⟩:=rfl
@[simp] theorem Nk:lay.tt 121=some ⟨.func,1,8,.nilFunc,[]⟩:=rfl
@[simp] theorem Nl:lay.tt 124=some ⟨.func,1,8,.nilFunc,[]⟩:=rfl
@[simp] theorem Nm:lay.tt 127=some ⟨.struct,1,1,(.agg #[(.int .u8 0)]),[(0,1,5)]⟩:=rfl
@[simp] theorem Nn:lay.tt 128=some ⟨.array 6 127,6,6,(.agg #[(.int .u8 0),(.int .u8 0),(.int .u8 0),(.int .u8 0),(.int .u8 0),(.int .u8 0)]),[]⟩:=rfl
@[simp] theorem No:lay.tt 131=some ⟨.pointer 81,1,8,(.pointer none),[]⟩:=rfl
@[simp] theorem Np:lay.tt 133=some ⟨.struct,1,8,(.agg #[(.int .i64 0)]),[(0,1,35)]⟩:=rfl
@[simp] theorem Km:lay.tt 136=some ⟨.iface,1,16,.nilIface,[]⟩:=rfl
@[simp] theorem Nq:lay.tt 138=some ⟨.pointer 133,1,8,(.pointer none),[]⟩:=rfl
@[simp] theorem Nr:lay.tt 140=some ⟨.struct,1,8,(.agg #[.nilFunc]),[(0,1,34)]⟩:=rfl
@[simp] theorem Kn:lay.tt 141=some ⟨.struct,0,0,(.agg #[]),[]⟩:=rfl
@[simp] theorem Ko:lay.tt 142=some ⟨.struct,0,0,(.agg #[]),[]⟩:=rfl
@[simp] theorem Kr:lay.tt 143=some ⟨.struct,0,0,(.agg #[]),[]⟩:=rfl
@[simp] theorem Ns:lay.tt 144=some ⟨.slice 92,1,24,(.slice none 0 0),[]⟩:=rfl
@[simp] theorem Nt:lay.tt 147=some ⟨.pointer 120,1,8,(.pointer none),[]⟩:=rfl
@[simp] theorem Nu:lay.tt 150=some ⟨.int .i64,1,8,(.int .i64 0),[]⟩:=rfl
@[simp] theorem Nv:lay.tt 154=some ⟨.pointer 106,1,8,(.pointer none),[]⟩:=rfl
@[simp] theorem Nw:lay.tt 165=some ⟨.int .u64,1,8,(.int .u64 0),[]⟩:=rfl
@[simp] theorem Nx:lay.tt 167=some ⟨.struct,3,24,(.agg #[(.pointer none),(.pointer none),(.int .u64 0)]),[(0,1,17),(1,1,149),(2,1,165)]⟩:=rfl
@[simp] theorem Ny:lay.tt 170=some ⟨.iface,1,16,.nilIface,[]⟩:=rfl
@[simp] theorem Nz:lay.tt 172=some ⟨.int .u8,1,1,(.int .u8 0),[]⟩:=rfl
@[simp] theorem NA:lay.tt 183=some ⟨.pointer 110,1,8,(.pointer none),[]⟩:=rfl
@[simp] theorem NB:lay.tt 185=some ⟨.struct,1,8,(.agg #[(.pointer none)]),[(0,1,17)]⟩:=rfl
@[simp] theorem NC:lay.tt 209=some ⟨.struct,4,40,(.agg #[(.pointer none),(.pointer none),(.pointer none),(.string ByteArray.empty)]),[(0,1,17),(1,1,17),(2,1,17),(3,1,9)]⟩:=rfl
@[simp] theorem ND:lay.tt 210=some ⟨.array 0 16,0,0,(.agg #[]),[]⟩:=rfl
@[simp] theorem NE:lay.tt 212=some ⟨.struct,0,0,(.agg #[]),[(0,0,210)]⟩:=rfl
@[simp] theorem NF:lay.tt 214=some ⟨.int .u8,1,1,(.int .u8 0),[]⟩:=rfl
@[simp] theorem NG:lay.tt 215=some ⟨.func,1,8,.nilFunc,[]⟩:=rfl
@[simp] theorem NH:lay.tt 216=some ⟨.pointer 5,1,8,(.pointer none),[]⟩:=rfl
@[simp] theorem NI:lay.tt 217=some ⟨.int .i32,1,4,(.int .i32 0),[]⟩:=rfl
@[simp] theorem NJ:lay.tt 218=some ⟨.int .i32,1,4,(.int .i32 0),[]⟩:=rfl
@[simp] theorem NK:lay.tt 220=some ⟨.struct,11,48,(.agg #[(.int .u64 0),(.int .u64 0),(.int .u32 0),(.int .u8 0),(.int .u8 0),(.int .u8 0),(.int .u8 0),.nilFunc,(.pointer none),(.int .i32 0),(.int .i32 0)]),[(0,1,12),(1,1,12),(2,1,106),(3,1,214),(4,1,5),(5,1,5),(6,1,172),(7,1,215),(8,1,216),(9,1,217),(10,1,218)]⟩:=rfl
@[simp] theorem NL:lay.tt 221=some ⟨.int .u8,1,1,(.int .u8 0),[]⟩:=rfl
end Go.Proofs.YtelgggdkahhhfaaGreatDoor
namespace Go.Proofs.YtelgggdkahhhfaaGreatDoor
open Go.aZ
abbrev OE:List Entry:=[⟨12,.take [0,1,2,3,5,6,7,8] false (.one 4 (.one 9 (.take [10] true (.done))))⟩]
abbrev LR:List Entry:=[⟨7,.take [0,2,6] false (.both 1 (.one 3 (.one 4 (.one 5 (.one 7 (.done))))) (.one 3 (.both 1 (.one 4 (.one 5 (.one 7 (.done)))) (.one 4 (.take [1] true (.one 5 (.one 7 (.done))))))))⟩,⟨15,.take [0,2,5,6,8,11,12,13] false (.both 1 (.take [3,4,14] false (.one 7 (.take [9,10,16] false (.one 15 (.one 17 (.done)))))) (.one 7 (.take [9,10,16] false (.take [1,3,4,14] true (.one 15 (.one 17 (.done)))))))⟩,⟨21,.take [0,2,3,7] false (.both 1 (.one 4 (.one 5 (.one 6 (.one 8 (.done))))) (.one 4 (.both 1 (.one 5 (.one 6 (.one 8 (.done)))) (.one 5 (.take [1] true (.one 6 (.one 8 (.done))))))))⟩]
abbrev If:List Entry:=[⟨8,.take [0,1,2,3,4,5,6] true (.done)⟩]
abbrev LS:List Entry:=[⟨11,.take [0,1,2,3,4,5] false (.one 6 (.one 7 (.take [8,9,10,11,12] true (.done))))⟩]
abbrev LT:List Entry:=[⟨4,.take [0,1,2,3,4,5,6,7,8] true (.done)⟩]
abbrev LU:List Entry:=[⟨3,.take [0,1,2,3,4,5,6,7,8,9] true (.done)⟩,⟨4,.take [0,1,2,3,4,5,6,7,8,9,10,11,12,13,14] true (.take [15] true (.done))⟩,⟨6,.take [0,1,2,3,5,6,7,11,12] false (.take [4,8,9,10] true (.one 13 (.done)))⟩]
abbrev LV:List Entry:=[⟨6,.take [0,1,2,3] true (.done)⟩]
abbrev Ks:List Entry:=[⟨7,.take [0,1,2,3] true (.done)⟩]
abbrev LW:List Entry:=[⟨24,.take [0,1,2,3,4,5,6,7,8,9,10,11,12,13,14,15,16,17,18,19,20,21,22,23,24] true (.done)⟩,⟨29,.take [0,1,2,3,4,5,6,7,8,9,10,11,12,13,14,15,16,17,18,19,20,21,22] true (.done)⟩]
abbrev LX:List Entry:=[⟨8,.take [0,1,2,3,4,5,6,7,8,9,10,11,12,13,14] true (.done)⟩,⟨11,.take [0,1,3,4,5,6,7,8,10] false (.one 2 (.take [9,11] false (.one 12 (.one 13 (.take [14] true (.done))))))⟩,⟨17,.take [0,1,2,3] false (.one 4 (.one 5 (.take [6] true (.done))))⟩]
abbrev LY:List Entry:=[⟨4,.take [0,2,4] false (.take [1] true (.one 3 (.one 5 (.done))))⟩,⟨5,.take [0,1,2] false (.one 3 (.one 4 (.take [5,6,8,9,10,12,15,16,17] false (.both 7 (.both 11 (.both 13 (.both 14 (.one 18 (.one 19 (.take [20,21] true (.done)))) (.one 18 (.one 14 (.one 19 (.take [20,21] true (.done)))))) (.one 18 (.one 13 (.one 14 (.one 19 (.take [20,21] true (.done))))))) (.both 13 (.both 11 (.both 14 (.one 18 (.one 19 (.take [20,21] true (.done)))) (.one 18 (.one 14 (.one 19 (.take [20,21] true (.done)))))) (.one 18 (.one 11 (.one 14 (.one 19 (.take [20,21] true (.done))))))) (.one 18 (.both 11 (.one 13 (.one 14 (.one 19 (.take [20,21] true (.done))))) (.one 13 (.one 11 (.one 14 (.one 19 (.take [20,21] true (.done)))))))))) (.both 11 (.both 7 (.both 13 (.both 14 (.one 18 (.one 19 (.take [20,21] true (.done)))) (.one 18 (.one 14 (.one 19 (.take [20,21] true (.done)))))) (.one 18 (.one 13 (.one 14 (.one 19 (.take [20,21] true (.done))))))) (.both 13 (.both 7 (.both 14 (.one 18 (.one 19 (.take [20,21] true (.done)))) (.one 18 (.one 14 (.one 19 (.take [20,21] true (.done)))))) (.both 14 (.both 7 (.one 18 (.one 19 (.take [20,21] true (.done)))) (.one 18 (.one 7 (.one 19 (.take [20,21] true (.done)))))) (.one 18 (.both 7 (.one 14 (.one 19 (.take [20,21] true (.done)))) (.one 14 (.one 7 (.one 19 (.take [20,21] true (.done))))))))) (.one 18 (.both 7 (.one 13 (.one 14 (.one 19 (.take [20,21] true (.done))))) (.one 13 (.both 7 (.one 14 (.one 19 (.take [20,21] true (.done)))) (.one 14 (.one 7 (.one 19 (.take [20,21] true (.done))))))))))) (.both 13 (.both 7 (.both 11 (.both 14 (.one 18 (.one 19 (.take [20,21] true (.done)))) (.one 18 (.one 14 (.one 19 (.take [20,21] true (.done)))))) (.one 18 (.one 11 (.one 14 (.one 19 (.take [20,21] true (.done))))))) (.both 11 (.both 7 (.both 14 (.one 18 (.one 19 (.take [20,21] true (.done)))) (.one 18 (.one 14 (.one 19 (.take [20,21] true (.done)))))) (.both 14 (.both 7 (.one 18 (.one 19 (.take [20,21] true (.done)))) (.one 18 (.one 7 (.one 19 (.take [20,21] true (.done)))))) (.one 18 (.both 7 (.one 14 (.one 19 (.take [20,21] true (.done)))) (.one 14 (.one 7 (.one 19 (.take [20,21] true (.done))))))))) (.one 18 (.both 7 (.one 11 (.one 14 (.one 19 (.take [20,21] true (.done))))) (.one 11 (.both 7 (.one 14 (.one 19 (.take [20,21] true (.done)))) (.one 14 (.one 7 (.one 19 (.take [20,21] true (.done))))))))))) (.one 18 (.both 7 (.both 11 (.one 13 (.one 14 (.one 19 (.take [20,21] true (.done))))) (.one 13 (.one 11 (.one 14 (.one 19 (.take [20,21] true (.done))))))) (.both 11 (.both 7 (.one 13 (.one 14 (.one 19 (.take [20,21] true (.done))))) (.one 13 (.both 7 (.one 14 (.one 19 (.take [20,21] true (.done)))) (.one 14 (.one 7 (.one 19 (.take [20,21] true (.done)))))))) (.one 13 (.both 7 (.one 11 (.one 14 (.one 19 (.take [20,21] true (.done))))) (.one 11 (.both 7 (.one 14 (.one 19 (.take [20,21] true (.done)))) (.one 14 (.one 7 (.one 19 (.take [20,21] true (.done))))))))))))))))))⟩]
abbrev LZ:List Entry:=[⟨1,.take [0,1,2,3,4,5] true (.one 6 (.done))⟩]
abbrev L0:List Entry:=[⟨3,.take [0,1,2,3] false (.one 4 (.one 5 (.take [6,7,8,9,10] true (.done))))⟩,⟨6,.take [0,1,2,3,4,5] true (.one 6 (.done))⟩]
abbrev L1:List Entry:=[⟨1,.take [0,1,2,3,4,5,6,7,8,9,10,11,12,13,14,15,16,17] false (.one 18 (.take [19] true (.done)))⟩]
abbrev L2:List Entry:=[⟨1,.take [0,1,2,3,4,5,6,7,8,9] true (.done)⟩]
abbrev Kt:List Entry:=[⟨4,.take [0,1,2,3,4,5,6,7,9,10,11,12] false (.both 8 (.one 13 (.one 14 (.take [15,16] true (.done)))) (.one 13 (.one 8 (.one 14 (.take [15,16] true (.done))))))⟩,⟨6,.take [0,1,2,3,4,5,6,7,8,10,11,12,14,16] false (.take [9,13] true (.one 15 (.one 17 (.done))))⟩]
abbrev Ku:List Entry:=[⟨4,.take [0,1,2,3,4,5,6,7,8,9,10,11,12,13,14,15,16,17,18,19,20] true (.done)⟩]
abbrev Kv:List Entry:=[⟨4,.take [0,1,2,3,4,5,6,7,8,9,10,11,12,13,14,15,16,17,18,19,20,21,22] false (.both 23 (.one 24 (.one 25 (.one 26 (.done)))) (.one 24 (.one 23 (.one 25 (.one 26 (.done))))))⟩,⟨5,.take [0,1,2,3,4,5,6,7,8,9,10,11,12,13,14,15,16,17,18,19,20,21,22,23,24,26,27] false (.one 25 (.one 28 (.one 29 (.take [30,31,32] true (.done)))))⟩]
attribute [simp] FJ
abbrev int (n:Int):AV:=.lit (.int .i64 n)
abbrev u8 (n:Int):AV:=.lit (.int .u8 n)
abbrev bool (b:Bool):AV:=.lit (.bool b)
abbrev ints (l:List Int):AV:=.sl 1 (l.map int) .any
abbrev rows (l:List (List Int)):AV:=.sl 1 (l.map ints) .any
structure m7 where
 hour:Int
 place:Int
 gL:Int
 marks:List Int
 bb:Int
 lG:Int
 deriving DecidableEq
structure Fr where
 aB:List m7
 roads:List (List Int)
 eQ:Int
 m8:Int
 iM:Int
 most:Int
 deriving DecidableEq
abbrev gM (e:m7):AV:=.agg [int e.hour,int e.place,int e.gL,ints e.marks,int e.bb,int e.lG]
abbrev rQ (l:List m7):AV:=.sl 6 (l.map gM) .any
abbrev eS (f:Fr):List AV:=[rQ f.aB,rows f.roads,int f.eQ,int f.m8,int f.iM,int f.most]
abbrev bg (f:Fr):AV:=.agg (eS f)
abbrev io (b mb:Nat) (f:Fr) (o:Nat):AV:=.kp b [rQ f.aB,rows f.roads,int f.eQ,int f.m8,int f.iM,int f.most,.lit (.int .i32 0),.lit (.int .u32 0),.map mb] [6,7] o
def dD (a lo hi:Int):Bool:=decide (lo≤a) && decide (a≤hi)
def mC:Option Int->Int->Bool
 | some q,h=>decide (h≤q)
 | none,_=>false
def nZ:Option Int->List Int->Int
 | _,[]=>0
 | p,h :: l=>if dD h 0 4=false then 3 else if mC p h=true then 5 else nZ (some h) l
def cS (places:Int) (e:m7):Int:=
 if dD e.hour 0 72=false then 1 else if dD e.place 0 (places-1)=false then 3 else if dD e.gL 0 5=false then 1 else if nZ none e.marks≠0 then nZ none e.marks
 else if dD e.bb 0 30=false then 1 else if dD e.lG 0 2=false then 8 else 0
def dE (f:m7->Int):List m7->Int
 | []=>0
 | d :: l=>if f d=0 then dE f l else f d
theorem GC (l:List Int) (i:Nat) (h:i<l.length) (p:Option Int):nZ p (l.drop i)=if dD l[i] 0 4=false then 3 else if mC p l[i]=true then 5 else nZ (some l[i]) (l.drop (i+1)):=by
 rw[List.drop_eq_getElem_cons h,nZ]
theorem xj (f:m7->Int) (l:List m7) (i:Nat) (h:i<l.length):dE f (l.drop i)=if f l[i]=0 then dE f (l.drop (i+1)) else f l[i]:=by
 rw[List.drop_eq_getElem_cons h,dE]
theorem vp {α:Type} {l l':List α} {k:Nat} (g:k<l.length) (g':k<l'.length) (h:l.take k=l'.take k) (e:l[k]=l'[k]):l.take (k+1)=l'.take (k+1):=by
 rw[List.take_succ_eq_append_getElem g,List.take_succ_eq_append_getElem g',h,e]
def rd (r:List (List Int)) (i j:Nat):Int:=(r.getD i []).getD j 0
def cO (r:List (List Int)) (i j:Nat):Bool:=rd r i i != 0 || rd r i j != rd r j i || (List.range r.length).any fun k=>decide (rd r i j > rd r i k+rd r k j)
def jj (n:Nat) (l:List Int):Int:=if l.length≠n then 9 else if l.all (dD · 0 9) then 0 else 1
def ed (n:Nat):List (List Int)->Int
 | []=>0
 | l :: r=>if jj n l=0 then ed n r else jj n l
def fW (r:List (List Int)):Int:=
 if r.length<1 then 7 else if 3<r.length then 6 else if ed r.length r≠0 then ed r.length r
 else if (List.range r.length).any (fun i=>(List.range r.length).any fun j=>cO r i j) then 9 else 0
def check (f:Fr):Int:=
 if fW f.roads≠0 then fW f.roads else if (dD f.eQ 0 3 && dD f.m8 0 3)=false then 1 else if f.m8<f.eQ then 5
 else if (dD f.iM 1 6 && dD f.most 1 6)=false then 1 else if (6:Int)<f.aB.length then 6 else dE (cS f.roads.length) f.aB
theorem yB (n:Nat) (l:List (List Int)) (i:Nat) (h:i<l.length):ed n (l.drop i)=if jj n l[i]=0 then ed n (l.drop (i+1)) else jj n l[i]:=by
 rw[List.drop_eq_getElem_cons h,ed]
structure Fr.Fits (f:Fr):Prop where
 aB:f.aB.length<1152921504606846976
 roads:f.roads.length<1152921504606846976
 row:∀ r∈f.roads,r.length<1152921504606846976
 marks:∀ e∈f.aB,e.marks.length<1152921504606846976
def jl (i:Int):List Int->Int->Int
 | [],_ => -1
 | x :: l,v=>if x=v then i else jl (i+1) l v
def GD (l:List Int) (v:Int):Int:=jl 0 l v
theorem AZ (l:List Int) (v:Int) (i:Nat) (h:i<l.length) (c:Int):jl c (l.drop i) v=if l[i]=v then c else jl (c+1) (l.drop (i+1)) v:=by
 rw[List.drop_eq_getElem_cons h,jl]
theorem rR (v:Int):∀ (l:List Int) (i:Int),0≤i->(0≤jl i l v ↔ v∈l)
 | [],i,h=>by simp[jl]
 | x :: l,i,h=>by
   unfold jl;split
   . next e=>subst e;simp[h]
   . next e=>rw[rR v l (i+1) (by omega)];simp[Ne.symm e]
theorem DP (l:List Int) (v:Int):0≤GD l v ↔ v∈l:=rR v l 0 (Int.le_refl _)
def iG (f:Fr) (e:m7):List Int:=if e.lG≠0 then (List.range (f.m8-f.eQ+1).toNat).map fun i:Nat=>e.bb-f.m8+(i:Int) else []
def ci (f:Fr) (e:m7):List Int:=if e.lG≠1∧e.bb ∉ iG f e then iG f e ++ [e.bb] else iG f e
def eT (first:List Int) (others:List (List Int)):List Int:=first.filter fun x=>others.all fun l=>decide (x∈l)
def bR (f:Fr) (i:Int):m7:=f.aB.getD i.toNat ⟨0,0,0,[],0,0⟩
def c8 (f:Fr) (l:List Int):List Int:=match l.map fun i=>ci f (bR f i) with | []=>[] | a :: r=>eT a r
def eZ (f:Fr):Option Int->List Int->Int
 | _,[]=>0
 | p,n :: l=>if dD n 0 (f.aB.length-1)=false then 3 else if mC p n=true then 5 else eZ f (some n) l
def o6 (f:Fr) (l:List Int):Int:=if l.length=0 then 7 else eZ f none l
theorem yC (f:Fr) (l:List Int) (i:Nat) (h:i<l.length) (p:Option Int):eZ f p (l.drop i)=if dD l[i] 0 (f.aB.length-1)=false then 3 else if mC p l[i]=true then 5 else eZ f (some l[i]) (l.drop (i+1)):=by
 rw[List.drop_eq_getElem_cons h,eZ]
abbrev L3 (n:Int):AV:=if n=0 then .lit .nilIface else .kZ 133 (.agg [int n])
def Kw (a b:Int):Int:=IntKind.u8.wrap (((BitVec.ofInt 8 a ||| BitVec.ofInt 8 b).toNat:Nat):Int)
def z6 (a b:Int):Int:=IntKind.u8.wrap (((BitVec.ofInt 8 a &&& BitVec.ofInt 8 b).toNat:Nat):Int)
def rS (a b:Int):Int:=IntKind.u8.wrap (((BitVec.ofInt 8 a ^^^ BitVec.ofInt 8 b).toNat:Nat):Int)
def Hu (a b:Int):Int:=IntKind.u8.wrap (a-b)
theorem xk (a b:Int):me .or .u8 a b=some (.int .u8 (Kw a b)):=rfl
theorem tP (a b:Int):me .and .u8 a b=some (.int .u8 (z6 a b)):=rfl
theorem A6 (a b:Int):me .xor .u8 a b=some (.int .u8 (rS a b)):=rfl
theorem A7 (a b:Int):me .sub .u8 a b=some (.int .u8 (Hu a b)):=rfl
def bo (m n:Int):Int:=Kw m (IntKind.u8.wrap (2 ^ min n.toNat IntKind.u8.bits))
def jP (m n:Int):Bool:=z6 (m.fdiv (2 ^ min n.toNat IntKind.u8.bits)) 1 == 1
def bx (m:Int):List Int:=((List.range 6).map fun n:Nat=>(n:Int)).filter fun n=>jP m n
def bS (l:List Int):Int:=l.foldl bo 0
end Go.Proofs.YtelgggdkahhhfaaGreatDoor
namespace Go.Proofs.YtelgggdkahhhfaaGreatDoor
open Go.aZ Go.Conc
set_option maxHeartbeats 1000000
variable {m:Mo} {σ:aa} {KF:cV->aa->Prop}
theorem ck {a lo hi:Int} (h:KF (.val (bool (dD a lo hi))) σ):ar Tryz.prog m 61 [int a,int lo,int hi] σ KF:=by
 unfold dD at h;refine ar.start lay [] [] 3 Tryz.func61 rfl rfl (by rfl) (by kernel_rfl) ?_
 simp[Tryz.f61];refine sz.intro (fun h1=>?_) (fun h1=>?_) <;> simp[h1]
 . exact .done (by simpa[h1] using h)
 . exact .done (by simpa[h1] using h)
theorem DQ {l:List Int} {v:Int} (hl:l.length<1152921504606846976) (h:KF (.val (int (GD l v))) σ):ar Tryz.prog m 102 [ints l,int v] σ KF:=by
 refine ar.start lay [] [] 2 Tryz.func102 rfl rfl (by rfl) (by kernel_rfl) ?_
 simp[Tryz.f102];refine ab.loop l.length (fun k s => ∃ env,s=⟨env,σ,[],.no⟩∧env 0=ints l∧env 1=int v∧env 7=int l.length∧env 8=int k∧jl 0 l v=jl k (l.drop k) v) ⟨_,rfl,by simp⟩ ?_
 rintro c0 k _ hk ⟨env,rfl,h0,h1,h7,h8,hn⟩ ih
 refine ab.run lay [] ?_;simp[h0,h1,h7,h8];refine aF.intro (fun g1=>?_) (fun g1=>?_) <;> (try simp[-Int.not_lt,-Int.not_le,-Nat.not_lt,-Nat.not_le] at g1) <;> (try simp[h0,h1,h7,h8,g1])
 . rw[AZ l v k g1] at hn
   refine aF.intro (fun g2=>?_) (fun g2=>?_) <;> (try simp[-Int.not_lt,-Int.not_le,-Nat.not_lt,-Nat.not_le] at g2) <;> (try simp[g2] at hn) <;> (try simp[h0,h1,h7,h8,g2]) <;> (try exact .done hn)
   . subst g2
     unfold GD at h;rw[hn] at h;exact .done h
   . exact⟨by omega,ih _ g1 ⟨_,rfl,by simp[h0,h1,h7,h8],by simp[h0,h1,h7,h8],by simp[h0,h1,h7,h8],by simp,by rw[hn,if_neg (fun e=>g2 e.symm)];simp⟩⟩
 . have:k=l.length:=by omega
   subst this;unfold GD at h;rw[hn] at h;simp[jl] at h;exact .done h
theorem il {l:List Int} {v:Int} (hl:l.length<1152921504606846976) (h:KF (.val (bool (decide (v∈l)))) σ):ar Tryz.prog m 69 [ints l,int v] σ KF:=by
 refine ar.start lay [] [] 2 Tryz.func69 rfl rfl (by rfl) (by kernel_rfl) ?_
 simp[Tryz.f69];refine ap Tryz.func102 rfl rfl (DQ hl ?_);refine ab.run lay [] ?_;simp;rw[← decide_eq_decide.2 (DP l v)] at h;exact .done h
theorem jG {a b:List Int} (ha:a.length<1152921504606846976) (hb:b.length<1152921504606846976) (h:KF (.val (bool (decide (a=b)))) σ):ar Tryz.prog m 20 [ints a,ints b] σ KF:=by
 refine ar.start lay [] LT 2 Tryz.func20 rfl rfl (by rfl) (by kernel_rfl) ?_
 simp[Tryz.f20];refine ab.loop a.length (fun k s => ∃ env,s=⟨env,σ,[],.no⟩∧env 0=ints a∧env 1=ints b∧env 5=int k∧k≤b.length∧a.take k=b.take k) ⟨_,rfl,by simp⟩ ?_
 rintro c0 k _ hk ⟨env,rfl,h0,h1,h5,hkb,hn⟩ ih
 refine ab.run lay [] ?_;simp[h0,h1,h5];refine sz.intro (fun g1=>?_) (fun g1=>?_) <;> (try simp[-Int.not_lt,-Int.not_le,-Nat.not_lt,-Nat.not_le] at g1) <;> (try simp[h0,h1,h5,g1])
 . refine aF.intro (fun g2=>?_) (fun g2=>?_) <;> (try simp[-Int.not_lt,-Int.not_le,-Nat.not_lt,-Nat.not_le] at g2) <;> (try simp[h0,h1,h5,g2,g1])
   . refine ab.run lay [] ?_
     simp[h0,h1,h5];refine aF.intro (fun g3=>?_) (fun g3=>?_) <;> (try simp[-Int.not_lt,-Int.not_le,-Nat.not_lt,-Nat.not_le] at g3) <;> (try simp[h0,h1,h5,g3])
     . have:a≠b:=fun e=>by subst e;exact g3 rfl
       simp[this] at h;exact .done h
     . refine⟨by omega,ih _ g1 ⟨_,rfl,by simp[h0,h1,h5],by simp[h0,h1,h5],by simp,by omega,vp g1 g2 hn g3⟩⟩
   . have:a≠b:=fun e=>by subst e;omega
     have e':((a.length:Int) == b.length)=false:=by rw[beq_eq_false_iff_ne];omega
     rw[e'];exact .done (by simpa[this] using h)
 . have:k=a.length:=by omega
   subst this;rw[List.take_length] at hn
   by_cases e:a.length=b.length
   . have:a=b:=by rw[hn,e,List.take_length]
     exact .done (by simpa[this,e] using h)
   . have:a≠b:=fun q=>e (by rw[q])
     have e':((a.length:Int) == b.length)=false:=by rw[beq_eq_false_iff_ne];omega
     rw[e'];exact .done (by simpa[this] using h)
theorem xl {l:List Int} (hl:l.length≤1000000000) (h:∀ a σ',iq σ σ' a 1 (l.map int)->KF (.val a) σ'):ar Tryz.prog m 60 [ints l] σ KF:=by
 refine ar.start lay [] [] 1 Tryz.func60 rfl rfl (by rfl) (by kernel_rfl) ?_
 simp[Tryz.f60];refine ku lay rfl rfl rfl dz rfl dz rfl tO (by decide) (by simp;omega) (σ0:=σ) (es:=[]) (xs:=l.map int) (.empty σ 1) (.inl (.inr ⟨_,rfl⟩)) (by simp) fun a' σ' ht=>?_
 refine ab.run lay [] ?_;simp;exact .done (h _ _ (by simpa using ht))
theorem xm {n:Int} (h:KF (.val (bool false)) σ):ar Tryz.prog m 112 [int n] σ KF:=by
 refine ar.start lay [] [] 1 Tryz.func112 rfl rfl (by rfl) (by kernel_rfl) ?_
 simp[Tryz.f112];exact .done h
def vq (x y:Int):Int:=if x<y then -1 else if y<x then 1 else 0
theorem yD {x y:Int} (h:KF (.val (int (vq x y))) σ):ar Tryz.prog m 81 [int x,int y] σ KF:=by
 unfold vq at h;refine ar.start lay [] [] 2 Tryz.func81 rfl rfl (by rfl) (by kernel_rfl) ?_
 simp[Tryz.f81];refine ap Tryz.func112 rfl rfl (xm ?_);refine ab.run lay [] ?_;simp;refine ap Tryz.func112 rfl rfl (xm ?_);refine ab.run lay [] ?_;simp;refine aF.intro (fun g1=>?_) (fun g1=>?_) <;> (try simp[-Int.not_lt,-Int.not_le,-Nat.not_lt,-Nat.not_le] at g1) <;> (try simp[g1] at h) <;> (try simp[g1]) <;> (try exact .done h)
 refine aF.intro (fun g2=>?_) (fun g2=>?_) <;> (try simp[-Int.not_lt,-Int.not_le,-Nat.not_lt,-Nat.not_le] at g2) <;> (try simp[g2] at h) <;> (try simp[g2]) <;> (try exact .done h)
theorem A8 {l:List Int} (hl:l.length<1152921504606846976) (hb:∀ x∈l,-1≤x∧x≤1000) (h:KF (.val (int (l.foldl (fun n k=>max n (k+1)) 0))) σ):ar Tryz.prog m 47 [ints l] σ KF:=by
 refine ar.start lay [] [] 1 Tryz.func47 rfl rfl (by rfl) (by kernel_rfl) ?_
 simp[Tryz.f47];refine ab.loop l.length (fun k s => ∃ env,s=⟨env,σ,[],.no⟩∧env 3=int ((l.take k).foldl (fun n k=>max n (k+1)) 0)∧env 6=ints l∧env 7=int l.length∧env 8=int k) ⟨_,rfl,by simp⟩ ?_
 rintro c0 k _ hk ⟨env,rfl,h3,h6,h7,h8⟩ ih
 refine ab.run lay [] ?_;simp[h3,h6,h7,h8];refine aF.intro (fun g1=>?_) (fun g1=>?_) <;> (try simp[-Int.not_lt,-Int.not_le,-Nat.not_lt,-Nat.not_le] at g1) <;> (try simp[h3,h6,h7,h8,g1])
 . have:=hb _ (List.getElem_mem g1)
   refine⟨by omega,?_⟩
   refine⟨by omega,ih _ g1 ⟨_,rfl,?_,by simp[h3,h6,h7,h8],by simp[h3,h6,h7,h8],by simp⟩⟩
   rw[List.take_succ_eq_append_getElem g1,List.foldl_append];simp[h3];split <;> omega
 . have:k=l.length:=by omega
   subst this;rw[List.take_length];exact .done h
end Go.Proofs.YtelgggdkahhhfaaGreatDoor
namespace Go.Proofs.YtelgggdkahhhfaaGreatDoor
open Go.aZ Go.Conc
set_option maxHeartbeats 1000000
variable {m:Mo} {σ:aa} {KF:cV->aa->Prop}
theorem sK {e:m7} {places:Int} (hp:0≤places∧places<1152921504606846976) (hm:e.marks.length<1152921504606846976) (h:KF (.val (int (cS places e))) σ):ar Tryz.prog m 68 [gM e,int places] σ KF:=by
 unfold cS at h;refine ar.start lay [] [] 2 Tryz.func68 rfl rfl (by rfl) (by kernel_rfl) ?_
 simp[Tryz.f68];refine ap Tryz.func61 rfl rfl (ck ?_);refine ab.run lay [] ?_;simp;refine aF.intro (fun g1=>?_) (fun g1=>?_) <;> (try simp[-Int.not_lt,-Int.not_le,-Nat.not_lt,-Nat.not_le] at g1) <;> (try simp[g1] at h) <;> (try simp[g1]) <;> (try exact .done h)
 refine⟨by omega,?_⟩
 refine ap Tryz.func61 rfl rfl (ck ?_);refine ab.run lay [] ?_;simp;refine aF.intro (fun g2=>?_) (fun g2=>?_) <;> (try simp[-Int.not_lt,-Int.not_le,-Nat.not_lt,-Nat.not_le] at g2) <;> (try simp[g2] at h) <;> (try simp[g2]) <;> (try exact .done h)
 refine ap Tryz.func61 rfl rfl (ck ?_);refine ab.run lay [] ?_;simp;refine aF.intro (fun g3=>?_) (fun g3=>?_) <;> (try simp[-Int.not_lt,-Int.not_le,-Nat.not_lt,-Nat.not_le] at g3) <;> (try simp[g3] at h) <;> (try simp[g3]) <;> (try exact .done h)
 refine ab.loop e.marks.length (fun k s => ∃ env,s=⟨env,σ,[],.no⟩∧env 2 = .cp (gM e) 0∧env 22=ints e.marks∧env 23=int e.marks.length∧env 24=int k∧nZ none e.marks=nZ (if k=0 then none else e.marks[k-1]?) (e.marks.drop k)) ⟨_,rfl,by simp⟩ ?_
 rintro c0 k _ hk ⟨env,rfl,h2,h22,h23,h24,hn⟩ ih
 refine ab.run lay [] ?_;simp[h2,h22,h23,h24];refine aF.intro (fun g4=>?_) (fun g4=>?_) <;> (try simp[-Int.not_lt,-Int.not_le,-Nat.not_lt,-Nat.not_le] at g4) <;> (try simp[h2,h22,h23,h24,g4])
 . rw [GC _ k g4] at hn
   refine ap Tryz.func61 rfl rfl (ck ?_);refine ab.run lay [] ?_;simp[h2,h22,h23,h24];refine aF.intro (fun g5=>?_) (fun g5=>?_) <;> (try simp[-Int.not_lt,-Int.not_le,-Nat.not_lt,-Nat.not_le] at g5) <;> (try simp[g5] at hn) <;> (try simp[h2,h22,h23,h24,g5]) <;> (try exact .done hn)
   . refine sz.intro (fun g6=>?_) (fun g6=>?_) <;> (try simp[-Int.not_lt,-Int.not_le,-Nat.not_lt,-Nat.not_le] at g6) <;> (try simp[g6] at hn) <;> (try simp[h2,h22,h23,h24,g6,g4]) <;> (try exact .done hn)
     . have e0:(k:Int)-1=((k-1:Nat):Int):=by omega
       have e1:k-1<e.marks.length:=by omega
       have e2 : ¬ k=0:=by omega
       simp[e0,e1]
       repeat refine⟨by omega,?_⟩
       try simp[e1,e2,mC] at hn
       refine aF.intro (fun g7=>?_) (fun g7=>?_) <;> (try simp[-Int.not_lt,-Int.not_le,-Nat.not_lt,-Nat.not_le] at g7) <;> (try simp[g7] at hn) <;> (try simp[h2,h22,h23,h24,g7]) <;> (try exact .done hn)
       . simp[hn] at h
         exact .done h
       . refine⟨by omega,ih _ g4 ⟨_,rfl,by simp[h2,h22,h23,h24],by simp[h2,h22,h23,h24],by simp[h2,h22,h23,h24],by simp,?_⟩⟩
         simp[hn,g4]
     . have g8:k=0:=by omega
       subst g8;simp[mC] at hn;refine⟨by omega,ih _ g4 ⟨_,rfl,by simp[h2,h22,h23,h24],by simp[h2,h22,h23,h24],by simp[h2,h22,h23,h24],by simp,?_⟩⟩
       simp[hn,g4]
   . simp[hn] at h
     exact .done h
 . have:k=e.marks.length:=by omega
   subst this;simp[nZ] at hn;simp[hn] at h;refine ap Tryz.func61 rfl rfl (ck ?_);refine ab.run lay [] ?_;simp[h2,h22,h23,h24];refine aF.intro (fun g5=>?_) (fun g5=>?_) <;> (try simp[-Int.not_lt,-Int.not_le,-Nat.not_lt,-Nat.not_le] at g5) <;> (try simp[g5] at h) <;> (try simp[h2,h22,h23,h24,g5]) <;> (try exact .done h)
   refine ap Tryz.func61 rfl rfl (ck ?_);refine ab.run lay [] ?_;simp[h2,h22,h23,h24];refine aF.intro (fun g6=>?_) (fun g6=>?_) <;> (try simp[-Int.not_lt,-Int.not_le,-Nat.not_lt,-Nat.not_le] at g6) <;> (try simp[g6] at h) <;> (try simp[h2,h22,h23,h24,g6]) <;> (try exact .done h)
end Go.Proofs.YtelgggdkahhhfaaGreatDoor
namespace Go.Proofs.YtelgggdkahhhfaaGreatDoor
open Go.aZ Go.Conc
set_option maxHeartbeats 1000000
variable {m:Mo} {σ:aa} {KF:cV->aa->Prop}
theorem iN {n:Nat}:∀ {r:List (List Int)},ed n r=0->∀ l∈r,l.length=n∧∀ x∈l,dD x 0 9=true
 | [],_,l,hl=>by simp at hl
 | a :: r,h,l,hl=>by
   unfold ed at h;split at h
   . next h0=>
     rcases List.mem_cons.1 hl with rfl|hl
     . unfold jj at h0
       split at h0
       . cases h0
       . next h1=>
         split at h0
         . next h2=>exact⟨by simpa using h1,fun x hx=>List.all_eq_true.1 h2 x hx⟩
         . cases h0
     . exact iN h l hl
   . next h0=>exact absurd h h0
theorem kl {r:List (List Int)} {i j:Nat} (hi:i<r.length) (hj:j<r[i].length):rd r i j=r[i][j]:=by
 simp[rd,List.getD_eq_getElem?_getD,hi,hj]
theorem fX {a lo hi:Int} (h:dD a lo hi=true):lo≤a∧a≤hi:=by simpa[dD] using h
theorem sL {r:List (List Int)} (hr:r.length<1152921504606846976) (hl:∀ l∈r,l.length<1152921504606846976) (h:KF (.val (int (fW r))) σ):ar Tryz.prog m 67 [rows r] σ KF:=by
 unfold fW at h;refine ar.start lay [] LW 1 Tryz.func67 rfl rfl (by rfl) (by kernel_rfl) ?_
 simp[Tryz.f67];refine aF.intro (fun g1=>?_) (fun g1=>?_) <;> simp at g1 <;> simp[g1]
 . rw[if_pos (show r.length<1 by omega)] at h
   exact .done h
 refine aF.intro (fun g2=>?_) (fun g2=>?_) <;> simp at g2 <;> simp[g2]
 . have e1 : ¬ r.length<1:=by omega
   have e2:3<r.length:=by omega
   rw[if_neg (show ¬ r.length<1 by omega),if_pos e2] at h
   exact .done h
 have e1 : ¬ r.length<1:=by omega
 have e2 : ¬ 3<r.length:=by omega
 rw[if_neg e1,if_neg e2] at h;refine ab.loop r.length (fun k s => ∃ env,s=⟨env,σ,[],.no⟩∧env 0=rows r∧env 19=rows r∧env 20=int r.length∧env 21=int k∧ed r.length r=ed r.length (r.drop k)) ⟨_,rfl,by simp⟩ ?_
 rintro c0 k _ hk ⟨env,rfl,h0,h19,h20,h21,hn⟩ ih
 refine ab.run lay [] ?_;simp[h0,h19,h20,h21];refine aF.intro (fun g4=>?_) (fun g4=>?_) <;> (try simp[-Int.not_lt,-Int.not_le,-Nat.not_lt,-Nat.not_le] at g4) <;> (try simp[h0,h19,h20,h21,g4])
 . rw [yB _ _ k g4] at hn
   obtain⟨l,hlk⟩:∃ l,l=r[k]:=⟨_,rfl⟩;simp only[← hlk] at hn ⊢;have hl':l.length<1152921504606846976:=hl l (by rw[hlk];exact List.getElem_mem g4)
   refine aF.intro (fun g5=>?_) (fun g5=>?_) <;> simp at g5 <;> simp[g5]
   . have g5':l.length≠r.length:=fun e=>g5 (by rw[e])
     simp[jj,g5'] at hn;simp[hn] at h;exact .done h
   have g5':l.length=r.length:=by omega
   refine ab.loop l.length (fun j s => ∃ env,s=⟨env,σ,[],.no⟩∧env 0=rows r∧env 19=rows r∧env 20=int r.length∧env 21=int k∧env 30=ints l∧env 31=int l.length∧env 32=int j∧(l.take j).all (dD · 0 9)=true) ⟨_,rfl,by simp[h0,h19,h20,h21,g5',← hlk]⟩ ?_
   clear h0 h19 h20 h21
   rintro c1 j _ hj ⟨env,rfl,h0,h19,h20,h21,h30,h31,h32,hall⟩ ih2
   refine ab.run lay [] ?_;simp[h0,h19,h20,h21,h30,h31,h32];refine aF.intro (fun g6=>?_) (fun g6=>?_) <;> (try simp[-Int.not_lt,-Int.not_le,-Nat.not_lt,-Nat.not_le] at g6) <;> (try simp[h0,h19,h20,h21,h30,h31,h32,g6])
   . refine ap Tryz.func61 rfl rfl (ck ?_)
     refine ab.run lay [] ?_;simp[h0,h19,h20,h21,h30,h31,h32];refine aF.intro (fun g7=>?_) (fun g7=>?_) <;> (try simp[-Int.not_lt,-Int.not_le,-Nat.not_lt,-Nat.not_le] at g7) <;> (try simp[h0,h19,h20,h21,h30,h31,h32,g7])
     . refine⟨by omega,ih2 _ g6 ⟨_,rfl,by simp[h0,h19,h20,h21,h30,h31,h32],by simp[h0,h19,h20,h21,h30,h31,h32],by simp[h0,h19,h20,h21,h30,h31,h32],by simp[h0,h19,h20,h21,h30,h31,h32],by simp[h0,h19,h20,h21,h30,h31,h32],by simp[h0,h19,h20,h21,h30,h31,h32],by simp,?_⟩⟩
       rw[List.take_succ_eq_append_getElem g6,List.all_append,hall];simp[g7]
     . have:l.all (dD · 0 9)=false:=by
        rw[List.all_eq_false];exact⟨_,List.getElem_mem g6,by simp[g7]⟩
       simp[jj,g5',this] at hn;simp[hn] at h;exact .done h
   . have:j=l.length:=by omega
     subst this;rw[List.take_length] at hall;have h0':jj r.length l=0:=by unfold jj;rw[if_neg (by simp[g5']),if_pos hall]
     rw[if_pos h0'] at hn;exact⟨by omega,ih _ g4 ⟨_,rfl,by simp[h0,h19,h20,h21,h30,h31,h32],by simp[h0,h19,h20,h21,h30,h31,h32],by simp[h0,h19,h20,h21,h30,h31,h32],by simp,hn⟩⟩
 have:k=r.length:=by omega
 subst this;simp[ed] at hn;rw[if_neg (by rw[hn];simp)] at h
 clear ih;have hrow:∀ (i:Nat) (hi:i<r.length),r[i].length=r.length:=fun i hi=>(iN hn _ (List.getElem_mem hi)).1
 have hbd:∀ (i:Nat) (hi:i<r.length) (j:Nat) (hj:j<r[i].length),0≤r[i][j]∧r[i][j]≤9:=fun i hi j hj=>fX ((iN hn _ (List.getElem_mem hi)).2 _ (List.getElem_mem hj))
 refine ab.loop r.length (fun i s => ∃ env,s=⟨env,σ,[],.no⟩∧env 0=rows r∧env 41=rows r∧env 42=int r.length∧env 43=int i∧∀ i'<i,∀ j<r.length,cO r i' j=false) ⟨_,rfl,by simp[h0]⟩ ?_
 clear h0 h19 h20 h21
 rintro c1 i _ hi ⟨env,rfl,h0,h41,h42,h43,hgood⟩ ih
 refine ab.run lay [] ?_;simp[h0,h41,h42,h43];refine aF.intro (fun g5=>?_) (fun g5=>?_) <;> (try simp[-Int.not_lt,-Int.not_le,-Nat.not_lt,-Nat.not_le] at g5) <;> (try simp[h0,h41,h42,h43,g5])
 . refine ab.loop r.length (fun j s => ∃ env,s=⟨env,σ,[],.no⟩∧env 0=rows r∧env 41=rows r∧env 42=int r.length∧env 43=int i∧env 8=int i∧env 46=rows r∧env 47=int r.length∧env 48=int j∧∀ j'<j,cO r i j'=false) ⟨_,rfl,by simp[h0,h41,h42,h43]⟩ ?_
   clear h0 h41 h42 h43
   rintro c2 j _ hj ⟨env,rfl,h0,h41,h42,h43,h8,h46,h47,h48,hgj⟩ ih2
   refine ab.run lay [] ?_;simp[h0,h41,h42,h43,h8,h46,h47,h48];refine aF.intro (fun g6=>?_) (fun g6=>?_) <;> (try simp[-Int.not_lt,-Int.not_le,-Nat.not_lt,-Nat.not_le] at g6) <;> (try simp[h0,h41,h42,h43,h8,h46,h47,h48,g6])
   . have q1 : i<r[i].length:=by rw[hrow i g5];exact g5
     have q2:j<r[i].length:=by rw[hrow i g5];exact g6
     have q3:i<r[j].length:=by rw[hrow j g6];exact g5
     simp[h0,h41,h42,h43,h8,h46,h47,h48,g5,g6,q1,q2,q3];refine FB.intro (fun g7=>?_) (fun g7=>?_) <;> (try simp[-Int.not_lt,-Int.not_le,-Nat.not_lt,-Nat.not_le] at g7) <;> (try simp[h0,h41,h42,h43,h8,h46,h47,h48,g7,g5,g6,q1,q2,q3])
     . refine ab.run lay [] ?_
       simp[h0,h41,h42,h43,h8,h46,h47,h48];refine aF.intro (fun g8=>?_) (fun g8=>?_) <;> (try simp[-Int.not_lt,-Int.not_le,-Nat.not_lt,-Nat.not_le] at g8) <;> (try simp[h0,h41,h42,h43,h8,h46,h47,h48,g8])
       ·
        have hb:cO r i j=true:=by
         unfold cO;rw[kl g5 q2,kl g6 q3];simp[g8]
        have:((List.range r.length).any fun i=>(List.range r.length).any fun j=>cO r i j)=true:=List.any_eq_true.2 ⟨i,List.mem_range.2 g5,List.any_eq_true.2 ⟨j,List.mem_range.2 g6,hb⟩⟩
        rw[if_pos this] at h;exact .done h
       . refine ab.loop r.length (fun k s => ∃ env,s=⟨env,σ,[],.no⟩∧env 0=rows r∧env 41=rows r∧env 42=int r.length∧env 43=int i∧env 8=int i∧env 46=rows r∧env 47=int r.length∧env 48=int j∧env 9=int j∧env 76=rows r∧env 77=int r.length∧env 78=int k∧∀ k'<k,¬ rd r i j > rd r i k'+rd r k' j) ⟨_,rfl,by simp[h0,h41,h42,h43,h8,h46,h47,h48]⟩ ?_
         clear h0 h41 h42 h43 h8 h46 h47 h48
         rintro c3 k _ hk ⟨env,rfl,h0,h41,h42,h43,h8,h46,h47,h48,h9,h76,h77,h78,hgk⟩ ih3
         refine ab.run lay [] ?_;simp[h0,h41,h42,h43,h8,h46,h47,h48,h9,h76,h77,h78];refine aF.intro (fun g9=>?_) (fun g9=>?_) <;> (try simp[-Int.not_lt,-Int.not_le,-Nat.not_lt,-Nat.not_le] at g9) <;> (try simp[h0,h41,h42,h43,h8,h46,h47,h48,h9,h76,h77,h78,g9])
         . have p1:k<r[i].length:=by rw[hrow i g5];exact g9
           have p2:j<r[k].length:=by rw[hrow k g9];exact g6
           have b1:=hbd i g5 k p1;have b2:=hbd k g9 j p2;have f1 : -9223372036854775808≤r[i][k]+r[k][j]:=by omega
           have f2:r[i][k]+r[k][j]≤9223372036854775807:=by omega
           simp[h0,h41,h42,h43,h8,h46,h47,h48,h9,h76,h77,h78,g5,g6,g9,q2,p1,p2,f1,f2];refine ab.run lay [] ?_;simp[h0,h41,h42,h43,h8,h46,h47,h48,h9,h76,h77,h78];refine aF.intro (fun g10=>?_) (fun g10=>?_) <;> (try simp[-Int.not_lt,-Int.not_le,-Nat.not_lt,-Nat.not_le] at g10) <;> (try simp[h0,h41,h42,h43,h8,h46,h47,h48,h9,h76,h77,h78,g10])
           . have hb:cO r i j=true:=by
              unfold cO;have:((List.range r.length).any fun k=>decide (rd r i j > rd r i k+rd r k j))=true:=List.any_eq_true.2 ⟨k,List.mem_range.2 g9,by rw[kl g5 q2,kl g5 p1,kl g9 p2];simpa using g10⟩
              rw[this];simp
             have:((List.range r.length).any fun i=>(List.range r.length).any fun j=>cO r i j)=true:=List.any_eq_true.2 ⟨i,List.mem_range.2 g5,List.any_eq_true.2 ⟨j,List.mem_range.2 g6,hb⟩⟩
             rw[if_pos this] at h;exact .done h
           . refine⟨by omega,ih3 _ g9 ⟨_,rfl,by simp[h0,h41,h42,h43,h8,h46,h47,h48,h9,h76,h77,h78],by simp[h0,h41,h42,h43,h8,h46,h47,h48,h9,h76,h77,h78],by simp[h0,h41,h42,h43,h8,h46,h47,h48,h9,h76,h77,h78],by simp[h0,h41,h42,h43,h8,h46,h47,h48,h9,h76,h77,h78],by simp[h0,h41,h42,h43,h8,h46,h47,h48,h9,h76,h77,h78],by simp[h0,h41,h42,h43,h8,h46,h47,h48,h9,h76,h77,h78],by simp[h0,h41,h42,h43,h8,h46,h47,h48,h9,h76,h77,h78],by simp[h0,h41,h42,h43,h8,h46,h47,h48,h9,h76,h77,h78],by simp[h0,h41,h42,h43,h8,h46,h47,h48,h9,h76,h77,h78],by simp[h0,h41,h42,h43,h8,h46,h47,h48,h9,h76,h77,h78],by simp[h0,h41,h42,h43,h8,h46,h47,h48,h9,h76,h77,h78],by simp,fun k' hk'=>?_⟩⟩
             by_cases e:k'=k
             . subst e
               rw[kl g5 q2,kl g5 p1,kl g9 p2];omega
             . exact hgk k' (by omega)
         . have:k=r.length:=by omega
           subst this;refine⟨by omega,ih2 _ g6 ⟨_,rfl,by simp[h0,h41,h42,h43,h8,h46,h47,h48,h9,h76,h77,h78],by simp[h0,h41,h42,h43,h8,h46,h47,h48,h9,h76,h77,h78],by simp[h0,h41,h42,h43,h8,h46,h47,h48,h9,h76,h77,h78],by simp[h0,h41,h42,h43,h8,h46,h47,h48,h9,h76,h77,h78],by simp[h0,h41,h42,h43,h8,h46,h47,h48,h9,h76,h77,h78],by simp[h0,h41,h42,h43,h8,h46,h47,h48,h9,h76,h77,h78],by simp[h0,h41,h42,h43,h8,h46,h47,h48,h9,h76,h77,h78],by simp,fun j' hj'=>?_⟩⟩
           by_cases e:j'=j
           . subst e
             unfold cO
             have e1:((List.range r.length).any fun k=>decide (rd r i j' > rd r i k+rd r k j'))=false:=by
              rw[List.any_eq_false];intro k hk;simpa using hgk k (List.mem_range.1 hk)
             have e2:rd r i i=0:=by rw[kl g5 q1];exact g7
             have e3:rd r i j'=rd r j' i:=by rw[kl g5 q2,kl g6 q3];exact g8
             rw[e1,e2,e3];simp
           . exact hgj j' (by omega)
     . have e:(r[i][i] != 0)=true:=by simp[g7]
       simp[h0,h41,h42,h43,h8,h46,h47,h48,e];refine ab.run lay [] ?_;simp[h0,h41,h42,h43,h8,h46,h47,h48]
       have hb:cO r i j=true:=by
        unfold cO;rw[kl g5 q1];simp[g7]
       have:((List.range r.length).any fun i=>(List.range r.length).any fun j=>cO r i j)=true:=List.any_eq_true.2 ⟨i,List.mem_range.2 g5,List.any_eq_true.2 ⟨j,List.mem_range.2 g6,hb⟩⟩
       rw[if_pos this] at h;exact .done h
   . have:j=r.length:=by omega
     subst this;refine⟨by omega,ih _ g5 ⟨_,rfl,by simp[h0,h41,h42,h43,h8,h46,h47,h48],by simp[h0,h41,h42,h43,h8,h46,h47,h48],by simp[h0,h41,h42,h43,h8,h46,h47,h48],by simp,fun i' hi' j hj'=>?_⟩⟩
     by_cases e:i'=i
     . subst e;exact hgj j hj'
     . exact hgood i' (by omega) j hj'
 . have:i=r.length:=by omega
   subst this
   have:((List.range r.length).any fun i=>(List.range r.length).any fun j=>cO r i j)=false:=by
    rw[List.any_eq_false];intro i hi;rw[Bool.not_eq_true,List.any_eq_false];intro j hj;rw[hgood i (List.mem_range.1 hi) j (List.mem_range.1 hj)];simp
   rw[this] at h;exact .done (by simpa using h)
end Go.Proofs.YtelgggdkahhhfaaGreatDoor

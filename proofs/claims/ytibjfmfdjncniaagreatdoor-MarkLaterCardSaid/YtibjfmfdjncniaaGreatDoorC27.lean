/- Part 27 of the proof. -/
import Derived.Test.YtibjfmfdjncniaaGreatDoorProg
import Derived.Test.YtibjfmfdjncniaaGreatDoorC26
set_option linter.all false
namespace Go.Proofs.YtibjfmfdjncniaaGreatDoor
open Go.Pal
set_option maxRecDepth 100000
def tyList:List (Nat × TI):=[
  (1,⟨.func,1,8,.nilFunc,[]⟩),
  (2,⟨.int .i64,1,8,(.int .i64 0),[]⟩),
  (3,⟨.int .i64,1,8,(.int .i64 0),[]⟩),
  (4,⟨.bool,1,1,(.bool false),[]⟩),
  (5,⟨.int .u8,1,1,(.int .u8 0),[]⟩),
  (6,⟨.int .u8,1,1,(.int .u8 0),[]⟩),
  (7,⟨.struct,4,24,(.agg #[(.int .i64 0),(.int .i64 0),(.bool false),(.int .u8 0)]),[(0,1,2),(1,1,3),(2,1,4),(3,1,6)]⟩),
  (8,⟨.struct,4,24,(.agg #[(.int .i64 0),(.int .i64 0),(.bool false),(.int .u8 0)]),[(0,1,2),(1,1,3),(2,1,4),(3,1,6)]⟩),
  (9,⟨.string,1,16,(.string ByteArray.empty),[]⟩),
  (10,⟨.string,1,16,(.string ByteArray.empty),[]⟩),
  (11,⟨.string,1,16,(.string ByteArray.empty),[]⟩),
  (12,⟨.int .u64,1,8,(.int .u64 0),[]⟩),
  (13,⟨.struct,2,24,(.agg #[(.string ByteArray.empty),(.int .u64 0)]),[(0,1,9),(1,1,12)]⟩),
  (14,⟨.struct,2,24,(.agg #[(.string ByteArray.empty),(.int .u64 0)]),[(0,1,9),(1,1,12)]⟩),
  (15,⟨.pointer 191,1,8,(.pointer none),[]⟩),
  (16,⟨.pointer 194,1,8,(.pointer none),[]⟩),
  (17,⟨.pointer 202,1,8,(.pointer none),[]⟩),
  (18,⟨.struct,1,8,(.agg #[(.pointer none)]),[(0,1,17)]⟩),
  (19,⟨.struct,1,8,(.agg #[(.pointer none)]),[(0,1,17)]⟩),
  (20,⟨.iface,1,16,.nilIface,[]⟩),
  (21,⟨.int .i32,1,4,(.int .i32 0),[]⟩),
  (22,⟨.slice 3,1,24,(.slice none 0 0),[]⟩),
  (23,⟨.slice 45,1,24,(.slice none 0 0),[]⟩),
  (24,⟨.slice 22,1,24,(.slice none 0 0),[]⟩),
  (25,⟨.struct,2,16,(.agg #[(.int .i64 0),(.int .i64 0)]),[(0,1,3),(1,1,3)]⟩),
  (26,⟨.struct,2,16,(.agg #[(.int .i64 0),(.int .i64 0)]),[(0,1,3),(1,1,3)]⟩),
  (27,⟨.struct,6,80,(.agg #[(.slice none 0 0),(.slice none 0 0),(.int .i64 0),(.int .i64 0),(.int .i64 0),(.int .i64 0)]),[(0,1,23),(1,1,24),(2,2,26),(4,1,3),(5,1,3)]⟩),
  (28,⟨.struct,6,80,(.agg #[(.slice none 0 0),(.slice none 0 0),(.int .i64 0),(.int .i64 0),(.int .i64 0),(.int .i64 0)]),[(0,1,23),(1,1,24),(2,2,26),(4,1,3),(5,1,3)]⟩),
  (29,⟨.func,1,8,.nilFunc,[]⟩),
  (30,⟨.pointer 53,1,8,(.pointer none),[]⟩),
  (31,⟨.func,1,8,.nilFunc,[]⟩),
  (32,⟨.int .i64,1,8,(.int .i64 0),[]⟩),
  (34,⟨.func,1,8,.nilFunc,[]⟩),
  (37,⟨.func,1,8,.nilFunc,[]⟩),
  (39,⟨.func,1,8,.nilFunc,[]⟩),
  (40,⟨.func,1,8,.nilFunc,[]⟩),
  (41,⟨.func,1,8,.nilFunc,[]⟩),
  (42,⟨.func,1,8,.nilFunc,[]⟩),
  (45,⟨.struct,6,64,(.agg #[(.int .i64 0),(.int .i64 0),(.int .i64 0),(.slice none 0 0),(.int .i64 0),(.int .i64 0)]),[(0,1,3),(1,1,3),(2,1,3),(3,1,22),(4,1,3),(5,1,3)]⟩),
  (47,⟨.func,1,8,.nilFunc,[]⟩),
  (48,⟨.func,1,8,.nilFunc,[]⟩),
  (51,⟨.int .u64,1,8,(.int .u64 0),[]⟩),
  (53,⟨.struct,3,40,(.agg #[(.slice none 0 0),(.int .i64 0),(.int .u64 0)]),[(0,1,22),(1,1,3),(2,1,51)]⟩),
  (54,⟨.func,1,8,.nilFunc,[]⟩),
  (55,⟨.func,1,8,.nilFunc,[]⟩),
  (56,⟨.pointer 91,1,8,(.pointer none),[]⟩),
  (72,⟨.struct,3,40,(.agg #[(.slice none 0 0),(.int .i64 0),(.bool false)]),[(0,1,22),(1,1,3),(2,1,4)]⟩),
  (81,⟨.func,1,8,.nilFunc,[]⟩),
  (82,⟨.map 108 4,1,8,(.map none),[]⟩),
  (84,⟨.struct,0,0,(.agg #[]),[]⟩),
  (85,⟨.int .u32,1,4,(.int .u32 0),[]⟩),
  (87,⟨.struct,2,8,(.agg #[(.int .i32 0),(.int .u32 0)]),[(0,1,21),(1,1,85)]⟩),
  (88,⟨.struct,2,8,(.agg #[(.int .i32 0),(.int .u32 0)]),[(0,0,84),(0,2,87)]⟩),
  (89,⟨.struct,2,8,(.agg #[(.int .i32 0),(.int .u32 0)]),[(0,0,84),(0,2,87)]⟩),
  (91,⟨.struct,9,96,(.agg #[(.slice none 0 0),(.slice none 0 0),(.int .i64 0),(.int .i64 0),(.int .i64 0),(.int .i64 0),(.int .i32 0),(.int .u32 0),(.map none)]),[(0,6,28),(6,2,89),(8,1,82)]⟩),
  (92,⟨.func,1,8,.nilFunc,[]⟩),
  (93,⟨.chan 3,1,8,(.chan none),[]⟩),
  (94,⟨.struct,0,0,(.agg #[]),[]⟩),
  (95,⟨.struct,0,0,(.agg #[]),[]⟩),
  (97,⟨.struct,1,8,(.agg #[(.int .u64 0)]),[(0,0,94),(0,0,95),(0,1,51)]⟩),
  (99,⟨.struct,2,16,(.agg #[(.int .u64 0),(.int .u32 0)]),[(0,0,84),(0,1,97),(1,1,85)]⟩),
  (101,⟨.func,1,8,.nilFunc,[]⟩),
  (103,⟨.iface,1,16,.nilIface,[]⟩),
  (106,⟨.int .u64,1,8,(.int .u64 0),[]⟩),
  (108,⟨.struct,1,1,(.agg #[(.int .u8 0)]),[(0,1,5)]⟩),
  (109,⟨.array 6 108,6,6,(.agg #[(.int .u8 0),(.int .u8 0),(.int .u8 0),(.int .u8 0),(.int .u8 0),(.int .u8 0)]),[]⟩),
  (110,⟨.func,1,8,.nilFunc,[]⟩),
  (112,⟨.pointer 72,1,8,(.pointer none),[]⟩),
  (113,⟨.pointer 99,1,8,(.pointer none),[]⟩),
  (114,⟨.func,1,8,.nilFunc,[]⟩),
  (116,⟨.int .i64,1,8,(.int .i64 0),[]⟩),
  (120,⟨.pointer 85,1,8,(.pointer none),[]⟩),
  (121,⟨.func,1,8,.nilFunc,[]⟩),
  (128,⟨.struct,1,8,(.agg #[(.int .i64 0)]),[(0,1,32)]⟩),
  (131,⟨.iface,1,16,.nilIface,[]⟩),
  (133,⟨.pointer 128,1,8,(.pointer none),[]⟩),
  (135,⟨.struct,1,8,(.agg #[.nilFunc]),[(0,1,48)]⟩),
  (136,⟨.struct,0,0,(.agg #[]),[]⟩),
  (137,⟨.struct,0,0,(.agg #[]),[]⟩),
  (138,⟨.struct,0,0,(.agg #[]),[]⟩),
  (139,⟨.slice 103,1,24,(.slice none 0 0),[]⟩),
  (149,⟨.pointer 51,1,8,(.pointer none),[]⟩),
  (153,⟨.int .u64,1,8,(.int .u64 0),[]⟩),
  (155,⟨.struct,3,24,(.agg #[(.pointer none),(.pointer none),(.int .u64 0)]),[(0,1,17),(1,1,115),(2,1,153)]⟩),
  (158,⟨.iface,1,16,.nilIface,[]⟩),
  (160,⟨.int .u8,1,1,(.int .u8 0),[]⟩),
  (165,⟨.pointer 89,1,8,(.pointer none),[]⟩),
  (167,⟨.struct,1,8,(.agg #[(.pointer none)]),[(0,1,17)]⟩),
  (191,⟨.struct,4,40,(.agg #[(.pointer none),(.pointer none),(.pointer none),(.string ByteArray.empty)]),[(0,1,17),(1,1,17),(2,1,17),(3,1,9)]⟩),
  (192,⟨.array 0 16,0,0,(.agg #[]),[]⟩),
  (194,⟨.struct,0,0,(.agg #[]),[(0,0,192)]⟩),
  (196,⟨.int .u8,1,1,(.int .u8 0),[]⟩),
  (197,⟨.func,1,8,.nilFunc,[]⟩),
  (198,⟨.pointer 5,1,8,(.pointer none),[]⟩),
  (199,⟨.int .i32,1,4,(.int .i32 0),[]⟩),
  (200,⟨.int .i32,1,4,(.int .i32 0),[]⟩),
  (202,⟨.struct,11,48,(.agg #[(.int .u64 0),(.int .u64 0),(.int .u32 0),(.int .u8 0),(.int .u8 0),(.int .u8 0),(.int .u8 0),.nilFunc,(.pointer none),(.int .i32 0),(.int .i32 0)]),[(0,1,12),(1,1,12),(2,1,85),(3,1,196),(4,1,5),(5,1,5),(6,1,160),(7,1,197),(8,1,198),(9,1,199),(10,1,200)]⟩),
  (203,⟨.int .u8,1,1,(.int .u8 0),[]⟩)]
theorem tyList_ok:(tyList.all fun x=>x.2.check Tryz.prog x.1)=true:=by kernel_rfl
def tyTable (t:Nat):Option TI:=(tyList.find? fun x=>x.1 == t).map (·.2)
theorem tyTable_ok (t:Nat) (i:TI) (h:tyTable t=some i):i.check Tryz.prog t=true:=by
  unfold tyTable at h;obtain⟨x,hx,rfl⟩:=Option.map_eq_some_iff.1 h;have h1:=List.find?_some hx;have h2:=List.all_eq_true.1 tyList_ok x (List.mem_of_find?_eq_some hx);rw[beq_iff_eq.1 h1] at h2;exact h2
def lay:Lay Tryz.prog:=⟨tyTable,tyTable_ok,by kernel_rfl⟩
@[simp] theorem tt1:lay.tt 1=some ⟨.func,1,8,.nilFunc,[]⟩:=rfl
@[simp] theorem tt2:lay.tt 2=some ⟨.int .i64,1,8,(.int .i64 0),[]⟩:=rfl
@[simp] theorem tt3:lay.tt 3=some ⟨.int .i64,1,8,(.int .i64 0),[]⟩:=rfl
@[simp] theorem tt4:lay.tt 4=some ⟨.bool,1,1,(.bool false),[]⟩:=rfl
@[simp] theorem tt5:lay.tt 5=some ⟨.int .u8,1,1,(.int .u8 0),[]⟩:=rfl
@[simp] theorem tt6:lay.tt 6=some ⟨.int .u8,1,1,(.int .u8 0),[]⟩:=rfl
@[simp] theorem tt7:lay.tt 7=some ⟨.struct,4,24,(.agg #[(.int .i64 0),(.int .i64 0),(.bool false),(.int .u8 0)]),[(0,1,2),(1,1,3),(2,1,4),(3,1,6)]⟩:=rfl
@[simp] theorem tt8:lay.tt 8=some ⟨.struct,4,24,(.agg #[(.int .i64 0),(.int .i64 0),(.bool false),(.int .u8 0)]),[(0,1,2),(1,1,3),(2,1,4),(3,1,6)]⟩:=rfl
@[simp] theorem tt9:lay.tt 9=some ⟨.string,1,16,(.string ByteArray.empty),[]⟩:=rfl
@[simp] theorem tt10:lay.tt 10=some ⟨.string,1,16,(.string ByteArray.empty),[]⟩:=rfl
@[simp] theorem tt11:lay.tt 11=some ⟨.string,1,16,(.string ByteArray.empty),[]⟩:=rfl
@[simp] theorem tt12:lay.tt 12=some ⟨.int .u64,1,8,(.int .u64 0),[]⟩:=rfl
@[simp] theorem tt13:lay.tt 13=some ⟨.struct,2,24,(.agg #[(.string ByteArray.empty),(.int .u64 0)]),[(0,1,9),(1,1,12)]⟩:=rfl
@[simp] theorem tt14:lay.tt 14=some ⟨.struct,2,24,(.agg #[(.string ByteArray.empty),(.int .u64 0)]),[(0,1,9),(1,1,12)]⟩:=rfl
@[simp] theorem tt15:lay.tt 15=some ⟨.pointer 191,1,8,(.pointer none),[]⟩:=rfl
@[simp] theorem tt16:lay.tt 16=some ⟨.pointer 194,1,8,(.pointer none),[]⟩:=rfl
@[simp] theorem tt17:lay.tt 17=some ⟨.pointer 202,1,8,(.pointer none),[]⟩:=rfl
@[simp] theorem tt18:lay.tt 18=some ⟨.struct,1,8,(.agg #[(.pointer none)]),[(0,1,17)]⟩:=rfl
@[simp] theorem tt19:lay.tt 19=some ⟨.struct,1,8,(.agg #[(.pointer none)]),[(0,1,17)]⟩:=rfl
@[simp] theorem tt20:lay.tt 20=some ⟨.iface,1,16,.nilIface,[]⟩:=rfl
@[simp] theorem tt21:lay.tt 21=some ⟨.int .i32,1,4,(.int .i32 0),[]⟩:=rfl
@[simp] theorem tt22:lay.tt 22=some ⟨.slice 3,1,24,(.slice none 0 0),[]⟩:=rfl
@[simp] theorem tt23:lay.tt 23=some ⟨.slice 45,1,24,(.slice none 0 0),[]⟩:=rfl
@[simp] theorem tt24:lay.tt 24=some ⟨.slice 22,1,24,(.slice none 0 0),[]⟩:=rfl
@[simp] theorem tt25:lay.tt 25=some ⟨.struct,2,16,(.agg #[(.int .i64 0),(.int .i64 0)]),[(0,1,3),(1,1,3)]⟩:=rfl
@[simp] theorem tt26:lay.tt 26=some ⟨.struct,2,16,(.agg #[(.int .i64 0),(.int .i64 0)]),[(0,1,3),(1,1,3)]⟩:=rfl
@[simp] theorem tt27:lay.tt 27=some ⟨.struct,6,80,(.agg #[(.slice none 0 0),(.slice none 0 0),(.int .i64 0),(.int .i64 0),(.int .i64 0),(.int .i64 0)]),[(0,1,23),(1,1,24),(2,2,26),(4,1,3),(5,1,3)]⟩:=rfl
@[simp] theorem tt28:lay.tt 28=some ⟨.struct,6,80,(.agg #[(.slice none 0 0),(.slice none 0 0),(.int .i64 0),(.int .i64 0),(.int .i64 0),(.int .i64 0)]),[(0,1,23),(1,1,24),(2,2,26),(4,1,3),(5,1,3)]⟩:=rfl
@[simp] theorem tt29:lay.tt 29=some ⟨.func,1,8,.nilFunc,[]⟩:=rfl
@[simp] theorem tt30:lay.tt 30=some ⟨.pointer 53,1,8,(.pointer none),[]⟩:=rfl
@[simp] theorem tt31:lay.tt 31=some ⟨.func,1,8,.nilFunc,[]⟩:=rfl
@[simp] theorem tt32:lay.tt 32=some ⟨.int .i64,1,8,(.int .i64 0),[]⟩:=rfl
@[simp] theorem tt34:lay.tt 34=some ⟨.func,1,8,.nilFunc,[]⟩:=rfl
@[simp] theorem tt37:lay.tt 37=some ⟨.func,1,8,.nilFunc,[]⟩:=rfl
@[simp] theorem tt39:lay.tt 39=some ⟨.func,1,8,.nilFunc,[]⟩:=rfl
@[simp] theorem tt40:lay.tt 40=some ⟨.func,1,8,.nilFunc,[]⟩:=rfl
@[simp] theorem tt41:lay.tt 41=some ⟨.func,1,8,.nilFunc,[]⟩:=rfl
@[simp] theorem tt42:lay.tt 42=some ⟨.func,1,8,.nilFunc,[]⟩:=rfl
@[simp] theorem tt45:lay.tt 45=some ⟨.struct,6,64,(.agg #[(.int .i64 0),(.int .i64 0),(.int .i64 0),(.slice none 0 0),(.int .i64 0),(.int .i64 0)]),[(0,1,3),(1,1,3),(2,1,3),(3,1,22),(4,1,3),(5,1,3)]⟩:=rfl
@[simp] theorem tt47:lay.tt 47=some ⟨.func,1,8,.nilFunc,[]⟩:=rfl
@[simp] theorem tt48:lay.tt 48=some ⟨.func,1,8,.nilFunc,[]⟩:=rfl
@[simp] theorem tt51:lay.tt 51=some ⟨.int .u64,1,8,(.int .u64 0),[]⟩:=rfl
@[simp] theorem tt53:lay.tt 53=some ⟨.struct,3,40,(.agg #[(.slice none 0 0),(.int .i64 0),(.int .u64 0)]),[(0,1,22),(1,1,3),(2,1,51)]⟩:=rfl
@[simp] theorem tt54:lay.tt 54=some ⟨.func,1,8,.nilFunc,[]⟩:=rfl
@[simp] theorem tt55:lay.tt 55=some ⟨.func,1,8,.nilFunc,[]⟩:=rfl
@[simp] theorem tt56:lay.tt 56=some ⟨.pointer 91,1,8,(.pointer none),[]⟩:=rfl
@[simp] theorem tt72:lay.tt 72=some ⟨.struct,3,40,(.agg #[(.slice none 0 0),(.int .i64 0),(.bool false)]),[(0,1,22),(1,1,3),(2,1,4)]⟩:=rfl
@[simp] theorem tt81:lay.tt 81=some ⟨.func,1,8,.nilFunc,[]⟩:=rfl
@[simp] theorem tt82:lay.tt 82=some ⟨.map 108 4,1,8,(.map none),[]⟩:=rfl
@[simp] theorem tt84:lay.tt 84=some ⟨.struct,0,0,(.agg #[]),[]⟩:=rfl
@[simp] theorem tt85:lay.tt 85=some ⟨.int .u32,1,4,(.int .u32 0),[]⟩:=rfl
@[simp] theorem tt87:lay.tt 87=some ⟨.struct,2,8,(.agg #[(.int .i32 0),(.int .u32 0)]),[(0,1,21),(1,1,85)]⟩:=rfl
@[simp] theorem tt88:lay.tt 88=some ⟨.struct,2,8,(.agg #[(.int .i32 0),(.int .u32 0)]),[(0,0,84),(0,2,87)]⟩:=rfl
@[simp] theorem tt89:lay.tt 89=some ⟨.struct,2,8,(.agg #[(.int .i32 0),(.int .u32 0)]),[(0,0,84),(0,2,87)]⟩:=rfl
@[simp] theorem tt91:lay.tt 91=some ⟨.struct,9,96,(.agg #[(.slice none 0 0),(.slice none 0 0),(.int .i64 0),(.int .i64 0),(.int .i64 0),(.int .i64 0),(.int .i32 0),(.int .u32 0),(.map none)]),[(0,6,28),(6,2,89),(8,1,82)]⟩:=rfl
@[simp] theorem tt92:lay.tt 92=some ⟨.func,1,8,.nilFunc,[]⟩:=rfl
@[simp] theorem tt93:lay.tt 93=some ⟨.chan 3,1,8,(.chan none),[]⟩:=rfl
@[simp] theorem tt94:lay.tt 94=some ⟨.struct,0,0,(.agg #[]),[]⟩:=rfl
@[simp] theorem tt95:lay.tt 95=some ⟨.struct,0,0,(.agg #[]),[]⟩:=rfl
@[simp] theorem tt97:lay.tt 97=some ⟨.struct,1,8,(.agg #[(.int .u64 0)]),[(0,0,94),(0,0,95),(0,1,51)]⟩:=rfl
@[simp] theorem tt99:lay.tt 99=some ⟨.struct,2,16,(.agg #[(.int .u64 0),(.int .u32 0)]),[(0,0,84),(0,1,97),(1,1,85)]⟩:=rfl
@[simp] theorem tt101:lay.tt 101=some ⟨.func,1,8,.nilFunc,[]⟩:=rfl
@[simp] theorem tt103:lay.tt 103=some ⟨.iface,1,16,.nilIface,[]⟩:=rfl
@[simp] theorem tt106:lay.tt 106=some ⟨.int .u64,1,8,(.int .u64 0),[]⟩:=rfl
@[simp] theorem tt108:lay.tt 108=some ⟨.struct,1,1,(.agg #[(.int .u8 0)]),[(0,1,5)]⟩:=rfl
@[simp] theorem tt109:lay.tt 109=some ⟨.array 6 108,6,6,(.agg #[(.int .u8 0),(.int .u8 0),(.int .u8 0),(.int .u8 0),(.int .u8 0),(.int .u8 0)]),[]⟩:=rfl
@[simp] theorem tt110:lay.tt 110=some ⟨.func,1,8,.nilFunc,[]⟩:=rfl
@[simp] theorem tt112:lay.tt 112=some ⟨.pointer 72,1,8,(.pointer none),[]⟩:=rfl
@[simp] theorem tt113:lay.tt 113=some ⟨.pointer 99,1,8,(.pointer none),[]⟩:=rfl
@[simp] theorem tt114:lay.tt 114=some ⟨.func,1,8,.nilFunc,[]⟩:=rfl
@[simp] theorem tt116:lay.tt 116=some ⟨.int .i64,1,8,(.int .i64 0),[]⟩:=rfl
@[simp] theorem tt120:lay.tt 120=some ⟨.pointer 85,1,8,(.pointer none),[]⟩:=rfl
@[simp] theorem tt121:lay.tt 121=some ⟨.func,1,8,.nilFunc,[]⟩:=rfl
@[simp] theorem tt128:lay.tt 128=some ⟨.struct,1,8,(.agg #[(.int .i64 0)]),[(0,1,32)]⟩:=rfl
@[simp] theorem tt131:lay.tt 131=some ⟨.iface,1,16,.nilIface,[]⟩:=rfl
@[simp] theorem tt133:lay.tt 133=some ⟨.pointer 128,1,8,(.pointer none),[]⟩:=rfl
@[simp] theorem tt135:lay.tt 135=some ⟨.struct,1,8,(.agg #[.nilFunc]),[(0,1,48)]⟩:=rfl
@[simp] theorem tt136:lay.tt 136=some ⟨.struct,0,0,(.agg #[]),[]⟩:=rfl
@[simp] theorem tt137:lay.tt 137=some ⟨.struct,0,0,(.agg #[]),[]⟩:=rfl
@[simp] theorem tt138:lay.tt 138=some ⟨.struct,0,0,(.agg #[]),[]⟩:=rfl
@[simp] theorem tt139:lay.tt 139=some ⟨.slice 103,1,24,(.slice none 0 0),[]⟩:=rfl
@[simp] theorem tt149:lay.tt 149=some ⟨.pointer 51,1,8,(.pointer none),[]⟩:=rfl
@[simp] theorem tt153:lay.tt 153=some ⟨.int .u64,1,8,(.int .u64 0),[]⟩:=rfl
@[simp] theorem tt155:lay.tt 155=some ⟨.struct,3,24,(.agg #[(.pointer none),(.pointer none),(.int .u64 0)]),[(0,1,17),(1,1,115),(2,1,153)]⟩:=rfl
@[simp] theorem tt158:lay.tt 158=some ⟨.iface,1,16,.nilIface,[]⟩:=rfl
@[simp] theorem tt160:lay.tt 160=some ⟨.int .u8,1,1,(.int .u8 0),[]⟩:=rfl
@[simp] theorem tt165:lay.tt 165=some ⟨.pointer 89,1,8,(.pointer none),[]⟩:=rfl
@[simp] theorem tt167:lay.tt 167=some ⟨.struct,1,8,(.agg #[(.pointer none)]),[(0,1,17)]⟩:=rfl
@[simp] theorem tt191:lay.tt 191=some ⟨.struct,4,40,(.agg #[(.pointer none),(.pointer none),(.pointer none),(.string ByteArray.empty)]),[(0,1,17),(1,1,17),(2,1,17),(3,1,9)]⟩:=rfl
@[simp] theorem tt192:lay.tt 192=some ⟨.array 0 16,0,0,(.agg #[]),[]⟩:=rfl
@[simp] theorem tt194:lay.tt 194=some ⟨.struct,0,0,(.agg #[]),[(0,0,192)]⟩:=rfl
@[simp] theorem tt196:lay.tt 196=some ⟨.int .u8,1,1,(.int .u8 0),[]⟩:=rfl
@[simp] theorem tt197:lay.tt 197=some ⟨.func,1,8,.nilFunc,[]⟩:=rfl
@[simp] theorem tt198:lay.tt 198=some ⟨.pointer 5,1,8,(.pointer none),[]⟩:=rfl
@[simp] theorem tt199:lay.tt 199=some ⟨.int .i32,1,4,(.int .i32 0),[]⟩:=rfl
@[simp] theorem tt200:lay.tt 200=some ⟨.int .i32,1,4,(.int .i32 0),[]⟩:=rfl
@[simp] theorem tt202:lay.tt 202=some ⟨.struct,11,48,(.agg #[(.int .u64 0),(.int .u64 0),(.int .u32 0),(.int .u8 0),(.int .u8 0),(.int .u8 0),(.int .u8 0),.nilFunc,(.pointer none),(.int .i32 0),(.int .i32 0)]),[(0,1,12),(1,1,12),(2,1,85),(3,1,196),(4,1,5),(5,1,5),(6,1,160),(7,1,197),(8,1,198),(9,1,199),(10,1,200)]⟩:=rfl
@[simp] theorem tt203:lay.tt 203=some ⟨.int .u8,1,1,(.int .u8 0),[]⟩:=rfl
end Go.Proofs.YtibjfmfdjncniaaGreatDoor
namespace Go.Proofs.YtibjfmfdjncniaaGreatDoor
open Go.Pal
abbrev pl5:List Entry:=[⟨7,.take [0,2,6] false (.both 1 (.one 3 (.one 4 (.one 5 (.one 7 (.done))))) (.one 3 (.both 1 (.one 4 (.one 5 (.one 7 (.done)))) (.one 4 (.take [1] true (.one 5 (.one 7 (.done))))))))⟩,⟨15,.take [0,2,5,6,8,11,12,13] false (.both 1 (.take [3,4,14] false (.one 7 (.take [9,10,16] false (.one 15 (.one 17 (.done)))))) (.one 7 (.take [9,10,16] false (.take [1,3,4,14] true (.one 15 (.one 17 (.done)))))))⟩,⟨21,.take [0,2,3,7] false (.both 1 (.one 4 (.one 5 (.one 6 (.one 8 (.done))))) (.one 4 (.both 1 (.one 5 (.one 6 (.one 8 (.done)))) (.one 5 (.take [1] true (.one 6 (.one 8 (.done))))))))⟩]
abbrev pl11:List Entry:=[⟨4,.take [0,1,2,3,4,5,6,7,8] true (.done)⟩]
abbrev pl13:List Entry:=[⟨1,.take [0,1,3,4,5,6,7,8] false (.both 2 (.both 9 (.one 10 (.one 11 (.done))) (.one 10 (.one 9 (.one 11 (.done))))) (.one 10 (.one 2 (.one 9 (.one 11 (.done))))))⟩,⟨5,.take [0,2,3,4,5,6,10] false (.both 1 (.one 7 (.one 8 (.one 9 (.one 11 (.done))))) (.one 7 (.both 1 (.one 8 (.one 9 (.one 11 (.done)))) (.one 8 (.take [1] true (.one 9 (.one 11 (.done))))))))⟩]
abbrev pl15:List Entry:=[⟨8,.take [0,1,2,3,4,5,6] true (.done)⟩]
abbrev pl34:List Entry:=[⟨3,.take [0,1,2,3,4,5,6,7,8,9] true (.done)⟩,⟨4,.take [0,1,2,3,4,5,6,7,8,9,10,11,12,13,14] true (.take [15] true (.done))⟩,⟨6,.take [0,1,2,3,5,6,7,11,12] false (.take [4,8,9,10] true (.one 13 (.done)))⟩]
abbrev pl40:List Entry:=[⟨24,.take [0,1,2,3,4,5,6,7,8,9,10,11,12,13,14,15,16,17,18,19,20,21,22,23,24] true (.done)⟩,⟨29,.take [0,1,2,3,4,5,6,7,8,9,10,11,12,13,14,15,16,17,18,19,20,21,22] true (.done)⟩]
abbrev pl49:List Entry:=[⟨6,.take [0,1,2,3] true (.done)⟩]
abbrev pl52:List Entry:=[⟨8,.take [0,1,2,3,4,5,6,7,8,9,10,11,12,13,14] true (.done)⟩,⟨11,.take [0,1,3,4,5,6,7,8,10] false (.one 2 (.take [9,11] false (.one 12 (.one 13 (.take [14] true (.done))))))⟩,⟨17,.take [0,1,2,3] false (.one 4 (.one 5 (.take [6] true (.done))))⟩]
abbrev pl55:List Entry:=[⟨4,.take [0,2,4] false (.take [1] true (.one 3 (.one 5 (.done))))⟩,⟨5,.take [0,1,2] false (.one 3 (.one 4 (.take [5,6,8,9,10,12,15,16,17] false (.both 7 (.both 11 (.both 13 (.both 14 (.one 18 (.one 19 (.take [20,21] true (.done)))) (.one 18 (.one 14 (.one 19 (.take [20,21] true (.done)))))) (.one 18 (.one 13 (.one 14 (.one 19 (.take [20,21] true (.done))))))) (.both 13 (.both 11 (.both 14 (.one 18 (.one 19 (.take [20,21] true (.done)))) (.one 18 (.one 14 (.one 19 (.take [20,21] true (.done)))))) (.one 18 (.one 11 (.one 14 (.one 19 (.take [20,21] true (.done))))))) (.one 18 (.both 11 (.one 13 (.one 14 (.one 19 (.take [20,21] true (.done))))) (.one 13 (.one 11 (.one 14 (.one 19 (.take [20,21] true (.done)))))))))) (.both 11 (.both 7 (.both 13 (.both 14 (.one 18 (.one 19 (.take [20,21] true (.done)))) (.one 18 (.one 14 (.one 19 (.take [20,21] true (.done)))))) (.one 18 (.one 13 (.one 14 (.one 19 (.take [20,21] true (.done))))))) (.both 13 (.both 7 (.both 14 (.one 18 (.one 19 (.take [20,21] true (.done)))) (.one 18 (.one 14 (.one 19 (.take [20,21] true (.done)))))) (.both 14 (.both 7 (.one 18 (.one 19 (.take [20,21] true (.done)))) (.one 18 (.one 7 (.one 19 (.take [20,21] true (.done)))))) (.one 18 (.both 7 (.one 14 (.one 19 (.take [20,21] true (.done)))) (.one 14 (.one 7 (.one 19 (.take [20,21] true (.done))))))))) (.one 18 (.both 7 (.one 13 (.one 14 (.one 19 (.take [20,21] true (.done))))) (.one 13 (.both 7 (.one 14 (.one 19 (.take [20,21] true (.done)))) (.one 14 (.one 7 (.one 19 (.take [20,21] true (.done))))))))))) (.both 13 (.both 7 (.both 11 (.both 14 (.one 18 (.one 19 (.take [20,21] true (.done)))) (.one 18 (.one 14 (.one 19 (.take [20,21] true (.done)))))) (.one 18 (.one 11 (.one 14 (.one 19 (.take [20,21] true (.done))))))) (.both 11 (.both 7 (.both 14 (.one 18 (.one 19 (.take [20,21] true (.done)))) (.one 18 (.one 14 (.one 19 (.take [20,21] true (.done)))))) (.both 14 (.both 7 (.one 18 (.one 19 (.take [20,21] true (.done)))) (.one 18 (.one 7 (.one 19 (.take [20,21] true (.done)))))) (.one 18 (.both 7 (.one 14 (.one 19 (.take [20,21] true (.done)))) (.one 14 (.one 7 (.one 19 (.take [20,21] true (.done))))))))) (.one 18 (.both 7 (.one 11 (.one 14 (.one 19 (.take [20,21] true (.done))))) (.one 11 (.both 7 (.one 14 (.one 19 (.take [20,21] true (.done)))) (.one 14 (.one 7 (.one 19 (.take [20,21] true (.done))))))))))) (.one 18 (.both 7 (.both 11 (.one 13 (.one 14 (.one 19 (.take [20,21] true (.done))))) (.one 13 (.one 11 (.one 14 (.one 19 (.take [20,21] true (.done))))))) (.both 11 (.both 7 (.one 13 (.one 14 (.one 19 (.take [20,21] true (.done))))) (.one 13 (.both 7 (.one 14 (.one 19 (.take [20,21] true (.done)))) (.one 14 (.one 7 (.one 19 (.take [20,21] true (.done)))))))) (.one 13 (.both 7 (.one 11 (.one 14 (.one 19 (.take [20,21] true (.done))))) (.one 11 (.both 7 (.one 14 (.one 19 (.take [20,21] true (.done)))) (.one 14 (.one 7 (.one 19 (.take [20,21] true (.done))))))))))))))))))⟩]
abbrev pl57:List Entry:=[⟨1,.take [0,1,2,3,4,5] true (.one 6 (.done))⟩]
abbrev pl58:List Entry:=[⟨3,.take [0,1,2,3] false (.one 4 (.one 5 (.take [6,7,8,9,10] true (.done))))⟩,⟨6,.take [0,1,2,3,4,5] true (.one 6 (.done))⟩]
abbrev pl81:List Entry:=[⟨1,.take [0,1,2,3,4,5,6,7,8,9,10,11,12,13,14,15,16,17] false (.one 18 (.take [19] true (.done)))⟩]
abbrev pl87:List Entry:=[⟨7,.take [0,1,2,3] true (.done)⟩]
abbrev pl88:List Entry:=[⟨1,.take [0,1,2,3,4,5,6,7,8,9] true (.done)⟩]
abbrev pl114:List Entry:=[⟨4,.take [0,1,2,3,4,5,6,7,9,10,11,12] false (.both 8 (.one 13 (.one 14 (.take [15,16] true (.done)))) (.one 13 (.one 8 (.one 14 (.take [15,16] true (.done))))))⟩,⟨6,.take [0,1,2,3,4,5,6,7,8,10,11,12,14,16] false (.take [9,13] true (.one 15 (.one 17 (.done))))⟩]
abbrev pl144:List Entry:=[⟨4,.take [0,1,2,3,4,5,6,7,8,9,10,11,12,13,14,15,16,17,18,19,20] true (.done)⟩]
abbrev pl146:List Entry:=[⟨4,.take [0,1,2,3,4,5,6,7,8,9,10,11,12,13,14,15,16,17,18,19,20,21,22] false (.both 23 (.one 24 (.one 25 (.one 26 (.done)))) (.one 24 (.one 23 (.one 25 (.one 26 (.done))))))⟩,⟨5,.take [0,1,2,3,4,5,6,7,8,9,10,11,12,13,14,15,16,17,18,19,20,21,22,23,24,26,27] false (.one 25 (.one 28 (.one 29 (.take [30,31,32] true (.done)))))⟩]
attribute [simp] ksub
abbrev int (n:Int):AV:=.lit (.int .i64 n)
abbrev u8 (n:Int):AV:=.lit (.int .u8 n)
abbrev bool (b:Bool):AV:=.lit (.bool b)
abbrev ints (l:List Int):AV:=.sl 1 (l.map int) .any
abbrev rows (l:List (List Int)):AV:=.sl 1 (l.map ints) .any
structure Ent where
  hour:Int
  place:Int
  coat:Int
  marks:List Int
  height:Int
  shod:Int
  deriving DecidableEq
structure Fr where
  ents:List Ent
  roads:List (List Int)
  sfrom:Int
  sto:Int
  dye:Int
  most:Int
  deriving DecidableEq
abbrev entA (e:Ent):AV:=.agg [int e.hour,int e.place,int e.coat,ints e.marks,int e.height,int e.shod]
abbrev entsA (l:List Ent):AV:=.sl 6 (l.map entA) .any
abbrev fairL (f:Fr):List AV:=[entsA f.ents,rows f.roads,int f.sfrom,int f.sto,int f.dye,int f.most]
abbrev fairA (f:Fr):AV:=.agg (fairL f)
abbrev fpA (b mb:Nat) (f:Fr) (o:Nat):AV:=.kp b [entsA f.ents,rows f.roads,int f.sfrom,int f.sto,int f.dye,int f.most,.lit (.int .i32 0),.lit (.int .u32 0),.map mb] [6,7] o
def isIn (a lo hi:Int):Bool:=decide (lo≤a) && decide (a≤hi)
def notUp:Option Int->Int->Bool
  | some q,h=>decide (h≤q)
  | none,_=>false
def chkM:Option Int->List Int->Int
  | _,[]=>0
  | p,h :: l=>if isIn h 0 4=false then 3 else if notUp p h=true then 5 else chkM (some h) l
def checkEntry (places:Int) (e:Ent):Int:=
  if isIn e.hour 0 72=false then 1 else if isIn e.place 0 (places-1)=false then 3 else if isIn e.coat 0 5=false then 1 else if chkM none e.marks≠0 then chkM none e.marks
  else if isIn e.height 0 30=false then 1 else if isIn e.shod 0 2=false then 8 else 0
def firstBad (f:Ent->Int):List Ent->Int
  | []=>0
  | d :: l=>if f d=0 then firstBad f l else f d
theorem chkM_at (l:List Int) (i:Nat) (h:i<l.length) (p:Option Int):chkM p (l.drop i)=if isIn l[i] 0 4=false then 3 else if notUp p l[i]=true then 5 else chkM (some l[i]) (l.drop (i+1)):=by
  rw[List.drop_eq_getElem_cons h,chkM]
theorem firstBad_at (f:Ent->Int) (l:List Ent) (i:Nat) (h:i<l.length):firstBad f (l.drop i)=if f l[i]=0 then firstBad f (l.drop (i+1)) else f l[i]:=by
  rw[List.drop_eq_getElem_cons h,firstBad]
theorem take_eq_succ {α:Type} {l l':List α} {k:Nat} (g:k<l.length) (g':k<l'.length) (h:l.take k=l'.take k) (e:l[k]=l'[k]):l.take (k+1)=l'.take (k+1):=by
  rw[List.take_succ_eq_append_getElem g,List.take_succ_eq_append_getElem g',h,e]
def rd (r:List (List Int)) (i j:Nat):Int:=(r.getD i []).getD j 0
def pairBad (r:List (List Int)) (i j:Nat):Bool:=rd r i i != 0 || rd r i j != rd r j i || (List.range r.length).any fun k=>decide (rd r i j > rd r i k+rd r k j)
def rowErr (n:Nat) (l:List Int):Int:=if l.length≠n then 9 else if l.all (isIn · 0 9) then 0 else 1
def rowsErr (n:Nat):List (List Int)->Int
  | []=>0
  | l :: r=>if rowErr n l=0 then rowsErr n r else rowErr n l
def roadsErr (r:List (List Int)):Int:=
  if r.length<1 then 7 else if 3<r.length then 6 else if rowsErr r.length r≠0 then rowsErr r.length r
  else if (List.range r.length).any (fun i=>(List.range r.length).any fun j=>pairBad r i j) then 9 else 0
def check (f:Fr):Int:=
  if roadsErr f.roads≠0 then roadsErr f.roads else if (isIn f.sfrom 0 3 && isIn f.sto 0 3)=false then 1 else if f.sto<f.sfrom then 5
  else if (isIn f.dye 1 6 && isIn f.most 1 6)=false then 1 else if (6:Int)<f.ents.length then 6 else firstBad (checkEntry f.roads.length) f.ents
theorem rowsErr_at (n:Nat) (l:List (List Int)) (i:Nat) (h:i<l.length):rowsErr n (l.drop i)=if rowErr n l[i]=0 then rowsErr n (l.drop (i+1)) else rowErr n l[i]:=by
  rw[List.drop_eq_getElem_cons h,rowsErr]
structure Fr.Fits (f:Fr):Prop where
  ents:f.ents.length<1152921504606846976
  roads:f.roads.length<1152921504606846976
  row:∀ r∈f.roads,r.length<1152921504606846976
  marks:∀ e∈f.ents,e.marks.length<1152921504606846976
def ixFrom (i:Int):List Int->Int->Int
  | [],_ => -1
  | x :: l,v=>if x=v then i else ixFrom (i+1) l v
def ixOf (l:List Int) (v:Int):Int:=ixFrom 0 l v
theorem ixFrom_at (l:List Int) (v:Int) (i:Nat) (h:i<l.length) (c:Int):ixFrom c (l.drop i) v=if l[i]=v then c else ixFrom (c+1) (l.drop (i+1)) v:=by
  rw[List.drop_eq_getElem_cons h,ixFrom]
theorem ixFrom_mem (v:Int):∀ (l:List Int) (i:Int),0≤i->(0≤ixFrom i l v ↔ v∈l)
  | [],i,h=>by simp[ixFrom]
  | x :: l,i,h=>by
    unfold ixFrom;split
    . next e=>subst e;simp[h]
    . next e=>rw[ixFrom_mem v l (i+1) (by omega)];simp[Ne.symm e]
theorem ixOf_mem (l:List Int) (v:Int):0≤ixOf l v ↔ v∈l:=ixFrom_mem v l 0 (Int.le_refl _)
def shoes (f:Fr) (e:Ent):List Int:=if e.shod≠0 then (List.range (f.sto-f.sfrom+1).toNat).map fun i:Nat=>e.height-f.sto+(i:Int) else []
def tells (f:Fr) (e:Ent):List Int:=if e.shod≠1∧e.height ∉ shoes f e then shoes f e ++ [e.height] else shoes f e
def commonOf (first:List Int) (others:List (List Int)):List Int:=first.filter fun x=>others.all fun l=>decide (x∈l)
def entN (f:Fr) (i:Int):Ent:=f.ents.getD i.toNat ⟨0,0,0,[],0,0⟩
def heightsOf (f:Fr) (l:List Int):List Int:=match l.map fun i=>tells f (entN f i) with | []=>[] | a :: r=>commonOf a r
def listErr (f:Fr):Option Int->List Int->Int
  | _,[]=>0
  | p,n :: l=>if isIn n 0 (f.ents.length-1)=false then 3 else if notUp p n=true then 5 else listErr f (some n) l
def lister (f:Fr) (l:List Int):Int:=if l.length=0 then 7 else listErr f none l
theorem listErr_at (f:Fr) (l:List Int) (i:Nat) (h:i<l.length) (p:Option Int):listErr f p (l.drop i)=if isIn l[i] 0 (f.ents.length-1)=false then 3 else if notUp p l[i]=true then 5 else listErr f (some l[i]) (l.drop (i+1)):=by
  rw[List.drop_eq_getElem_cons h,listErr]
abbrev errA (n:Int):AV:=if n=0 then .lit .nilIface else .ifc 128 (.agg [int n])
def orU8 (a b:Int):Int:=IntKind.u8.wrap (((BitVec.ofInt 8 a ||| BitVec.ofInt 8 b).toNat:Nat):Int)
def andU8 (a b:Int):Int:=IntKind.u8.wrap (((BitVec.ofInt 8 a &&& BitVec.ofInt 8 b).toNat:Nat):Int)
def xorU8 (a b:Int):Int:=IntKind.u8.wrap (((BitVec.ofInt 8 a ^^^ BitVec.ofInt 8 b).toNat:Nat):Int)
def subU8 (a b:Int):Int:=IntKind.u8.wrap (a-b)
theorem ibin_or8 (a b:Int):ibin .or .u8 a b=some (.int .u8 (orU8 a b)):=rfl
theorem ibin_and8 (a b:Int):ibin .and .u8 a b=some (.int .u8 (andU8 a b)):=rfl
theorem ibin_xor8 (a b:Int):ibin .xor .u8 a b=some (.int .u8 (xorU8 a b)):=rfl
theorem ibin_sub8 (a b:Int):ibin .sub .u8 a b=some (.int .u8 (subU8 a b)):=rfl
def setBit (m n:Int):Int:=orU8 m (IntKind.u8.wrap (2 ^ min n.toNat IntKind.u8.bits))
def hasBit (m n:Int):Bool:=andU8 (m.fdiv (2 ^ min n.toNat IntKind.u8.bits)) 1 == 1
def bitsOf (m:Int):List Int:=((List.range 6).map fun n:Nat=>(n:Int)).filter fun n=>hasBit m n
def marksInt (l:List Int):Int:=l.foldl setBit 0
end Go.Proofs.YtibjfmfdjncniaaGreatDoor
namespace Go.Proofs.YtibjfmfdjncniaaGreatDoor
open Go.Pal Go.Conc
set_option maxHeartbeats 1000000
variable {m:Mo} {σ:Store} {KF:Res->Store->Prop}
theorem within_ok {a lo hi:Int} (h:KF (.val (bool (isIn a lo hi))) σ):FnOK Tryz.prog m 41 [int a,int lo,int hi] σ KF:=by
  unfold isIn at h;refine FnOK.start lay [] [] 3 Tryz.func41 rfl rfl (by rfl) (by kernel_rfl) ?_
  simp[Tryz.f41];refine goW.intro (fun h1=>?_) (fun h1=>?_) <;> simp[h1]
  . exact .done (by simpa[h1] using h)
  . exact .done (by simpa[h1] using h)
theorem Index_ok {l:List Int} {v:Int} (hl:l.length<1152921504606846976) (h:KF (.val (int (ixOf l v))) σ):FnOK Tryz.prog m 60 [ints l,int v] σ KF:=by
  refine FnOK.start lay [] [] 2 Tryz.func60 rfl rfl (by rfl) (by kernel_rfl) ?_
  simp[Tryz.f60];refine Resume.loop l.length (fun k s => ∃ env,s=⟨env,σ,[],.no⟩∧env 0=ints l∧env 1=int v∧env 7=int l.length∧env 8=int k∧ixFrom 0 l v=ixFrom k (l.drop k) v) ⟨_,rfl,by simp⟩ ?_
  rintro c0 k _ hk ⟨env,rfl,h0,h1,h7,h8,hn⟩ ih
  refine Resume.run lay [] ?_;simp[h0,h1,h7,h8];refine condW.intro (fun g1=>?_) (fun g1=>?_) <;> (try simp[-Int.not_lt,-Int.not_le,-Nat.not_lt,-Nat.not_le] at g1) <;> (try simp[h0,h1,h7,h8,g1])
  . rw[ixFrom_at l v k g1] at hn
    refine condW.intro (fun g2=>?_) (fun g2=>?_) <;> (try simp[-Int.not_lt,-Int.not_le,-Nat.not_lt,-Nat.not_le] at g2) <;> (try simp[g2] at hn) <;> (try simp[h0,h1,h7,h8,g2]) <;> (try exact .done hn)
    . subst g2
      unfold ixOf at h;rw[hn] at h;exact .done h
    . exact⟨by omega,ih _ g1 ⟨_,rfl,by simp[h0,h1,h7,h8],by simp[h0,h1,h7,h8],by simp[h0,h1,h7,h8],by simp,by rw[hn,if_neg (fun e=>g2 e.symm)];simp⟩⟩
  . have:k=l.length:=by omega
    subst this;unfold ixOf at h;rw[hn] at h;simp[ixFrom] at h;exact .done h
theorem Contains_ok {l:List Int} {v:Int} (hl:l.length<1152921504606846976) (h:KF (.val (bool (decide (v∈l)))) σ):FnOK Tryz.prog m 43 [ints l,int v] σ KF:=by
  refine FnOK.start lay [] [] 2 Tryz.func43 rfl rfl (by rfl) (by kernel_rfl) ?_
  simp[Tryz.f43];refine callFn Tryz.func60 rfl rfl (Index_ok hl ?_);refine Resume.run lay [] ?_;simp;rw[← decide_eq_decide.2 (ixOf_mem l v)] at h;exact .done h
theorem SameInts_ok {a b:List Int} (ha:a.length<1152921504606846976) (hb:b.length<1152921504606846976) (h:KF (.val (bool (decide (a=b)))) σ):FnOK Tryz.prog m 11 [ints a,ints b] σ KF:=by
  refine FnOK.start lay [] pl11 2 Tryz.func11 rfl rfl (by rfl) (by kernel_rfl) ?_
  simp[Tryz.f11];refine Resume.loop a.length (fun k s => ∃ env,s=⟨env,σ,[],.no⟩∧env 0=ints a∧env 1=ints b∧env 5=int k∧k≤b.length∧a.take k=b.take k) ⟨_,rfl,by simp⟩ ?_
  rintro c0 k _ hk ⟨env,rfl,h0,h1,h5,hkb,hn⟩ ih
  refine Resume.run lay [] ?_;simp[h0,h1,h5];refine goW.intro (fun g1=>?_) (fun g1=>?_) <;> (try simp[-Int.not_lt,-Int.not_le,-Nat.not_lt,-Nat.not_le] at g1) <;> (try simp[h0,h1,h5,g1])
  . refine condW.intro (fun g2=>?_) (fun g2=>?_) <;> (try simp[-Int.not_lt,-Int.not_le,-Nat.not_lt,-Nat.not_le] at g2) <;> (try simp[h0,h1,h5,g2,g1])
    . refine Resume.run lay [] ?_
      simp[h0,h1,h5];refine condW.intro (fun g3=>?_) (fun g3=>?_) <;> (try simp[-Int.not_lt,-Int.not_le,-Nat.not_lt,-Nat.not_le] at g3) <;> (try simp[h0,h1,h5,g3])
      . have:a≠b:=fun e=>by subst e;exact g3 rfl
        simp[this] at h;exact .done h
      . refine⟨by omega,ih _ g1 ⟨_,rfl,by simp[h0,h1,h5],by simp[h0,h1,h5],by simp,by omega,take_eq_succ g1 g2 hn g3⟩⟩
    . have:a≠b:=fun e=>by subst e;omega
      have e':((a.length:Int) == b.length)=false:=by rw[beq_eq_false_iff_ne];omega
      rw[e'];exact .done (by simpa[this] using h)
  . have:k=a.length:=by omega
    subst this;rw[List.take_length] at hn
    by_cases e:a.length=b.length
    . have:a=b:=by rw[hn,e,List.take_length]
      exact .done (by simpa[this,e] using h)
    . have:a≠b:=fun q=>e (by rw[q])
      have e':((a.length:Int) == b.length)=false:=by rw[beq_eq_false_iff_ne];omega
      rw[e'];exact .done (by simpa[this] using h)
theorem OwnInts_own {l:List Int} (hl:l.length≤1000000000) (h:∀ a σ',OwnTok σ σ' a 1 (l.map int)->KF (.val a) σ'):FnOK Tryz.prog m 24 [ints l] σ KF:=by
  refine FnOK.start lay [] [] 1 Tryz.func24 rfl rfl (by rfl) (by kernel_rfl) ?_
  simp[Tryz.f24];refine os_appendOwn lay rfl rfl rfl tt22 rfl tt22 rfl tt3 (by decide) (by simp;omega) (σ0:=σ) (es:=[]) (xs:=l.map int) (.empty σ 1) (.inl (.inr ⟨_,rfl⟩)) (by simp) fun a' σ' ht=>?_
  refine Resume.run lay [] ?_;simp;exact .done (h _ _ (by simpa using ht))
theorem OwnInts_ok {l:List Int} (hl:l.length≤1000000000) (h:KF (.val (ints l)) σ):FnOK Tryz.prog m 24 [ints l] σ KF:=
  (OwnInts_own hl fun a σ' ht=>ht.thaw h).thaw
theorem isNaN_ok {n:Int} (h:KF (.val (bool false)) σ):FnOK Tryz.prog m 101 [int n] σ KF:=by
  refine FnOK.start lay [] [] 1 Tryz.func101 rfl rfl (by rfl) (by kernel_rfl) ?_
  simp[Tryz.f101];exact .done h
def cmpInt (x y:Int):Int:=if x<y then -1 else if y<x then 1 else 0
theorem Compare_ok {x y:Int} (h:KF (.val (int (cmpInt x y))) σ):FnOK Tryz.prog m 82 [int x,int y] σ KF:=by
  unfold cmpInt at h;refine FnOK.start lay [] [] 2 Tryz.func82 rfl rfl (by rfl) (by kernel_rfl) ?_
  simp[Tryz.f82];refine callFn Tryz.func101 rfl rfl (isNaN_ok ?_);refine Resume.run lay [] ?_;simp;refine callFn Tryz.func101 rfl rfl (isNaN_ok ?_);refine Resume.run lay [] ?_;simp;refine condW.intro (fun g1=>?_) (fun g1=>?_) <;> (try simp[-Int.not_lt,-Int.not_le,-Nat.not_lt,-Nat.not_le] at g1) <;> (try simp[g1] at h) <;> (try simp[g1]) <;> (try exact .done h)
  refine condW.intro (fun g2=>?_) (fun g2=>?_) <;> (try simp[-Int.not_lt,-Int.not_le,-Nat.not_lt,-Nat.not_le] at g2) <;> (try simp[g2] at h) <;> (try simp[g2]) <;> (try exact .done h)
theorem horses_ok {l:List Int} (hl:l.length<1152921504606846976) (hb:∀ x∈l,-1≤x∧x≤1000) (h:KF (.val (int (l.foldl (fun n k=>max n (k+1)) 0))) σ):FnOK Tryz.prog m 38 [ints l] σ KF:=by
  refine FnOK.start lay [] [] 1 Tryz.func38 rfl rfl (by rfl) (by kernel_rfl) ?_
  simp[Tryz.f38];refine Resume.loop l.length (fun k s => ∃ env,s=⟨env,σ,[],.no⟩∧env 3=int ((l.take k).foldl (fun n k=>max n (k+1)) 0)∧env 6=ints l∧env 7=int l.length∧env 8=int k) ⟨_,rfl,by simp⟩ ?_
  rintro c0 k _ hk ⟨env,rfl,h3,h6,h7,h8⟩ ih
  refine Resume.run lay [] ?_;simp[h3,h6,h7,h8];refine condW.intro (fun g1=>?_) (fun g1=>?_) <;> (try simp[-Int.not_lt,-Int.not_le,-Nat.not_lt,-Nat.not_le] at g1) <;> (try simp[h3,h6,h7,h8,g1])
  . have:=hb _ (List.getElem_mem g1)
    refine⟨by omega,?_⟩
    refine⟨by omega,ih _ g1 ⟨_,rfl,?_,by simp[h3,h6,h7,h8],by simp[h3,h6,h7,h8],by simp⟩⟩
    rw[List.take_succ_eq_append_getElem g1,List.foldl_append];simp[h3];split <;> omega
  . have:k=l.length:=by omega
    subst this;rw[List.take_length];exact .done h
end Go.Proofs.YtibjfmfdjncniaaGreatDoor
namespace Go.Proofs.YtibjfmfdjncniaaGreatDoor
open Go.Pal Go.Conc
set_option maxHeartbeats 1000000
variable {m:Mo} {σ:Store} {KF:Res->Store->Prop}
theorem checkEntry_ok {e:Ent} {places:Int} (hp:0≤places∧places<1152921504606846976) (hm:e.marks.length<1152921504606846976) (h:KF (.val (int (checkEntry places e))) σ):FnOK Tryz.prog m 42 [entA e,int places] σ KF:=by
  unfold checkEntry at h;refine FnOK.start lay [] [] 2 Tryz.func42 rfl rfl (by rfl) (by kernel_rfl) ?_
  simp[Tryz.f42];refine callFn Tryz.func41 rfl rfl (within_ok ?_);refine Resume.run lay [] ?_;simp;refine condW.intro (fun g1=>?_) (fun g1=>?_) <;> (try simp[-Int.not_lt,-Int.not_le,-Nat.not_lt,-Nat.not_le] at g1) <;> (try simp[g1] at h) <;> (try simp[g1]) <;> (try exact .done h)
  refine⟨by omega,?_⟩
  refine callFn Tryz.func41 rfl rfl (within_ok ?_);refine Resume.run lay [] ?_;simp;refine condW.intro (fun g2=>?_) (fun g2=>?_) <;> (try simp[-Int.not_lt,-Int.not_le,-Nat.not_lt,-Nat.not_le] at g2) <;> (try simp[g2] at h) <;> (try simp[g2]) <;> (try exact .done h)
  refine callFn Tryz.func41 rfl rfl (within_ok ?_);refine Resume.run lay [] ?_;simp;refine condW.intro (fun g3=>?_) (fun g3=>?_) <;> (try simp[-Int.not_lt,-Int.not_le,-Nat.not_lt,-Nat.not_le] at g3) <;> (try simp[g3] at h) <;> (try simp[g3]) <;> (try exact .done h)
  refine Resume.loop e.marks.length (fun k s => ∃ env,s=⟨env,σ,[],.no⟩∧env 2 = .cp (entA e) 0∧env 22=ints e.marks∧env 23=int e.marks.length∧env 24=int k∧chkM none e.marks=chkM (if k=0 then none else e.marks[k-1]?) (e.marks.drop k)) ⟨_,rfl,by simp⟩ ?_
  rintro c0 k _ hk ⟨env,rfl,h2,h22,h23,h24,hn⟩ ih
  refine Resume.run lay [] ?_;simp[h2,h22,h23,h24];refine condW.intro (fun g4=>?_) (fun g4=>?_) <;> (try simp[-Int.not_lt,-Int.not_le,-Nat.not_lt,-Nat.not_le] at g4) <;> (try simp[h2,h22,h23,h24,g4])
  . rw [chkM_at _ k g4] at hn
    refine callFn Tryz.func41 rfl rfl (within_ok ?_);refine Resume.run lay [] ?_;simp[h2,h22,h23,h24];refine condW.intro (fun g5=>?_) (fun g5=>?_) <;> (try simp[-Int.not_lt,-Int.not_le,-Nat.not_lt,-Nat.not_le] at g5) <;> (try simp[g5] at hn) <;> (try simp[h2,h22,h23,h24,g5]) <;> (try exact .done hn)
    . refine goW.intro (fun g6=>?_) (fun g6=>?_) <;> (try simp[-Int.not_lt,-Int.not_le,-Nat.not_lt,-Nat.not_le] at g6) <;> (try simp[g6] at hn) <;> (try simp[h2,h22,h23,h24,g6,g4]) <;> (try exact .done hn)
      . have e0:(k:Int)-1=((k-1:Nat):Int):=by omega
        have e1:k-1<e.marks.length:=by omega
        have e2 : ¬ k=0:=by omega
        simp[e0,e1]
        repeat refine⟨by omega,?_⟩
        try simp[e1,e2,notUp] at hn
        refine condW.intro (fun g7=>?_) (fun g7=>?_) <;> (try simp[-Int.not_lt,-Int.not_le,-Nat.not_lt,-Nat.not_le] at g7) <;> (try simp[g7] at hn) <;> (try simp[h2,h22,h23,h24,g7]) <;> (try exact .done hn)
        . simp[hn] at h
          exact .done h
        . refine⟨by omega,ih _ g4 ⟨_,rfl,by simp[h2,h22,h23,h24],by simp[h2,h22,h23,h24],by simp[h2,h22,h23,h24],by simp,?_⟩⟩
          simp[hn,g4]
      . have g8:k=0:=by omega
        subst g8;simp[notUp] at hn;refine⟨by omega,ih _ g4 ⟨_,rfl,by simp[h2,h22,h23,h24],by simp[h2,h22,h23,h24],by simp[h2,h22,h23,h24],by simp,?_⟩⟩
        simp[hn,g4]
    . simp[hn] at h
      exact .done h
  . have:k=e.marks.length:=by omega
    subst this;simp[chkM] at hn;simp[hn] at h;refine callFn Tryz.func41 rfl rfl (within_ok ?_);refine Resume.run lay [] ?_;simp[h2,h22,h23,h24];refine condW.intro (fun g5=>?_) (fun g5=>?_) <;> (try simp[-Int.not_lt,-Int.not_le,-Nat.not_lt,-Nat.not_le] at g5) <;> (try simp[g5] at h) <;> (try simp[h2,h22,h23,h24,g5]) <;> (try exact .done h)
    refine callFn Tryz.func41 rfl rfl (within_ok ?_);refine Resume.run lay [] ?_;simp[h2,h22,h23,h24];refine condW.intro (fun g6=>?_) (fun g6=>?_) <;> (try simp[-Int.not_lt,-Int.not_le,-Nat.not_lt,-Nat.not_le] at g6) <;> (try simp[g6] at h) <;> (try simp[h2,h22,h23,h24,g6]) <;> (try exact .done h)
end Go.Proofs.YtibjfmfdjncniaaGreatDoor
namespace Go.Proofs.YtibjfmfdjncniaaGreatDoor
open Go.Pal Go.Conc
set_option maxHeartbeats 1000000
variable {m:Mo} {σ:Store} {KF:Res->Store->Prop}
theorem rowsErr_zero {n:Nat}:∀ {r:List (List Int)},rowsErr n r=0->∀ l∈r,l.length=n∧∀ x∈l,isIn x 0 9=true
  | [],_,l,hl=>by simp at hl
  | a :: r,h,l,hl=>by
    unfold rowsErr at h;split at h
    . next h0=>
      rcases List.mem_cons.1 hl with rfl|hl
      . unfold rowErr at h0
        split at h0
        . cases h0
        . next h1=>
          split at h0
          . next h2=>exact⟨by simpa using h1,fun x hx=>List.all_eq_true.1 h2 x hx⟩
          . cases h0
      . exact rowsErr_zero h l hl
    . next h0=>exact absurd h h0
theorem rd_eq {r:List (List Int)} {i j:Nat} (hi:i<r.length) (hj:j<r[i].length):rd r i j=r[i][j]:=by
  simp[rd,List.getD_eq_getElem?_getD,hi,hj]
theorem isIn_bd {a lo hi:Int} (h:isIn a lo hi=true):lo≤a∧a≤hi:=by simpa[isIn] using h
theorem checkRoads_ok {r:List (List Int)} (hr:r.length<1152921504606846976) (hl:∀ l∈r,l.length<1152921504606846976) (h:KF (.val (int (roadsErr r))) σ):FnOK Tryz.prog m 40 [rows r] σ KF:=by
  unfold roadsErr at h;refine FnOK.start lay [] pl40 1 Tryz.func40 rfl rfl (by rfl) (by kernel_rfl) ?_
  simp[Tryz.f40];refine condW.intro (fun g1=>?_) (fun g1=>?_) <;> simp at g1 <;> simp[g1]
  . rw[if_pos (show r.length<1 by omega)] at h
    exact .done h
  refine condW.intro (fun g2=>?_) (fun g2=>?_) <;> simp at g2 <;> simp[g2]
  . have e1 : ¬ r.length<1:=by omega
    have e2:3<r.length:=by omega
    rw[if_neg (show ¬ r.length<1 by omega),if_pos e2] at h
    exact .done h
  have e1 : ¬ r.length<1:=by omega
  have e2 : ¬ 3<r.length:=by omega
  rw[if_neg e1,if_neg e2] at h;refine Resume.loop r.length (fun k s => ∃ env,s=⟨env,σ,[],.no⟩∧env 0=rows r∧env 19=rows r∧env 20=int r.length∧env 21=int k∧rowsErr r.length r=rowsErr r.length (r.drop k)) ⟨_,rfl,by simp⟩ ?_
  rintro c0 k _ hk ⟨env,rfl,h0,h19,h20,h21,hn⟩ ih
  refine Resume.run lay [] ?_;simp[h0,h19,h20,h21];refine condW.intro (fun g4=>?_) (fun g4=>?_) <;> (try simp[-Int.not_lt,-Int.not_le,-Nat.not_lt,-Nat.not_le] at g4) <;> (try simp[h0,h19,h20,h21,g4])
  . rw [rowsErr_at _ _ k g4] at hn
    obtain⟨l,hlk⟩:∃ l,l=r[k]:=⟨_,rfl⟩;simp only[← hlk] at hn ⊢;have hl':l.length<1152921504606846976:=hl l (by rw[hlk];exact List.getElem_mem g4)
    refine condW.intro (fun g5=>?_) (fun g5=>?_) <;> simp at g5 <;> simp[g5]
    . have g5':l.length≠r.length:=fun e=>g5 (by rw[e])
      simp[rowErr,g5'] at hn;simp[hn] at h;exact .done h
    have g5':l.length=r.length:=by omega
    refine Resume.loop l.length (fun j s => ∃ env,s=⟨env,σ,[],.no⟩∧env 0=rows r∧env 19=rows r∧env 20=int r.length∧env 21=int k∧env 30=ints l∧env 31=int l.length∧env 32=int j∧(l.take j).all (isIn · 0 9)=true) ⟨_,rfl,by simp[h0,h19,h20,h21,g5',← hlk]⟩ ?_
    clear h0 h19 h20 h21
    rintro c1 j _ hj ⟨env,rfl,h0,h19,h20,h21,h30,h31,h32,hall⟩ ih2
    refine Resume.run lay [] ?_;simp[h0,h19,h20,h21,h30,h31,h32];refine condW.intro (fun g6=>?_) (fun g6=>?_) <;> (try simp[-Int.not_lt,-Int.not_le,-Nat.not_lt,-Nat.not_le] at g6) <;> (try simp[h0,h19,h20,h21,h30,h31,h32,g6])
    . refine callFn Tryz.func41 rfl rfl (within_ok ?_)
      refine Resume.run lay [] ?_;simp[h0,h19,h20,h21,h30,h31,h32];refine condW.intro (fun g7=>?_) (fun g7=>?_) <;> (try simp[-Int.not_lt,-Int.not_le,-Nat.not_lt,-Nat.not_le] at g7) <;> (try simp[h0,h19,h20,h21,h30,h31,h32,g7])
      . refine⟨by omega,ih2 _ g6 ⟨_,rfl,by simp[h0,h19,h20,h21,h30,h31,h32],by simp[h0,h19,h20,h21,h30,h31,h32],by simp[h0,h19,h20,h21,h30,h31,h32],by simp[h0,h19,h20,h21,h30,h31,h32],by simp[h0,h19,h20,h21,h30,h31,h32],by simp[h0,h19,h20,h21,h30,h31,h32],by simp,?_⟩⟩
        rw[List.take_succ_eq_append_getElem g6,List.all_append,hall];simp[g7]
      . have:l.all (isIn · 0 9)=false:=by
          rw[List.all_eq_false];exact⟨_,List.getElem_mem g6,by simp[g7]⟩
        simp[rowErr,g5',this] at hn;simp[hn] at h;exact .done h
    . have:j=l.length:=by omega
      subst this;rw[List.take_length] at hall;have h0':rowErr r.length l=0:=by unfold rowErr;rw[if_neg (by simp[g5']),if_pos hall]
      rw[if_pos h0'] at hn;exact⟨by omega,ih _ g4 ⟨_,rfl,by simp[h0,h19,h20,h21,h30,h31,h32],by simp[h0,h19,h20,h21,h30,h31,h32],by simp[h0,h19,h20,h21,h30,h31,h32],by simp,hn⟩⟩
  have:k=r.length:=by omega
  subst this;simp[rowsErr] at hn;rw[if_neg (by rw[hn];simp)] at h
  clear ih;have hrow:∀ (i:Nat) (hi:i<r.length),r[i].length=r.length:=fun i hi=>(rowsErr_zero hn _ (List.getElem_mem hi)).1
  have hbd:∀ (i:Nat) (hi:i<r.length) (j:Nat) (hj:j<r[i].length),0≤r[i][j]∧r[i][j]≤9:=fun i hi j hj=>isIn_bd ((rowsErr_zero hn _ (List.getElem_mem hi)).2 _ (List.getElem_mem hj))
  refine Resume.loop r.length (fun i s => ∃ env,s=⟨env,σ,[],.no⟩∧env 0=rows r∧env 41=rows r∧env 42=int r.length∧env 43=int i∧∀ i'<i,∀ j<r.length,pairBad r i' j=false) ⟨_,rfl,by simp[h0]⟩ ?_
  clear h0 h19 h20 h21
  rintro c1 i _ hi ⟨env,rfl,h0,h41,h42,h43,hgood⟩ ih
  refine Resume.run lay [] ?_;simp[h0,h41,h42,h43];refine condW.intro (fun g5=>?_) (fun g5=>?_) <;> (try simp[-Int.not_lt,-Int.not_le,-Nat.not_lt,-Nat.not_le] at g5) <;> (try simp[h0,h41,h42,h43,g5])
  . refine Resume.loop r.length (fun j s => ∃ env,s=⟨env,σ,[],.no⟩∧env 0=rows r∧env 41=rows r∧env 42=int r.length∧env 43=int i∧env 8=int i∧env 46=rows r∧env 47=int r.length∧env 48=int j∧∀ j'<j,pairBad r i j'=false) ⟨_,rfl,by simp[h0,h41,h42,h43]⟩ ?_
    clear h0 h41 h42 h43
    rintro c2 j _ hj ⟨env,rfl,h0,h41,h42,h43,h8,h46,h47,h48,hgj⟩ ih2
    refine Resume.run lay [] ?_;simp[h0,h41,h42,h43,h8,h46,h47,h48];refine condW.intro (fun g6=>?_) (fun g6=>?_) <;> (try simp[-Int.not_lt,-Int.not_le,-Nat.not_lt,-Nat.not_le] at g6) <;> (try simp[h0,h41,h42,h43,h8,h46,h47,h48,g6])
    . have q1 : i<r[i].length:=by rw[hrow i g5];exact g5
      have q2:j<r[i].length:=by rw[hrow i g5];exact g6
      have q3:i<r[j].length:=by rw[hrow j g6];exact g5
      simp[h0,h41,h42,h43,h8,h46,h47,h48,g5,g6,q1,q2,q3];refine goT.intro (fun g7=>?_) (fun g7=>?_) <;> (try simp[-Int.not_lt,-Int.not_le,-Nat.not_lt,-Nat.not_le] at g7) <;> (try simp[h0,h41,h42,h43,h8,h46,h47,h48,g7,g5,g6,q1,q2,q3])
      . refine Resume.run lay [] ?_
        simp[h0,h41,h42,h43,h8,h46,h47,h48];refine condW.intro (fun g8=>?_) (fun g8=>?_) <;> (try simp[-Int.not_lt,-Int.not_le,-Nat.not_lt,-Nat.not_le] at g8) <;> (try simp[h0,h41,h42,h43,h8,h46,h47,h48,g8])
        ·
          have hb:pairBad r i j=true:=by
            unfold pairBad;rw[rd_eq g5 q2,rd_eq g6 q3];simp[g8]
          have:((List.range r.length).any fun i=>(List.range r.length).any fun j=>pairBad r i j)=true:=List.any_eq_true.2 ⟨i,List.mem_range.2 g5,List.any_eq_true.2 ⟨j,List.mem_range.2 g6,hb⟩⟩
          rw[if_pos this] at h;exact .done h
        . refine Resume.loop r.length (fun k s => ∃ env,s=⟨env,σ,[],.no⟩∧env 0=rows r∧env 41=rows r∧env 42=int r.length∧env 43=int i∧env 8=int i∧env 46=rows r∧env 47=int r.length∧env 48=int j∧env 9=int j∧env 76=rows r∧env 77=int r.length∧env 78=int k∧∀ k'<k,¬ rd r i j > rd r i k'+rd r k' j) ⟨_,rfl,by simp[h0,h41,h42,h43,h8,h46,h47,h48]⟩ ?_
          clear h0 h41 h42 h43 h8 h46 h47 h48
          rintro c3 k _ hk ⟨env,rfl,h0,h41,h42,h43,h8,h46,h47,h48,h9,h76,h77,h78,hgk⟩ ih3
          refine Resume.run lay [] ?_;simp[h0,h41,h42,h43,h8,h46,h47,h48,h9,h76,h77,h78];refine condW.intro (fun g9=>?_) (fun g9=>?_) <;> (try simp[-Int.not_lt,-Int.not_le,-Nat.not_lt,-Nat.not_le] at g9) <;> (try simp[h0,h41,h42,h43,h8,h46,h47,h48,h9,h76,h77,h78,g9])
          . have p1:k<r[i].length:=by rw[hrow i g5];exact g9
            have p2:j<r[k].length:=by rw[hrow k g9];exact g6
            have b1:=hbd i g5 k p1;have b2:=hbd k g9 j p2;have f1 : -9223372036854775808≤r[i][k]+r[k][j]:=by omega
            have f2:r[i][k]+r[k][j]≤9223372036854775807:=by omega
            simp[h0,h41,h42,h43,h8,h46,h47,h48,h9,h76,h77,h78,g5,g6,g9,q2,p1,p2,f1,f2];refine Resume.run lay [] ?_;simp[h0,h41,h42,h43,h8,h46,h47,h48,h9,h76,h77,h78];refine condW.intro (fun g10=>?_) (fun g10=>?_) <;> (try simp[-Int.not_lt,-Int.not_le,-Nat.not_lt,-Nat.not_le] at g10) <;> (try simp[h0,h41,h42,h43,h8,h46,h47,h48,h9,h76,h77,h78,g10])
            . have hb:pairBad r i j=true:=by
                unfold pairBad;have:((List.range r.length).any fun k=>decide (rd r i j > rd r i k+rd r k j))=true:=List.any_eq_true.2 ⟨k,List.mem_range.2 g9,by rw[rd_eq g5 q2,rd_eq g5 p1,rd_eq g9 p2];simpa using g10⟩
                rw[this];simp
              have:((List.range r.length).any fun i=>(List.range r.length).any fun j=>pairBad r i j)=true:=List.any_eq_true.2 ⟨i,List.mem_range.2 g5,List.any_eq_true.2 ⟨j,List.mem_range.2 g6,hb⟩⟩
              rw[if_pos this] at h;exact .done h
            . refine⟨by omega,ih3 _ g9 ⟨_,rfl,by simp[h0,h41,h42,h43,h8,h46,h47,h48,h9,h76,h77,h78],by simp[h0,h41,h42,h43,h8,h46,h47,h48,h9,h76,h77,h78],by simp[h0,h41,h42,h43,h8,h46,h47,h48,h9,h76,h77,h78],by simp[h0,h41,h42,h43,h8,h46,h47,h48,h9,h76,h77,h78],by simp[h0,h41,h42,h43,h8,h46,h47,h48,h9,h76,h77,h78],by simp[h0,h41,h42,h43,h8,h46,h47,h48,h9,h76,h77,h78],by simp[h0,h41,h42,h43,h8,h46,h47,h48,h9,h76,h77,h78],by simp[h0,h41,h42,h43,h8,h46,h47,h48,h9,h76,h77,h78],by simp[h0,h41,h42,h43,h8,h46,h47,h48,h9,h76,h77,h78],by simp[h0,h41,h42,h43,h8,h46,h47,h48,h9,h76,h77,h78],by simp[h0,h41,h42,h43,h8,h46,h47,h48,h9,h76,h77,h78],by simp,fun k' hk'=>?_⟩⟩
              by_cases e:k'=k
              . subst e
                rw[rd_eq g5 q2,rd_eq g5 p1,rd_eq g9 p2];omega
              . exact hgk k' (by omega)
          . have:k=r.length:=by omega
            subst this;refine⟨by omega,ih2 _ g6 ⟨_,rfl,by simp[h0,h41,h42,h43,h8,h46,h47,h48,h9,h76,h77,h78],by simp[h0,h41,h42,h43,h8,h46,h47,h48,h9,h76,h77,h78],by simp[h0,h41,h42,h43,h8,h46,h47,h48,h9,h76,h77,h78],by simp[h0,h41,h42,h43,h8,h46,h47,h48,h9,h76,h77,h78],by simp[h0,h41,h42,h43,h8,h46,h47,h48,h9,h76,h77,h78],by simp[h0,h41,h42,h43,h8,h46,h47,h48,h9,h76,h77,h78],by simp[h0,h41,h42,h43,h8,h46,h47,h48,h9,h76,h77,h78],by simp,fun j' hj'=>?_⟩⟩
            by_cases e:j'=j
            . subst e
              unfold pairBad
              have e1:((List.range r.length).any fun k=>decide (rd r i j' > rd r i k+rd r k j'))=false:=by
                rw[List.any_eq_false];intro k hk;simpa using hgk k (List.mem_range.1 hk)
              have e2:rd r i i=0:=by rw[rd_eq g5 q1];exact g7
              have e3:rd r i j'=rd r j' i:=by rw[rd_eq g5 q2,rd_eq g6 q3];exact g8
              rw[e1,e2,e3];simp
            . exact hgj j' (by omega)
      . have e:(r[i][i] != 0)=true:=by simp[g7]
        simp[h0,h41,h42,h43,h8,h46,h47,h48,e];refine Resume.run lay [] ?_;simp[h0,h41,h42,h43,h8,h46,h47,h48]
        have hb:pairBad r i j=true:=by
          unfold pairBad;rw[rd_eq g5 q1];simp[g7]
        have:((List.range r.length).any fun i=>(List.range r.length).any fun j=>pairBad r i j)=true:=List.any_eq_true.2 ⟨i,List.mem_range.2 g5,List.any_eq_true.2 ⟨j,List.mem_range.2 g6,hb⟩⟩
        rw[if_pos this] at h;exact .done h
    . have:j=r.length:=by omega
      subst this;refine⟨by omega,ih _ g5 ⟨_,rfl,by simp[h0,h41,h42,h43,h8,h46,h47,h48],by simp[h0,h41,h42,h43,h8,h46,h47,h48],by simp[h0,h41,h42,h43,h8,h46,h47,h48],by simp,fun i' hi' j hj'=>?_⟩⟩
      by_cases e:i'=i
      . subst e;exact hgj j hj'
      . exact hgood i' (by omega) j hj'
  . have:i=r.length:=by omega
    subst this
    have:((List.range r.length).any fun i=>(List.range r.length).any fun j=>pairBad r i j)=false:=by
      rw[List.any_eq_false];intro i hi;rw[Bool.not_eq_true,List.any_eq_false];intro j hj;rw[hgood i (List.mem_range.1 hi) j (List.mem_range.1 hj)];simp
    rw[this] at h;exact .done (by simpa using h)
end Go.Proofs.YtibjfmfdjncniaaGreatDoor

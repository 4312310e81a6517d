/- Part 29 of the proof. -/
import Derived.Test.YtgpeapadphphpaaGreatDoorProg
import Derived.Test.YtgpeapadphphpaaGreatDoorC28
set_option linter.all false
namespace Go.Proofs.YtgpeapadphphpaaGreatDoor
open Go.Pal
set_option maxRecDepth 100000
def tyList:List (Nat × TI):=[
  (1,⟨.func,1,8,.nilFunc,[]⟩),
  (2,⟨.int .i64,1,8,(.int .i64 0),[]⟩),
  (3,⟨.int .i64,1,8,(.int .i64 0),[]⟩),
  (4,⟨.bool,1,1,(.bool false),[]⟩),
  (5,⟨.int .u8,1,1,(.int .u8 0),[]⟩),
  (6,⟨.int .u8,1,1,(.int .u8 0),[]⟩),
  (7,⟨.struct,4,24,(.agg #[(.int .i64 0),(.int .i64 0),(.bool false),(.int .u8 0)]),[(0,1,2),(1,1,3),(2,1,4),(3,1,6)]⟩),
  (8,⟨.struct,4,24,(.agg #[(.int .i64 0),(.int .i64 0),(.bool false),(.int .u8 0)]),[(0,1,2),(1,1,3),(2,1,4),(3,1,6)]⟩),
  (9,⟨.string,1,16,(.string ByteArray.empty),[]⟩),
  (10,⟨.string,1,16,(.string ByteArray.empty),[]⟩),
  (11,⟨.string,1,16,(.string ByteArray.empty),[]⟩),
  (12,⟨.int .u64,1,8,(.int .u64 0),[]⟩),
  (13,⟨.struct,2,24,(.agg #[(.string ByteArray.empty),(.int .u64 0)]),[(0,1,9),(1,1,12)]⟩),
  (14,⟨.struct,2,24,(.agg #[(.string ByteArray.empty),(.int .u64 0)]),[(0,1,9),(1,1,12)]⟩),
  (15,⟨.pointer 189,1,8,(.pointer none),[]⟩),
  (16,⟨.pointer 192,1,8,(.pointer none),[]⟩),
  (17,⟨.pointer 200,1,8,(.pointer none),[]⟩),
  (18,⟨.struct,1,8,(.agg #[(.pointer none)]),[(0,1,17)]⟩),
  (19,⟨.struct,1,8,(.agg #[(.pointer none)]),[(0,1,17)]⟩),
  (20,⟨.iface,1,16,.nilIface,[]⟩),
  (21,⟨.int .i32,1,4,(.int .i32 0),[]⟩),
  (22,⟨.slice 3,1,24,(.slice none 0 0),[]⟩),
  (23,⟨.slice 49,1,24,(.slice none 0 0),[]⟩),
  (24,⟨.slice 22,1,24,(.slice none 0 0),[]⟩),
  (25,⟨.struct,2,16,(.agg #[(.int .i64 0),(.int .i64 0)]),[(0,1,3),(1,1,3)]⟩),
  (26,⟨.struct,2,16,(.agg #[(.int .i64 0),(.int .i64 0)]),[(0,1,3),(1,1,3)]⟩),
  (27,⟨.struct,6,80,(.agg #[(.slice none 0 0),(.slice none 0 0),(.int .i64 0),(.int .i64 0),(.int .i64 0),(.int .i64 0)]),[(0,1,23),(1,1,24),(2,2,26),(4,1,3),(5,1,3)]⟩),
  (28,⟨.struct,6,80,(.agg #[(.slice none 0 0),(.slice none 0 0),(.int .i64 0),(.int .i64 0),(.int .i64 0),(.int .i64 0)]),[(0,1,23),(1,1,24),(2,2,26),(4,1,3),(5,1,3)]⟩),
  (29,⟨.func,1,8,.nilFunc,[]⟩),
  (30,⟨.pointer 53,1,8,(.pointer none),[]⟩),
  (31,⟨.func,1,8,.nilFunc,[]⟩),
  (32,⟨.int .i64,1,8,(.int .i64 0),[]⟩),
  (37,⟨.func,1,8,.nilFunc,[]⟩),
  (39,⟨.func,1,8,.nilFunc,[]⟩),
  (43,⟨.func,1,8,.nilFunc,[]⟩),
  (45,⟨.func,1,8,.nilFunc,[]⟩),
  (47,⟨.func,1,8,.nilFunc,[]⟩),
  (49,⟨.struct,6,64,(.agg #[(.int .i64 0),(.int .i64 0),(.int .i64 0),(.slice none 0 0),(.int .i64 0),(.int .i64 0)]),[(0,1,3),(1,1,3),(2,1,3),(3,1,22),(4,1,3),(5,1,3)]⟩),
  (51,⟨.int .u64,1,8,(.int .u64 0),[]⟩),
  (53,⟨.struct,3,40,(.agg #[(.slice none 0 0),(.int .i64 0),(.int .u64 0)]),[(0,1,22),(1,1,3),(2,1,51)]⟩),
  (54,⟨.pointer 85,1,8,(.pointer none),[]⟩),
  (58,⟨.func,1,8,.nilFunc,[]⟩),
  (60,⟨.func,1,8,.nilFunc,[]⟩),
  (62,⟨.iface,1,16,.nilIface,[]⟩),
  (63,⟨.iface,1,16,.nilIface,[]⟩),
  (64,⟨.func,1,8,.nilFunc,[]⟩),
  (67,⟨.func,1,8,.nilFunc,[]⟩),
  (70,⟨.struct,1,8,(.agg #[(.int .i64 0)]),[(0,1,32)]⟩),
  (72,⟨.iface,1,16,.nilIface,[]⟩),
  (73,⟨.iface,1,16,.nilIface,[]⟩),
  (75,⟨.pointer 70,1,8,(.pointer none),[]⟩),
  (77,⟨.struct,0,0,(.agg #[]),[]⟩),
  (78,⟨.int .u32,1,4,(.int .u32 0),[]⟩),
  (80,⟨.struct,2,8,(.agg #[(.int .i32 0),(.int .u32 0)]),[(0,1,21),(1,1,78)]⟩),
  (82,⟨.struct,2,8,(.agg #[(.int .i32 0),(.int .u32 0)]),[(0,0,77),(0,2,80)]⟩),
  (83,⟨.map 132 4,1,8,(.map none),[]⟩),
  (85,⟨.struct,9,96,(.agg #[(.slice none 0 0),(.slice none 0 0),(.int .i64 0),(.int .i64 0),(.int .i64 0),(.int .i64 0),(.int .i32 0),(.int .u32 0),(.map none)]),[(0,6,28),(6,2,82),(8,1,83)]⟩),
  (86,⟨.func,1,8,.nilFunc,[]⟩),
  (91,⟨.struct,3,40,(.agg #[(.slice none 0 0),(.int .i64 0),(.bool false)]),[(0,1,22),(1,1,3),(2,1,4)]⟩),
  (98,⟨.func,1,8,.nilFunc,[]⟩),
  (99,⟨.func,1,8,.nilFunc,[]⟩),
  (101,⟨.struct,1,8,(.agg #[.nilFunc]),[(0,1,45)]⟩),
  (102,⟨.struct,1,8,(.agg #[.nilFunc]),[(0,1,45)]⟩),
  (103,⟨.struct,0,0,(.agg #[]),[]⟩),
  (104,⟨.struct,0,0,(.agg #[]),[]⟩),
  (105,⟨.struct,0,0,(.agg #[]),[]⟩),
  (106,⟨.slice 63,1,24,(.slice none 0 0),[]⟩),
  (109,⟨.int .u64,1,8,(.int .u64 0),[]⟩),
  (111,⟨.int .u64,1,8,(.int .u64 0),[]⟩),
  (113,⟨.struct,3,24,(.agg #[(.pointer none),(.pointer none),(.int .u64 0)]),[(0,1,17),(1,1,110),(2,1,111)]⟩),
  (114,⟨.func,1,8,.nilFunc,[]⟩),
  (115,⟨.iface,1,16,.nilIface,[]⟩),
  (116,⟨.iface,1,16,.nilIface,[]⟩),
  (118,⟨.int .u8,1,1,(.int .u8 0),[]⟩),
  (121,⟨.func,1,8,.nilFunc,[]⟩),
  (123,⟨.chan 3,1,8,(.chan none),[]⟩),
  (124,⟨.struct,0,0,(.agg #[]),[]⟩),
  (125,⟨.struct,0,0,(.agg #[]),[]⟩),
  (127,⟨.struct,1,8,(.agg #[(.int .u64 0)]),[(0,0,124),(0,0,125),(0,1,51)]⟩),
  (129,⟨.struct,2,16,(.agg #[(.int .u64 0),(.int .u32 0)]),[(0,0,77),(0,1,127),(1,1,78)]⟩),
  (132,⟨.struct,1,1,(.agg #[(.int .u8 0)]),[(0,1,5)]⟩),
  (133,⟨.array 6 132,6,6,(.agg #[(.int .u8 0),(.int .u8 0),(.int .u8 0),(.int .u8 0),(.int .u8 0),(.int .u8 0)]),[]⟩),
  (136,⟨.pointer 91,1,8,(.pointer none),[]⟩),
  (143,⟨.struct,1,8,(.agg #[(.pointer none)]),[(0,1,17)]⟩),
  (147,⟨.func,1,8,.nilFunc,[]⟩),
  (156,⟨.pointer 129,1,8,(.pointer none),[]⟩),
  (158,⟨.int .i64,1,8,(.int .i64 0),[]⟩),
  (162,⟨.pointer 78,1,8,(.pointer none),[]⟩),
  (178,⟨.pointer 82,1,8,(.pointer none),[]⟩),
  (189,⟨.struct,4,40,(.agg #[(.pointer none),(.pointer none),(.pointer none),(.string ByteArray.empty)]),[(0,1,17),(1,1,17),(2,1,17),(3,1,9)]⟩),
  (190,⟨.array 0 16,0,0,(.agg #[]),[]⟩),
  (192,⟨.struct,0,0,(.agg #[]),[(0,0,190)]⟩),
  (194,⟨.int .u8,1,1,(.int .u8 0),[]⟩),
  (195,⟨.func,1,8,.nilFunc,[]⟩),
  (196,⟨.pointer 5,1,8,(.pointer none),[]⟩),
  (197,⟨.int .i32,1,4,(.int .i32 0),[]⟩),
  (198,⟨.int .i32,1,4,(.int .i32 0),[]⟩),
  (200,⟨.struct,11,48,(.agg #[(.int .u64 0),(.int .u64 0),(.int .u32 0),(.int .u8 0),(.int .u8 0),(.int .u8 0),(.int .u8 0),.nilFunc,(.pointer none),(.int .i32 0),(.int .i32 0)]),[(0,1,12),(1,1,12),(2,1,78),(3,1,194),(4,1,5),(5,1,5),(6,1,118),(7,1,195),(8,1,196),(9,1,197),(10,1,198)]⟩),
  (201,⟨.int .u8,1,1,(.int .u8 0),[]⟩)]
theorem tyList_ok:(tyList.all fun x=>x.2.check Tryz.prog x.1)=true:=by kernel_rfl
def tyTable (t:Nat):Option TI:=(tyList.find? fun x=>x.1 == t).map (·.2)
theorem tyTable_ok (t:Nat) (i:TI) (h:tyTable t=some i):i.check Tryz.prog t=true:=by
  unfold tyTable at h;obtain ⟨x,hx,rfl⟩:=Option.map_eq_some_iff.1 h;have h1:=List.find?_some hx;have h2:=List.all_eq_true.1 tyList_ok x (List.mem_of_find?_eq_some hx);rw [beq_iff_eq.1 h1] at h2;exact h2
def lay:Lay Tryz.prog:=⟨tyTable,tyTable_ok,by kernel_rfl⟩
@[simp] theorem tt1:lay.tt 1=some ⟨.func,1,8,.nilFunc,[]⟩:=rfl
@[simp] theorem tt2:lay.tt 2=some ⟨.int .i64,1,8,(.int .i64 0),[]⟩:=rfl
@[simp] theorem tt3:lay.tt 3=some ⟨.int .i64,1,8,(.int .i64 0),[]⟩:=rfl
@[simp] theorem tt4:lay.tt 4=some ⟨.bool,1,1,(.bool false),[]⟩:=rfl
@[simp] theorem tt5:lay.tt 5=some ⟨.int .u8,1,1,(.int .u8 0),[]⟩:=rfl
@[simp] theorem tt6:lay.tt 6=some ⟨.int .u8,1,1,(.int .u8 0),[]⟩:=rfl
@[simp] theorem tt7:lay.tt 7=some ⟨.struct,4,24,(.agg #[(.int .i64 0),(.int .i64 0),(.bool false),(.int .u8 0)]),[(0,1,2),(1,1,3),(2,1,4),(3,1,6)]⟩:=rfl
@[simp] theorem tt8:lay.tt 8=some ⟨.struct,4,24,(.agg #[(.int .i64 0),(.int .i64 0),(.bool false),(.int .u8 0)]),[(0,1,2),(1,1,3),(2,1,4),(3,1,6)]⟩:=rfl
@[simp] theorem tt9:lay.tt 9=some ⟨.string,1,16,(.string ByteArray.empty),[]⟩:=rfl
@[simp] theorem tt10:lay.tt 10=some ⟨.string,1,16,(.string ByteArray.empty),[]⟩:=rfl
@[simp] theorem tt11:lay.tt 11=some ⟨.string,1,16,(.string ByteArray.empty),[]⟩:=rfl
@[simp] theorem tt12:lay.tt 12=some ⟨.int .u64,1,8,(.int .u64 0),[]⟩:=rfl
@[simp] theorem tt13:lay.tt 13=some ⟨.struct,2,24,(.agg #[(.string ByteArray.empty),(.int .u64 0)]),[(0,1,9),(1,1,12)]⟩:=rfl
@[simp] theorem tt14:lay.tt 14=some ⟨.struct,2,24,(.agg #[(.string ByteArray.empty),(.int .u64 0)]),[(0,1,9),(1,1,12)]⟩:=rfl
@[simp] theorem tt15:lay.tt 15=some ⟨.pointer 189,1,8,(.pointer none),[]⟩:=rfl
@[simp] theorem tt16:lay.tt 16=some ⟨.pointer 192,1,8,(.pointer none),[]⟩:=rfl
@[simp] theorem tt17:lay.tt 17=some ⟨.pointer 200,1,8,(.pointer none),[]⟩:=rfl
@[simp] theorem tt18:lay.tt 18=some ⟨.struct,1,8,(.agg #[(.pointer none)]),[(0,1,17)]⟩:=rfl
@[simp] theorem tt19:lay.tt 19=some ⟨.struct,1,8,(.agg #[(.pointer none)]),[(0,1,17)]⟩:=rfl
@[simp] theorem tt20:lay.tt 20=some ⟨.iface,1,16,.nilIface,[]⟩:=rfl
@[simp] theorem tt21:lay.tt 21=some ⟨.int .i32,1,4,(.int .i32 0),[]⟩:=rfl
@[simp] theorem tt22:lay.tt 22=some ⟨.slice 3,1,24,(.slice none 0 0),[]⟩:=rfl
@[simp] theorem tt23:lay.tt 23=some ⟨.slice 49,1,24,(.slice none 0 0),[]⟩:=rfl
@[simp] theorem tt24:lay.tt 24=some ⟨.slice 22,1,24,(.slice none 0 0),[]⟩:=rfl
@[simp] theorem tt25:lay.tt 25=some ⟨.struct,2,16,(.agg #[(.int .i64 0),(.int .i64 0)]),[(0,1,3),(1,1,3)]⟩:=rfl
@[simp] theorem tt26:lay.tt 26=some ⟨.struct,2,16,(.agg #[(.int .i64 0),(.int .i64 0)]),[(0,1,3),(1,1,3)]⟩:=rfl
@[simp] theorem tt27:lay.tt 27=some ⟨.struct,6,80,(.agg #[(.slice none 0 0),(.slice none 0 0),(.int .i64 0),(.int .i64 0),(.int .i64 0),(.int .i64 0)]),[(0,1,23),(1,1,24),(2,2,26),(4,1,3),(5,1,3)]⟩:=rfl
@[simp] theorem tt28:lay.tt 28=some ⟨.struct,6,80,(.agg #[(.slice none 0 0),(.slice none 0 0),(.int .i64 0),(.int .i64 0),(.int .i64 0),(.int .i64 0)]),[(0,1,23),(1,1,24),(2,2,26),(4,1,3),(5,1,3)]⟩:=rfl
@[simp] theorem tt29:lay.tt 29=some ⟨.func,1,8,.nilFunc,[]⟩:=rfl
@[simp] theorem tt30:lay.tt 30=some ⟨.pointer 53,1,8,(.pointer none),[]⟩:=rfl
@[simp] theorem tt31:lay.tt 31=some ⟨.func,1,8,.nilFunc,[]⟩:=rfl
@[simp] theorem tt32:lay.tt 32=some ⟨.int .i64,1,8,(.int .i64 0),[]⟩:=rfl
@[simp] theorem tt37:lay.tt 37=some ⟨.func,1,8,.nilFunc,[]⟩:=rfl
@[simp] theorem tt39:lay.tt 39=some ⟨.func,1,8,.nilFunc,[]⟩:=rfl
@[simp] theorem tt43:lay.tt 43=some ⟨.func,1,8,.nilFunc,[]⟩:=rfl
@[simp] theorem tt45:lay.tt 45=some ⟨.func,1,8,.nilFunc,[]⟩:=rfl
@[simp] theorem tt47:lay.tt 47=some ⟨.func,1,8,.nilFunc,[]⟩:=rfl
@[simp] theorem tt49:lay.tt 49=some ⟨.struct,6,64,(.agg #[(.int .i64 0),(.int .i64 0),(.int .i64 0),(.slice none 0 0),(.int .i64 0),(.int .i64 0)]),[(0,1,3),(1,1,3),(2,1,3),(3,1,22),(4,1,3),(5,1,3)]⟩:=rfl
@[simp] theorem tt51:lay.tt 51=some ⟨.int .u64,1,8,(.int .u64 0),[]⟩:=rfl
@[simp] theorem tt53:lay.tt 53=some ⟨.struct,3,40,(.agg #[(.slice none 0 0),(.int .i64 0),(.int .u64 0)]),[(0,1,22),(1,1,3),(2,1,51)]⟩:=rfl
@[simp] theorem tt54:lay.tt 54=some ⟨.pointer 85,1,8,(.pointer none),[]⟩:=rfl
@[simp] theorem tt58:lay.tt 58=some ⟨.func,1,8,.nilFunc,[]⟩:=rfl
@[simp] theorem tt60:lay.tt 60=some ⟨.func,1,8,.nilFunc,[]⟩:=rfl
@[simp] theorem tt62:lay.tt 62=some ⟨.iface,1,16,.nilIface,[]⟩:=rfl
@[simp] theorem tt63:lay.tt 63=some ⟨.iface,1,16,.nilIface,[]⟩:=rfl
@[simp] theorem tt64:lay.tt 64=some ⟨.func,1,8,.nilFunc,[]⟩:=rfl
@[simp] theorem tt67:lay.tt 67=some ⟨.func,1,8,.nilFunc,[]⟩:=rfl
@[simp] theorem tt70:lay.tt 70=some ⟨.struct,1,8,(.agg #[(.int .i64 0)]),[(0,1,32)]⟩:=rfl
@[simp] theorem tt72:lay.tt 72=some ⟨.iface,1,16,.nilIface,[]⟩:=rfl
@[simp] theorem tt73:lay.tt 73=some ⟨.iface,1,16,.nilIface,[]⟩:=rfl
@[simp] theorem tt75:lay.tt 75=some ⟨.pointer 70,1,8,(.pointer none),[]⟩:=rfl
@[simp] theorem tt77:lay.tt 77=some ⟨.struct,0,0,(.agg #[]),[]⟩:=rfl
@[simp] theorem tt78:lay.tt 78=some ⟨.int .u32,1,4,(.int .u32 0),[]⟩:=rfl
@[simp] theorem tt80:lay.tt 80=some ⟨.struct,2,8,(.agg #[(.int .i32 0),(.int .u32 0)]),[(0,1,21),(1,1,78)]⟩:=rfl
@[simp] theorem tt82:lay.tt 82=some ⟨.struct,2,8,(.agg #[(.int .i32 0),(.int .u32 0)]),[(0,0,77),(0,2,80)]⟩:=rfl
@[simp] theorem tt83:lay.tt 83=some ⟨.map 132 4,1,8,(.map none),[]⟩:=rfl
@[simp] theorem tt85:lay.tt 85=some ⟨.struct,9,96,(.agg #[(.slice none 0 0),(.slice none 0 0),(.int .i64 0),(.int .i64 0),(.int .i64 0),(.int .i64 0),(.int .i32 0),(.int .u32 0),(.map none)]),[(0,6,28),(6,2,82),(8,1,83)]⟩:=rfl
@[simp] theorem tt86:lay.tt 86=some ⟨.func,1,8,.nilFunc,[]⟩:=rfl
@[simp] theorem tt91:lay.tt 91=some ⟨.struct,3,40,(.agg #[(.slice none 0 0),(.int .i64 0),(.bool false)]),[(0,1,22),(1,1,3),(2,1,4)]⟩:=rfl
@[simp] theorem tt98:lay.tt 98=some ⟨.func,1,8,.nilFunc,[]⟩:=rfl
@[simp] theorem tt99:lay.tt 99=some ⟨.func,1,8,.nilFunc,[]⟩:=rfl
@[simp] theorem tt101:lay.tt 101=some ⟨.struct,1,8,(.agg #[.nilFunc]),[(0,1,45)]⟩:=rfl
@[simp] theorem tt102:lay.tt 102=some ⟨.struct,1,8,(.agg #[.nilFunc]),[(0,1,45)]⟩:=rfl
@[simp] theorem tt103:lay.tt 103=some ⟨.struct,0,0,(.agg #[]),[]⟩:=rfl
@[simp] theorem tt104:lay.tt 104=some ⟨.struct,0,0,(.agg #[]),[]⟩:=rfl
@[simp] theorem tt105:lay.tt 105=some ⟨.struct,0,0,(.agg #[]),[]⟩:=rfl
@[simp] theorem tt106:lay.tt 106=some ⟨.slice 63,1,24,(.slice none 0 0),[]⟩:=rfl
@[simp] theorem tt109:lay.tt 109=some ⟨.int .u64,1,8,(.int .u64 0),[]⟩:=rfl
@[simp] theorem tt111:lay.tt 111=some ⟨.int .u64,1,8,(.int .u64 0),[]⟩:=rfl
@[simp] theorem tt113:lay.tt 113=some ⟨.struct,3,24,(.agg #[(.pointer none),(.pointer none),(.int .u64 0)]),[(0,1,17),(1,1,110),(2,1,111)]⟩:=rfl
@[simp] theorem tt114:lay.tt 114=some ⟨.func,1,8,.nilFunc,[]⟩:=rfl
@[simp] theorem tt115:lay.tt 115=some ⟨.iface,1,16,.nilIface,[]⟩:=rfl
@[simp] theorem tt116:lay.tt 116=some ⟨.iface,1,16,.nilIface,[]⟩:=rfl
@[simp] theorem tt118:lay.tt 118=some ⟨.int .u8,1,1,(.int .u8 0),[]⟩:=rfl
@[simp] theorem tt121:lay.tt 121=some ⟨.func,1,8,.nilFunc,[]⟩:=rfl
@[simp] theorem tt123:lay.tt 123=some ⟨.chan 3,1,8,(.chan none),[]⟩:=rfl
@[simp] theorem tt124:lay.tt 124=some ⟨.struct,0,0,(.agg #[]),[]⟩:=rfl
@[simp] theorem tt125:lay.tt 125=some ⟨.struct,0,0,(.agg #[]),[]⟩:=rfl
@[simp] theorem tt127:lay.tt 127=some ⟨.struct,1,8,(.agg #[(.int .u64 0)]),[(0,0,124),(0,0,125),(0,1,51)]⟩:=rfl
@[simp] theorem tt129:lay.tt 129=some ⟨.struct,2,16,(.agg #[(.int .u64 0),(.int .u32 0)]),[(0,0,77),(0,1,127),(1,1,78)]⟩:=rfl
@[simp] theorem tt132:lay.tt 132=some ⟨.struct,1,1,(.agg #[(.int .u8 0)]),[(0,1,5)]⟩:=rfl
@[simp] theorem tt133:lay.tt 133=some ⟨.array 6 132,6,6,(.agg #[(.int .u8 0),(.int .u8 0),(.int .u8 0),(.int .u8 0),(.int .u8 0),(.int .u8 0)]),[]⟩:=rfl
@[simp] theorem tt136:lay.tt 136=some ⟨.pointer 91,1,8,(.pointer none),[]⟩:=rfl
@[simp] theorem tt143:lay.tt 143=some ⟨.struct,1,8,(.agg #[(.pointer none)]),[(0,1,17)]⟩:=rfl
@[simp] theorem tt147:lay.tt 147=some ⟨.func,1,8,.nilFunc,[]⟩:=rfl
@[simp] theorem tt156:lay.tt 156=some ⟨.pointer 129,1,8,(.pointer none),[]⟩:=rfl
@[simp] theorem tt158:lay.tt 158=some ⟨.int .i64,1,8,(.int .i64 0),[]⟩:=rfl
@[simp] theorem tt162:lay.tt 162=some ⟨.pointer 78,1,8,(.pointer none),[]⟩:=rfl
@[simp] theorem tt178:lay.tt 178=some ⟨.pointer 82,1,8,(.pointer none),[]⟩:=rfl
@[simp] theorem tt189:lay.tt 189=some ⟨.struct,4,40,(.agg #[(.pointer none),(.pointer none),(.pointer none),(.string ByteArray.empty)]),[(0,1,17),(1,1,17),(2,1,17),(3,1,9)]⟩:=rfl
@[simp] theorem tt190:lay.tt 190=some ⟨.array 0 16,0,0,(.agg #[]),[]⟩:=rfl
@[simp] theorem tt192:lay.tt 192=some ⟨.struct,0,0,(.agg #[]),[(0,0,190)]⟩:=rfl
@[simp] theorem tt194:lay.tt 194=some ⟨.int .u8,1,1,(.int .u8 0),[]⟩:=rfl
@[simp] theorem tt195:lay.tt 195=some ⟨.func,1,8,.nilFunc,[]⟩:=rfl
@[simp] theorem tt196:lay.tt 196=some ⟨.pointer 5,1,8,(.pointer none),[]⟩:=rfl
@[simp] theorem tt197:lay.tt 197=some ⟨.int .i32,1,4,(.int .i32 0),[]⟩:=rfl
@[simp] theorem tt198:lay.tt 198=some ⟨.int .i32,1,4,(.int .i32 0),[]⟩:=rfl
@[simp] theorem tt200:lay.tt 200=some ⟨.struct,11,48,(.agg #[(.int .u64 0),(.int .u64 0),(.int .u32 0),(.int .u8 0),(.int .u8 0),(.int .u8 0),(.int .u8 0),.nilFunc,(.pointer none),(.int .i32 0),(.int .i32 0)]),[(0,1,12),(1,1,12),(2,1,78),(3,1,194),(4,1,5),(5,1,5),(6,1,118),(7,1,195),(8,1,196),(9,1,197),(10,1,198)]⟩:=rfl
@[simp] theorem tt201:lay.tt 201=some ⟨.int .u8,1,1,(.int .u8 0),[]⟩:=rfl
end Go.Proofs.YtgpeapadphphpaaGreatDoor
namespace Go.Proofs.YtgpeapadphphpaaGreatDoor
open Go.Pal
abbrev pl4:List Entry:=[⟨9,.take [0,1,2,3,4] false (.one 5 (.take [6,7,8,9,10] true (.done)))⟩,⟨13,.take [0,1,2,3,4,5,6,7,8,9,10,11,12] false (.one 13 (.take [14,15,16,17,18] true (.done)))⟩,⟨14,.take [0,1,2,3,4,5,6,7,8,9,10,11,12] false (.one 13 (.take [14,15,16,17,18] true (.done)))⟩,⟨20,.take [0,1,2,3,4,5,8,9,10,11,12,13] false (.both 6 (.both 7 (.one 14 (.one 15 (.one 16 (.take [17,18,19,20,21] true (.done))))) (.one 14 (.one 7 (.one 15 (.one 16 (.take [17,18,19,20,21] true (.done))))))) (.one 14 (.one 6 (.one 7 (.one 15 (.one 16 (.take [17,18,19,20,21] true (.done))))))))⟩]
abbrev pl5:List Entry:=[⟨7,.take [0,2,6] false (.both 1 (.one 3 (.one 4 (.one 5 (.one 7 (.done))))) (.one 3 (.both 1 (.one 4 (.one 5 (.one 7 (.done)))) (.one 4 (.take [1] true (.one 5 (.one 7 (.done))))))))⟩,⟨15,.take [0,2,5,6,8,11,12,13] false (.both 1 (.take [3,4,14] false (.one 7 (.take [9,10,16] false (.one 15 (.one 17 (.done)))))) (.one 7 (.take [9,10,16] false (.take [1,3,4,14] true (.one 15 (.one 17 (.done)))))))⟩,⟨21,.take [0,2,3,7] false (.both 1 (.one 4 (.one 5 (.one 6 (.one 8 (.done))))) (.one 4 (.both 1 (.one 5 (.one 6 (.one 8 (.done)))) (.one 5 (.take [1] true (.one 6 (.one 8 (.done))))))))⟩]
abbrev pl10:List Entry:=[⟨4,.take [0,1,2,3,4,5,6,7,8] true (.done)⟩]
abbrev pl19:List Entry:=[⟨6,.take [0,1,2,3] true (.done)⟩]
abbrev pl20:List Entry:=[⟨8,.take [0,1,2,3,4,5,6,7,8,9,10,11,12,13,14] true (.done)⟩,⟨11,.take [0,1,3,4,5,6,7,8,10] false (.one 2 (.take [9,11] false (.one 12 (.one 13 (.take [14] true (.done))))))⟩,⟨17,.take [0,1,2,3] false (.one 4 (.one 5 (.take [6] true (.done))))⟩]
abbrev pl23:List Entry:=[⟨8,.take [0,1,2,3,4,5,6] true (.done)⟩]
abbrev pl29:List Entry:=[⟨3,.take [0,1,2,3,4,5,6,7,8,9] true (.done)⟩,⟨4,.take [0,1,2,3,4,5,6,7,8,9,10,11,12,13,14] true (.take [15] true (.done))⟩,⟨6,.take [0,1,2,3,5,6,7,11,12] false (.take [4,8,9,10] true (.one 13 (.done)))⟩]
abbrev pl47:List Entry:=[⟨1,.take [0,1,2,3,4,5,6,7,8,9,10,11,12,13,14,15,16,17] false (.one 18 (.take [19] true (.done)))⟩]
abbrev pl63:List Entry:=[⟨4,.take [0,2,4] false (.take [1] true (.one 3 (.one 5 (.done))))⟩,⟨5,.take [0,1,2] false (.one 3 (.one 4 (.take [5,6,8,9,10,12,15,16,17] false (.both 7 (.both 11 (.both 13 (.both 14 (.one 18 (.one 19 (.take [20,21] true (.done)))) (.one 18 (.one 14 (.one 19 (.take [20,21] true (.done)))))) (.one 18 (.one 13 (.one 14 (.one 19 (.take [20,21] true (.done))))))) (.both 13 (.both 11 (.both 14 (.one 18 (.one 19 (.take [20,21] true (.done)))) (.one 18 (.one 14 (.one 19 (.take [20,21] true (.done)))))) (.one 18 (.one 11 (.one 14 (.one 19 (.take [20,21] true (.done))))))) (.one 18 (.both 11 (.one 13 (.one 14 (.one 19 (.take [20,21] true (.done))))) (.one 13 (.one 11 (.one 14 (.one 19 (.take [20,21] true (.done)))))))))) (.both 11 (.both 7 (.both 13 (.both 14 (.one 18 (.one 19 (.take [20,21] true (.done)))) (.one 18 (.one 14 (.one 19 (.take [20,21] true (.done)))))) (.one 18 (.one 13 (.one 14 (.one 19 (.take [20,21] true (.done))))))) (.both 13 (.both 7 (.both 14 (.one 18 (.one 19 (.take [20,21] true (.done)))) (.one 18 (.one 14 (.one 19 (.take [20,21] true (.done)))))) (.both 14 (.both 7 (.one 18 (.one 19 (.take [20,21] true (.done)))) (.one 18 (.one 7 (.one 19 (.take [20,21] true (.done)))))) (.one 18 (.both 7 (.one 14 (.one 19 (.take [20,21] true (.done)))) (.one 14 (.one 7 (.one 19 (.take [20,21] true (.done))))))))) (.one 18 (.both 7 (.one 13 (.one 14 (.one 19 (.take [20,21] true (.done))))) (.one 13 (.both 7 (.one 14 (.one 19 (.take [20,21] true (.done)))) (.one 14 (.one 7 (.one 19 (.take [20,21] true (.done))))))))))) (.both 13 (.both 7 (.both 11 (.both 14 (.one 18 (.one 19 (.take [20,21] true (.done)))) (.one 18 (.one 14 (.one 19 (.take [20,21] true (.done)))))) (.one 18 (.one 11 (.one 14 (.one 19 (.take [20,21] true (.done))))))) (.both 11 (.both 7 (.both 14 (.one 18 (.one 19 (.take [20,21] true (.done)))) (.one 18 (.one 14 (.one 19 (.take [20,21] true (.done)))))) (.both 14 (.both 7 (.one 18 (.one 19 (.take [20,21] true (.done)))) (.one 18 (.one 7 (.one 19 (.take [20,21] true (.done)))))) (.one 18 (.both 7 (.one 14 (.one 19 (.take [20,21] true (.done)))) (.one 14 (.one 7 (.one 19 (.take [20,21] true (.done))))))))) (.one 18 (.both 7 (.one 11 (.one 14 (.one 19 (.take [20,21] true (.done))))) (.one 11 (.both 7 (.one 14 (.one 19 (.take [20,21] true (.done)))) (.one 14 (.one 7 (.one 19 (.take [20,21] true (.done))))))))))) (.one 18 (.both 7 (.both 11 (.one 13 (.one 14 (.one 19 (.take [20,21] true (.done))))) (.one 13 (.one 11 (.one 14 (.one 19 (.take [20,21] true (.done))))))) (.both 11 (.both 7 (.one 13 (.one 14 (.one 19 (.take [20,21] true (.done))))) (.one 13 (.both 7 (.one 14 (.one 19 (.take [20,21] true (.done)))) (.one 14 (.one 7 (.one 19 (.take [20,21] true (.done)))))))) (.one 13 (.both 7 (.one 11 (.one 14 (.one 19 (.take [20,21] true (.done))))) (.one 11 (.both 7 (.one 14 (.one 19 (.take [20,21] true (.done)))) (.one 14 (.one 7 (.one 19 (.take [20,21] true (.done))))))))))))))))))⟩]
abbrev pl65:List Entry:=[⟨1,.take [0,1,2,3,4,5] true (.one 6 (.done))⟩]
abbrev pl66:List Entry:=[⟨3,.take [0,1,2,3] false (.one 4 (.one 5 (.take [6,7,8,9,10] true (.done))))⟩,⟨6,.take [0,1,2,3,4,5] true (.one 6 (.done))⟩]
abbrev pl69:List Entry:=[⟨7,.take [0,1,2,3] true (.done)⟩]
abbrev pl70:List Entry:=[⟨1,.take [0,1,2,3,4,5,6,7,8,9] true (.done)⟩]
abbrev pl71:List Entry:=[⟨24,.take [0,1,2,3,4,5,6,7,8,9,10,11,12,13,14,15,16,17,18,19,20,21,22,23,24] true (.done)⟩,⟨29,.take [0,1,2,3,4,5,6,7,8,9,10,11,12,13,14,15,16,17,18,19,20,21,22] true (.done)⟩]
abbrev pl108:List Entry:=[⟨4,.take [0,1,2,3,4,5,6,7,9,10,11,12] false (.both 8 (.one 13 (.one 14 (.take [15,16] true (.done)))) (.one 13 (.one 8 (.one 14 (.take [15,16] true (.done))))))⟩,⟨6,.take [0,1,2,3,4,5,6,7,8,10,11,12,14,16] false (.take [9,13] true (.one 15 (.one 17 (.done))))⟩]
abbrev pl142:List Entry:=[⟨4,.take [0,1,2,3,4,5,6,7,8,9,10,11,12,13,14,15,16,17,18,19,20] true (.done)⟩]
abbrev pl144:List Entry:=[⟨4,.take [0,1,2,3,4,5,6,7,8,9,10,11,12,13,14,15,16,17,18,19,20,21,22] false (.both 23 (.one 24 (.one 25 (.one 26 (.done)))) (.one 24 (.one 23 (.one 25 (.one 26 (.done))))))⟩,⟨5,.take [0,1,2,3,4,5,6,7,8,9,10,11,12,13,14,15,16,17,18,19,20,21,22,23,24,26,27] false (.one 25 (.one 28 (.one 29 (.take [30,31,32] true (.done)))))⟩]
attribute [simp] ksub
abbrev int (n:Int):AV:=.lit (.int .i64 n)
abbrev u8 (n:Int):AV:=.lit (.int .u8 n)
abbrev bool (b:Bool):AV:=.lit (.bool b)
abbrev ints (l:List Int):AV:=.sl 1 (l.map int) .any
abbrev rows (l:List (List Int)):AV:=.sl 1 (l.map ints) .any
structure Ent where
  hour:Int
  place:Int
  coat:Int
  marks:List Int
  height:Int
  shod:Int
  deriving DecidableEq
structure Fr where
  ents:List Ent
  roads:List (List Int)
  sfrom:Int
  sto:Int
  dye:Int
  most:Int
  deriving DecidableEq
abbrev entA (e:Ent):AV:=.agg [int e.hour,int e.place,int e.coat,ints e.marks,int e.height,int e.shod]
abbrev entsA (l:List Ent):AV:=.sl 6 (l.map entA) .any
abbrev fairL (f:Fr):List AV:=[entsA f.ents,rows f.roads,int f.sfrom,int f.sto,int f.dye,int f.most]
abbrev fairA (f:Fr):AV:=.agg (fairL f)
abbrev fpA (b mb:Nat) (f:Fr) (o:Nat):AV:=.kp b [entsA f.ents,rows f.roads,int f.sfrom,int f.sto,int f.dye,int f.most,.lit (.int .i32 0),.lit (.int .u32 0),.map mb] [6,7] o
def isIn (a lo hi:Int):Bool:=decide (lo≤a) && decide (a≤hi)
def notUp:Option Int->Int->Bool
  | some q,h=>decide (h≤q)
  | none,_=>false
def chkM:Option Int->List Int->Int
  | _,[]=>0
  | p,h :: l=>if isIn h 0 4=false then 3 else if notUp p h=true then 5 else chkM (some h) l
def checkEntry (places:Int) (e:Ent):Int:=
  if isIn e.hour 0 72=false then 1 else if isIn e.place 0 (places-1)=false then 3 else if isIn e.coat 0 5=false then 1 else if chkM none e.marks≠0 then chkM none e.marks
  else if isIn e.height 0 30=false then 1 else if isIn e.shod 0 2=false then 8 else 0
def firstBad (f:Ent->Int):List Ent->Int
  | []=>0
  | d :: l=>if f d=0 then firstBad f l else f d
theorem chkM_at (l:List Int) (i:Nat) (h:i<l.length) (p:Option Int):chkM p (l.drop i)=if isIn l[i] 0 4=false then 3 else if notUp p l[i]=true then 5 else chkM (some l[i]) (l.drop (i+1)):=by
  rw [List.drop_eq_getElem_cons h,chkM]
theorem firstBad_at (f:Ent->Int) (l:List Ent) (i:Nat) (h:i<l.length):firstBad f (l.drop i)=if f l[i]=0 then firstBad f (l.drop (i+1)) else f l[i]:=by
  rw [List.drop_eq_getElem_cons h,firstBad]
theorem take_eq_succ {α:Type} {l l':List α} {k:Nat} (g:k<l.length) (g':k<l'.length) (h:l.take k=l'.take k) (e:l[k]=l'[k]):l.take (k+1)=l'.take (k+1):=by
  rw [List.take_succ_eq_append_getElem g,List.take_succ_eq_append_getElem g',h,e]
def rd (r:List (List Int)) (i j:Nat):Int:=(r.getD i []).getD j 0
def pairBad (r:List (List Int)) (i j:Nat):Bool:=rd r i i != 0 || rd r i j != rd r j i || (List.range r.length).any fun k=>decide (rd r i j > rd r i k+rd r k j)
def rowErr (n:Nat) (l:List Int):Int:=if l.length≠n then 9 else if l.all (isIn · 0 9) then 0 else 1
def rowsErr (n:Nat):List (List Int)->Int
  | []=>0
  | l :: r=>if rowErr n l=0 then rowsErr n r else rowErr n l
def roadsErr (r:List (List Int)):Int:=
  if r.length<1 then 7 else if 3<r.length then 6 else if rowsErr r.length r≠0 then rowsErr r.length r
  else if (List.range r.length).any (fun i=>(List.range r.length).any fun j=>pairBad r i j) then 9 else 0
def check (f:Fr):Int:=
  if roadsErr f.roads≠0 then roadsErr f.roads else if (isIn f.sfrom 0 3 && isIn f.sto 0 3)=false then 1 else if f.sto<f.sfrom then 5
  else if (isIn f.dye 1 6 && isIn f.most 1 6)=false then 1 else if (6:Int)<f.ents.length then 6 else firstBad (checkEntry f.roads.length) f.ents
theorem rowsErr_at (n:Nat) (l:List (List Int)) (i:Nat) (h:i<l.length):rowsErr n (l.drop i)=if rowErr n l[i]=0 then rowsErr n (l.drop (i+1)) else rowErr n l[i]:=by
  rw [List.drop_eq_getElem_cons h,rowsErr]
structure Fr.Fits (f:Fr):Prop where
  ents:f.ents.length<1152921504606846976
  roads:f.roads.length<1152921504606846976
  row:∀ r∈f.roads,r.length<1152921504606846976
  marks:∀ e∈f.ents,e.marks.length<1152921504606846976
def ixFrom (i:Int):List Int->Int->Int
  | [],_ => -1
  | x :: l,v=>if x=v then i else ixFrom (i+1) l v
def ixOf (l:List Int) (v:Int):Int:=ixFrom 0 l v
theorem ixFrom_at (l:List Int) (v:Int) (i:Nat) (h:i<l.length) (c:Int):ixFrom c (l.drop i) v=if l[i]=v then c else ixFrom (c+1) (l.drop (i+1)) v:=by
  rw [List.drop_eq_getElem_cons h,ixFrom]
theorem ixFrom_mem (v:Int):∀ (l:List Int) (i:Int),0≤i->(0≤ixFrom i l v ↔ v∈l)
  | [],i,h=>by simp [ixFrom]
  | x :: l,i,h=>by
    unfold ixFrom;split
    . next e=>subst e;simp [h]
    . next e=>rw [ixFrom_mem v l (i+1) (by omega)];simp [Ne.symm e]
theorem ixOf_mem (l:List Int) (v:Int):0≤ixOf l v ↔ v∈l:=ixFrom_mem v l 0 (Int.le_refl _)
def shoes (f:Fr) (e:Ent):List Int:=if e.shod≠0 then (List.range (f.sto-f.sfrom+1).toNat).map fun i:Nat=>e.height-f.sto+(i:Int) else []
def tells (f:Fr) (e:Ent):List Int:=if e.shod≠1∧e.height ∉ shoes f e then shoes f e ++ [e.height] else shoes f e
def commonOf (first:List Int) (others:List (List Int)):List Int:=first.filter fun x=>others.all fun l=>decide (x∈l)
def entN (f:Fr) (i:Int):Ent:=f.ents.getD i.toNat ⟨0,0,0,[],0,0⟩
def heightsOf (f:Fr) (l:List Int):List Int:=match l.map fun i=>tells f (entN f i) with | []=>[] | a :: r=>commonOf a r
def listErr (f:Fr):Option Int->List Int->Int
  | _,[]=>0
  | p,n :: l=>if isIn n 0 (f.ents.length-1)=false then 3 else if notUp p n=true then 5 else listErr f (some n) l
def lister (f:Fr) (l:List Int):Int:=if l.length=0 then 7 else listErr f none l
theorem listErr_at (f:Fr) (l:List Int) (i:Nat) (h:i<l.length) (p:Option Int):listErr f p (l.drop i)=if isIn l[i] 0 (f.ents.length-1)=false then 3 else if notUp p l[i]=true then 5 else listErr f (some l[i]) (l.drop (i+1)):=by
  rw [List.drop_eq_getElem_cons h,listErr]
abbrev errA (n:Int):AV:=if n=0 then .lit .nilIface else .ifc 70 (.agg [int n])
def orU8 (a b:Int):Int:=IntKind.u8.wrap (((BitVec.ofInt 8 a ||| BitVec.ofInt 8 b).toNat:Nat):Int)
def andU8 (a b:Int):Int:=IntKind.u8.wrap (((BitVec.ofInt 8 a &&& BitVec.ofInt 8 b).toNat:Nat):Int)
def xorU8 (a b:Int):Int:=IntKind.u8.wrap (((BitVec.ofInt 8 a ^^^ BitVec.ofInt 8 b).toNat:Nat):Int)
def subU8 (a b:Int):Int:=IntKind.u8.wrap (a-b)
theorem ibin_or8 (a b:Int):ibin .or .u8 a b=some (.int .u8 (orU8 a b)):=rfl
theorem ibin_and8 (a b:Int):ibin .and .u8 a b=some (.int .u8 (andU8 a b)):=rfl
theorem ibin_xor8 (a b:Int):ibin .xor .u8 a b=some (.int .u8 (xorU8 a b)):=rfl
theorem ibin_sub8 (a b:Int):ibin .sub .u8 a b=some (.int .u8 (subU8 a b)):=rfl
def setBit (m n:Int):Int:=orU8 m (IntKind.u8.wrap (2 ^ min n.toNat IntKind.u8.bits))
def hasBit (m n:Int):Bool:=andU8 (m.fdiv (2 ^ min n.toNat IntKind.u8.bits)) 1 == 1
def bitsOf (m:Int):List Int:=((List.range 6).map fun n:Nat=>(n:Int)).filter fun n=>hasBit m n
def marksInt (l:List Int):Int:=l.foldl setBit 0
end Go.Proofs.YtgpeapadphphpaaGreatDoor
namespace Go.Proofs.YtgpeapadphphpaaGreatDoor
open Go.Pal Go.Conc
set_option maxHeartbeats 1000000
variable {m:Mo} {σ:Store} {KF:Res->Store->Prop}
theorem within_ok {a lo hi:Int} (h:KF (.val (bool (isIn a lo hi))) σ):FnOK Tryz.prog m 50 [int a,int lo,int hi] σ KF:=by
  unfold isIn at h;refine FnOK.start lay [] [] 3 Tryz.func50 rfl rfl (by rfl) (by kernel_rfl) ?_
  simp [Tryz.f50];refine goW.intro (fun h1=>?_) (fun h1=>?_) <;> simp [h1]
  . exact .done (by simpa [h1] using h)
  . exact .done (by simpa [h1] using h)
theorem Index_ok {l:List Int} {v:Int} (hl:l.length<1152921504606846976) (h:KF (.val (int (ixOf l v))) σ):FnOK Tryz.prog m 55 [ints l,int v] σ KF:=by
  refine FnOK.start lay [] [] 2 Tryz.func55 rfl rfl (by rfl) (by kernel_rfl) ?_
  simp [Tryz.f55];refine Resume.loop l.length (fun k s => ∃ env,s=⟨env,σ,[],.no⟩∧env 0=ints l∧env 1=int v∧env 7=int l.length∧env 8=int k∧ixFrom 0 l v=ixFrom k (l.drop k) v) ⟨_,rfl,by simp⟩ ?_
  rintro c0 k _ hk ⟨env,rfl,h0,h1,h7,h8,hn⟩ ih
  refine Resume.run lay [] ?_;simp [h0,h1,h7,h8];refine condW.intro (fun g1=>?_) (fun g1=>?_) <;> (try simp [-Int.not_lt,-Int.not_le,-Nat.not_lt,-Nat.not_le] at g1) <;> (try simp [h0,h1,h7,h8,g1])
  . rw [ixFrom_at l v k g1] at hn
    refine condW.intro (fun g2=>?_) (fun g2=>?_) <;> (try simp [-Int.not_lt,-Int.not_le,-Nat.not_lt,-Nat.not_le] at g2) <;> (try simp [g2] at hn) <;> (try simp [h0,h1,h7,h8,g2]) <;> (try exact .done hn)
    . subst g2
      unfold ixOf at h;rw [hn] at h;exact .done h
    . exact ⟨by omega,ih _ g1 ⟨_,rfl,by simp [h0,h1,h7,h8],by simp [h0,h1,h7,h8],by simp [h0,h1,h7,h8],by simp,by rw [hn,if_neg (fun e=>g2 e.symm)];simp⟩⟩
  . have:k=l.length:=by omega
    subst this;unfold ixOf at h;rw [hn] at h;simp [ixFrom] at h;exact .done h
theorem Contains_ok {l:List Int} {v:Int} (hl:l.length<1152921504606846976) (h:KF (.val (bool (decide (v∈l)))) σ):FnOK Tryz.prog m 33 [ints l,int v] σ KF:=by
  refine FnOK.start lay [] [] 2 Tryz.func33 rfl rfl (by rfl) (by kernel_rfl) ?_
  simp [Tryz.f33];refine callFn Tryz.func55 rfl rfl (Index_ok hl ?_);refine Resume.run lay [] ?_;simp;rw [← decide_eq_decide.2 (ixOf_mem l v)] at h;exact .done h
theorem SameInts_ok {a b:List Int} (ha:a.length<1152921504606846976) (hb:b.length<1152921504606846976) (h:KF (.val (bool (decide (a=b)))) σ):FnOK Tryz.prog m 10 [ints a,ints b] σ KF:=by
  refine FnOK.start lay [] pl10 2 Tryz.func10 rfl rfl (by rfl) (by kernel_rfl) ?_
  simp [Tryz.f10];refine Resume.loop a.length (fun k s => ∃ env,s=⟨env,σ,[],.no⟩∧env 0=ints a∧env 1=ints b∧env 5=int k∧k≤b.length∧a.take k=b.take k) ⟨_,rfl,by simp⟩ ?_
  rintro c0 k _ hk ⟨env,rfl,h0,h1,h5,hkb,hn⟩ ih
  refine Resume.run lay [] ?_;simp [h0,h1,h5];refine goW.intro (fun g1=>?_) (fun g1=>?_) <;> (try simp [-Int.not_lt,-Int.not_le,-Nat.not_lt,-Nat.not_le] at g1) <;> (try simp [h0,h1,h5,g1])
  . refine condW.intro (fun g2=>?_) (fun g2=>?_) <;> (try simp [-Int.not_lt,-Int.not_le,-Nat.not_lt,-Nat.not_le] at g2) <;> (try simp [h0,h1,h5,g2,g1])
    . refine Resume.run lay [] ?_
      simp [h0,h1,h5];refine condW.intro (fun g3=>?_) (fun g3=>?_) <;> (try simp [-Int.not_lt,-Int.not_le,-Nat.not_lt,-Nat.not_le] at g3) <;> (try simp [h0,h1,h5,g3])
      . have:a≠b:=fun e=>by subst e;exact g3 rfl
        simp [this] at h;exact .done h
      . refine ⟨by omega,ih _ g1 ⟨_,rfl,by simp [h0,h1,h5],by simp [h0,h1,h5],by simp,by omega,take_eq_succ g1 g2 hn g3⟩⟩
    . have:a≠b:=fun e=>by subst e;omega
      have e':((a.length:Int) == b.length)=false:=by rw [beq_eq_false_iff_ne];omega
      rw [e'];exact .done (by simpa [this] using h)
  . have:k=a.length:=by omega
    subst this;rw [List.take_length] at hn
    by_cases e:a.length=b.length
    . have:a=b:=by rw [hn,e,List.take_length]
      exact .done (by simpa [this,e] using h)
    . have:a≠b:=fun q=>e (by rw [q])
      have e':((a.length:Int) == b.length)=false:=by rw [beq_eq_false_iff_ne];omega
      rw [e'];exact .done (by simpa [this] using h)
theorem OwnInts_own {l:List Int} (hl:l.length≤1000000000) (h:∀ a σ',OwnTok σ σ' a 1 (l.map int)->KF (.val a) σ'):FnOK Tryz.prog m 14 [ints l] σ KF:=by
  refine FnOK.start lay [] [] 1 Tryz.func14 rfl rfl (by rfl) (by kernel_rfl) ?_
  simp [Tryz.f14];refine os_appendOwn lay rfl rfl rfl tt22 rfl tt22 rfl tt3 (by decide) (by simp;omega) (σ0:=σ) (es:=[]) (xs:=l.map int) (.empty σ 1) (.inl (.inr ⟨_,rfl⟩)) (by simp) fun a' σ' ht=>?_
  refine Resume.run lay [] ?_;simp;exact .done (h _ _ (by simpa using ht))
theorem isNaN_ok {n:Int} (h:KF (.val (bool false)) σ):FnOK Tryz.prog m 73 [int n] σ KF:=by
  refine FnOK.start lay [] [] 1 Tryz.func73 rfl rfl (by rfl) (by kernel_rfl) ?_
  simp [Tryz.f73];exact .done h
def cmpInt (x y:Int):Int:=if x<y then -1 else if y<x then 1 else 0
theorem Compare_ok {x y:Int} (h:KF (.val (int (cmpInt x y))) σ):FnOK Tryz.prog m 48 [int x,int y] σ KF:=by
  unfold cmpInt at h;refine FnOK.start lay [] [] 2 Tryz.func48 rfl rfl (by rfl) (by kernel_rfl) ?_
  simp [Tryz.f48];refine callFn Tryz.func73 rfl rfl (isNaN_ok ?_);refine Resume.run lay [] ?_;simp;refine callFn Tryz.func73 rfl rfl (isNaN_ok ?_);refine Resume.run lay [] ?_;simp;refine condW.intro (fun g1=>?_) (fun g1=>?_) <;> (try simp [-Int.not_lt,-Int.not_le,-Nat.not_lt,-Nat.not_le] at g1) <;> (try simp [g1] at h) <;> (try simp [g1]) <;> (try exact .done h)
  refine condW.intro (fun g2=>?_) (fun g2=>?_) <;> (try simp [-Int.not_lt,-Int.not_le,-Nat.not_lt,-Nat.not_le] at g2) <;> (try simp [g2] at h) <;> (try simp [g2]) <;> (try exact .done h)
theorem horses_ok {l:List Int} (hl:l.length<1152921504606846976) (hb:∀ x∈l,-1≤x∧x≤1000) (h:KF (.val (int (l.foldl (fun n k=>max n (k+1)) 0))) σ):FnOK Tryz.prog m 40 [ints l] σ KF:=by
  refine FnOK.start lay [] [] 1 Tryz.func40 rfl rfl (by rfl) (by kernel_rfl) ?_
  simp [Tryz.f40];refine Resume.loop l.length (fun k s => ∃ env,s=⟨env,σ,[],.no⟩∧env 3=int ((l.take k).foldl (fun n k=>max n (k+1)) 0)∧env 6=ints l∧env 7=int l.length∧env 8=int k) ⟨_,rfl,by simp⟩ ?_
  rintro c0 k _ hk ⟨env,rfl,h3,h6,h7,h8⟩ ih
  refine Resume.run lay [] ?_;simp [h3,h6,h7,h8];refine condW.intro (fun g1=>?_) (fun g1=>?_) <;> (try simp [-Int.not_lt,-Int.not_le,-Nat.not_lt,-Nat.not_le] at g1) <;> (try simp [h3,h6,h7,h8,g1])
  . have:=hb _ (List.getElem_mem g1)
    refine ⟨by omega,?_⟩
    refine ⟨by omega,ih _ g1 ⟨_,rfl,?_,by simp [h3,h6,h7,h8],by simp [h3,h6,h7,h8],by simp⟩⟩
    rw [List.take_succ_eq_append_getElem g1,List.foldl_append];simp [h3];split <;> omega
  . have:k=l.length:=by omega
    subst this;rw [List.take_length];exact .done h
end Go.Proofs.YtgpeapadphphpaaGreatDoor
namespace Go.Proofs.YtgpeapadphphpaaGreatDoor
open Go.Pal Go.Conc
set_option maxHeartbeats 1000000
variable {m:Mo} {σ:Store} {KF:Res->Store->Prop}
theorem checkEntry_ok {e:Ent} {places:Int} (hp:0≤places∧places<1152921504606846976) (hm:e.marks.length<1152921504606846976) (h:KF (.val (int (checkEntry places e))) σ):FnOK Tryz.prog m 72 [entA e,int places] σ KF:=by
  unfold checkEntry at h;refine FnOK.start lay [] [] 2 Tryz.func72 rfl rfl (by rfl) (by kernel_rfl) ?_
  simp [Tryz.f72];refine callFn Tryz.func50 rfl rfl (within_ok ?_);refine Resume.run lay [] ?_;simp;refine condW.intro (fun g1=>?_) (fun g1=>?_) <;> (try simp [-Int.not_lt,-Int.not_le,-Nat.not_lt,-Nat.not_le] at g1) <;> (try simp [g1] at h) <;> (try simp [g1]) <;> (try exact .done h)
  refine ⟨by omega,?_⟩
  refine callFn Tryz.func50 rfl rfl (within_ok ?_);refine Resume.run lay [] ?_;simp;refine condW.intro (fun g2=>?_) (fun g2=>?_) <;> (try simp [-Int.not_lt,-Int.not_le,-Nat.not_lt,-Nat.not_le] at g2) <;> (try simp [g2] at h) <;> (try simp [g2]) <;> (try exact .done h)
  refine callFn Tryz.func50 rfl rfl (within_ok ?_);refine Resume.run lay [] ?_;simp;refine condW.intro (fun g3=>?_) (fun g3=>?_) <;> (try simp [-Int.not_lt,-Int.not_le,-Nat.not_lt,-Nat.not_le] at g3) <;> (try simp [g3] at h) <;> (try simp [g3]) <;> (try exact .done h)
  refine Resume.loop e.marks.length (fun k s => ∃ env,s=⟨env,σ,[],.no⟩∧env 2 = .cp (entA e) 0∧env 22=ints e.marks∧env 23=int e.marks.length∧env 24=int k∧chkM none e.marks=chkM (if k=0 then none else e.marks[k-1]?) (e.marks.drop k)) ⟨_,rfl,by simp⟩ ?_
  rintro c0 k _ hk ⟨env,rfl,h2,h22,h23,h24,hn⟩ ih
  refine Resume.run lay [] ?_;simp [h2,h22,h23,h24];refine condW.intro (fun g4=>?_) (fun g4=>?_) <;> (try simp [-Int.not_lt,-Int.not_le,-Nat.not_lt,-Nat.not_le] at g4) <;> (try simp [h2,h22,h23,h24,g4])
  . rw [chkM_at _ k g4] at hn
    refine callFn Tryz.func50 rfl rfl (within_ok ?_);refine Resume.run lay [] ?_;simp [h2,h22,h23,h24];refine condW.intro (fun g5=>?_) (fun g5=>?_) <;> (try simp [-Int.not_lt,-Int.not_le,-Nat.not_lt,-Nat.not_le] at g5) <;> (try simp [g5] at hn) <;> (try simp [h2,h22,h23,h24,g5]) <;> (try exact .done hn)
    . refine goW.intro (fun g6=>?_) (fun g6=>?_) <;> (try simp [-Int.not_lt,-Int.not_le,-Nat.not_lt,-Nat.not_le] at g6) <;> (try simp [g6] at hn) <;> (try simp [h2,h22,h23,h24,g6,g4]) <;> (try exact .done hn)
      . have e0:(k:Int)-1=((k-1:Nat):Int):=by omega
        have e1:k-1<e.marks.length:=by omega
        have e2 : ¬ k=0:=by omega
        simp [e0,e1]
        repeat refine ⟨by omega,?_⟩
        try simp [e1,e2,notUp] at hn
        refine condW.intro (fun g7=>?_) (fun g7=>?_) <;> (try simp [-Int.not_lt,-Int.not_le,-Nat.not_lt,-Nat.not_le] at g7) <;> (try simp [g7] at hn) <;> (try simp [h2,h22,h23,h24,g7]) <;> (try exact .done hn)
        . simp [hn] at h
          exact .done h
        . refine ⟨by omega,ih _ g4 ⟨_,rfl,by simp [h2,h22,h23,h24],by simp [h2,h22,h23,h24],by simp [h2,h22,h23,h24],by simp,?_⟩⟩
          simp [hn,g4]
      . have g8:k=0:=by omega
        subst g8;simp [notUp] at hn;refine ⟨by omega,ih _ g4 ⟨_,rfl,by simp [h2,h22,h23,h24],by simp [h2,h22,h23,h24],by simp [h2,h22,h23,h24],by simp,?_⟩⟩
        simp [hn,g4]
    . simp [hn] at h
      exact .done h
  . have:k=e.marks.length:=by omega
    subst this;simp [chkM] at hn;simp [hn] at h;refine callFn Tryz.func50 rfl rfl (within_ok ?_);refine Resume.run lay [] ?_;simp [h2,h22,h23,h24];refine condW.intro (fun g5=>?_) (fun g5=>?_) <;> (try simp [-Int.not_lt,-Int.not_le,-Nat.not_lt,-Nat.not_le] at g5) <;> (try simp [g5] at h) <;> (try simp [h2,h22,h23,h24,g5]) <;> (try exact .done h)
    refine callFn Tryz.func50 rfl rfl (within_ok ?_);refine Resume.run lay [] ?_;simp [h2,h22,h23,h24];refine condW.intro (fun g6=>?_) (fun g6=>?_) <;> (try simp [-Int.not_lt,-Int.not_le,-Nat.not_lt,-Nat.not_le] at g6) <;> (try simp [g6] at h) <;> (try simp [h2,h22,h23,h24,g6]) <;> (try exact .done h)
end Go.Proofs.YtgpeapadphphpaaGreatDoor
namespace Go.Proofs.YtgpeapadphphpaaGreatDoor
open Go.Pal Go.Conc
set_option maxHeartbeats 1000000
variable {m:Mo} {σ:Store} {KF:Res->Store->Prop}
theorem rowsErr_zero {n:Nat}:∀ {r:List (List Int)},rowsErr n r=0->∀ l∈r,l.length=n∧∀ x∈l,isIn x 0 9=true
  | [],_,l,hl=>by simp at hl
  | a :: r,h,l,hl=>by
    unfold rowsErr at h;split at h
    . next h0=>
      rcases List.mem_cons.1 hl with rfl|hl
      . unfold rowErr at h0
        split at h0
        . cases h0
        . next h1=>
          split at h0
          . next h2=>exact ⟨by simpa using h1,fun x hx=>List.all_eq_true.1 h2 x hx⟩
          . cases h0
      . exact rowsErr_zero h l hl
    . next h0=>exact absurd h h0
theorem rd_eq {r:List (List Int)} {i j:Nat} (hi:i<r.length) (hj:j<r[i].length):rd r i j=r[i][j]:=by
  simp [rd,List.getD_eq_getElem?_getD,hi,hj]
theorem isIn_bd {a lo hi:Int} (h:isIn a lo hi=true):lo≤a∧a≤hi:=by simpa [isIn] using h
theorem checkRoads_ok {r:List (List Int)} (hr:r.length<1152921504606846976) (hl:∀ l∈r,l.length<1152921504606846976) (h:KF (.val (int (roadsErr r))) σ):FnOK Tryz.prog m 71 [rows r] σ KF:=by
  unfold roadsErr at h;refine FnOK.start lay [] pl71 1 Tryz.func71 rfl rfl (by rfl) (by kernel_rfl) ?_
  simp [Tryz.f71];refine condW.intro (fun g1=>?_) (fun g1=>?_) <;> simp at g1 <;> simp [g1]
  . rw [if_pos (show r.length<1 by omega)] at h
    exact .done h
  refine condW.intro (fun g2=>?_) (fun g2=>?_) <;> simp at g2 <;> simp [g2]
  . have e1 : ¬ r.length<1:=by omega
    have e2:3<r.length:=by omega
    rw [if_neg (show ¬ r.length<1 by omega),if_pos e2] at h
    exact .done h
  have e1 : ¬ r.length<1:=by omega
  have e2 : ¬ 3<r.length:=by omega
  rw [if_neg e1,if_neg e2] at h;refine Resume.loop r.length (fun k s => ∃ env,s=⟨env,σ,[],.no⟩∧env 0=rows r∧env 19=rows r∧env 20=int r.length∧env 21=int k∧rowsErr r.length r=rowsErr r.length (r.drop k)) ⟨_,rfl,by simp⟩ ?_
  rintro c0 k _ hk ⟨env,rfl,h0,h19,h20,h21,hn⟩ ih
  refine Resume.run lay [] ?_;simp [h0,h19,h20,h21];refine condW.intro (fun g4=>?_) (fun g4=>?_) <;> (try simp [-Int.not_lt,-Int.not_le,-Nat.not_lt,-Nat.not_le] at g4) <;> (try simp [h0,h19,h20,h21,g4])
  . rw [rowsErr_at _ _ k g4] at hn
    obtain ⟨l,hlk⟩:∃ l,l=r[k]:=⟨_,rfl⟩;simp only [← hlk] at hn ⊢;have hl':l.length<1152921504606846976:=hl l (by rw [hlk];exact List.getElem_mem g4)
    refine condW.intro (fun g5=>?_) (fun g5=>?_) <;> simp at g5 <;> simp [g5]
    . have g5':l.length≠r.length:=fun e=>g5 (by rw [e])
      simp [rowErr,g5'] at hn;simp [hn] at h;exact .done h
    have g5':l.length=r.length:=by omega
    refine Resume.loop l.length (fun j s => ∃ env,s=⟨env,σ,[],.no⟩∧env 0=rows r∧env 19=rows r∧env 20=int r.length∧env 21=int k∧env 30=ints l∧env 31=int l.length∧env 32=int j∧(l.take j).all (isIn · 0 9)=true) ⟨_,rfl,by simp [h0,h19,h20,h21,g5',← hlk]⟩ ?_
    clear h0 h19 h20 h21
    rintro c1 j _ hj ⟨env,rfl,h0,h19,h20,h21,h30,h31,h32,hall⟩ ih2
    refine Resume.run lay [] ?_;simp [h0,h19,h20,h21,h30,h31,h32];refine condW.intro (fun g6=>?_) (fun g6=>?_) <;> (try simp [-Int.not_lt,-Int.not_le,-Nat.not_lt,-Nat.not_le] at g6) <;> (try simp [h0,h19,h20,h21,h30,h31,h32,g6])
    . refine callFn Tryz.func50 rfl rfl (within_ok ?_)
      refine Resume.run lay [] ?_;simp [h0,h19,h20,h21,h30,h31,h32];refine condW.intro (fun g7=>?_) (fun g7=>?_) <;> (try simp [-Int.not_lt,-Int.not_le,-Nat.not_lt,-Nat.not_le] at g7) <;> (try simp [h0,h19,h20,h21,h30,h31,h32,g7])
      . refine ⟨by omega,ih2 _ g6 ⟨_,rfl,by simp [h0,h19,h20,h21,h30,h31,h32],by simp [h0,h19,h20,h21,h30,h31,h32],by simp [h0,h19,h20,h21,h30,h31,h32],by simp [h0,h19,h20,h21,h30,h31,h32],by simp [h0,h19,h20,h21,h30,h31,h32],by simp [h0,h19,h20,h21,h30,h31,h32],by simp,?_⟩⟩
        rw [List.take_succ_eq_append_getElem g6,List.all_append,hall];simp [g7]
      . have:l.all (isIn · 0 9)=false:=by
          rw [List.all_eq_false];exact ⟨_,List.getElem_mem g6,by simp [g7]⟩
        simp [rowErr,g5',this] at hn;simp [hn] at h;exact .done h
    . have:j=l.length:=by omega
      subst this;rw [List.take_length] at hall;have h0':rowErr r.length l=0:=by unfold rowErr;rw [if_neg (by simp [g5']),if_pos hall]
      rw [if_pos h0'] at hn;exact ⟨by omega,ih _ g4 ⟨_,rfl,by simp [h0,h19,h20,h21,h30,h31,h32],by simp [h0,h19,h20,h21,h30,h31,h32],by simp [h0,h19,h20,h21,h30,h31,h32],by simp,hn⟩⟩
  have:k=r.length:=by omega
  subst this;simp [rowsErr] at hn;rw [if_neg (by rw [hn];simp)] at h
  clear ih;have hrow:∀ (i:Nat) (hi:i<r.length),r[i].length=r.length:=fun i hi=>(rowsErr_zero hn _ (List.getElem_mem hi)).1
  have hbd:∀ (i:Nat) (hi:i<r.length) (j:Nat) (hj:j<r[i].length),0≤r[i][j]∧r[i][j]≤9:=fun i hi j hj=>isIn_bd ((rowsErr_zero hn _ (List.getElem_mem hi)).2 _ (List.getElem_mem hj))
  refine Resume.loop r.length (fun i s => ∃ env,s=⟨env,σ,[],.no⟩∧env 0=rows r∧env 41=rows r∧env 42=int r.length∧env 43=int i∧∀ i'<i,∀ j<r.length,pairBad r i' j=false) ⟨_,rfl,by simp [h0]⟩ ?_
  clear h0 h19 h20 h21
  rintro c1 i _ hi ⟨env,rfl,h0,h41,h42,h43,hgood⟩ ih
  refine Resume.run lay [] ?_;simp [h0,h41,h42,h43];refine condW.intro (fun g5=>?_) (fun g5=>?_) <;> (try simp [-Int.not_lt,-Int.not_le,-Nat.not_lt,-Nat.not_le] at g5) <;> (try simp [h0,h41,h42,h43,g5])
  . refine Resume.loop r.length (fun j s => ∃ env,s=⟨env,σ,[],.no⟩∧env 0=rows r∧env 41=rows r∧env 42=int r.length∧env 43=int i∧env 8=int i∧env 46=rows r∧env 47=int r.length∧env 48=int j∧∀ j'<j,pairBad r i j'=false) ⟨_,rfl,by simp [h0,h41,h42,h43]⟩ ?_
    clear h0 h41 h42 h43
    rintro c2 j _ hj ⟨env,rfl,h0,h41,h42,h43,h8,h46,h47,h48,hgj⟩ ih2
    refine Resume.run lay [] ?_;simp [h0,h41,h42,h43,h8,h46,h47,h48];refine condW.intro (fun g6=>?_) (fun g6=>?_) <;> (try simp [-Int.not_lt,-Int.not_le,-Nat.not_lt,-Nat.not_le] at g6) <;> (try simp [h0,h41,h42,h43,h8,h46,h47,h48,g6])
    . have q1 : i<r[i].length:=by rw [hrow i g5];exact g5
      have q2:j<r[i].length:=by rw [hrow i g5];exact g6
      have q3:i<r[j].length:=by rw [hrow j g6];exact g5
      simp [h0,h41,h42,h43,h8,h46,h47,h48,g5,g6,q1,q2,q3];refine goT.intro (fun g7=>?_) (fun g7=>?_) <;> (try simp [-Int.not_lt,-Int.not_le,-Nat.not_lt,-Nat.not_le] at g7) <;> (try simp [h0,h41,h42,h43,h8,h46,h47,h48,g7,g5,g6,q1,q2,q3])
      . refine Resume.run lay [] ?_
        simp [h0,h41,h42,h43,h8,h46,h47,h48];refine condW.intro (fun g8=>?_) (fun g8=>?_) <;> (try simp [-Int.not_lt,-Int.not_le,-Nat.not_lt,-Nat.not_le] at g8) <;> (try simp [h0,h41,h42,h43,h8,h46,h47,h48,g8])
        ·
          have hb:pairBad r i j=true:=by
            unfold pairBad;rw [rd_eq g5 q2,rd_eq g6 q3];simp [g8]
          have:((List.range r.length).any fun i=>(List.range r.length).any fun j=>pairBad r i j)=true:=List.any_eq_true.2 ⟨i,List.mem_range.2 g5,List.any_eq_true.2 ⟨j,List.mem_range.2 g6,hb⟩⟩
          rw [if_pos this] at h;exact .done h
        . refine Resume.loop r.length (fun k s => ∃ env,s=⟨env,σ,[],.no⟩∧env 0=rows r∧env 41=rows r∧env 42=int r.length∧env 43=int i∧env 8=int i∧env 46=rows r∧env 47=int r.length∧env 48=int j∧env 9=int j∧env 76=rows r∧env 77=int r.length∧env 78=int k∧∀ k'<k,¬ rd r i j > rd r i k'+rd r k' j) ⟨_,rfl,by simp [h0,h41,h42,h43,h8,h46,h47,h48]⟩ ?_
          clear h0 h41 h42 h43 h8 h46 h47 h48
          rintro c3 k _ hk ⟨env,rfl,h0,h41,h42,h43,h8,h46,h47,h48,h9,h76,h77,h78,hgk⟩ ih3
          refine Resume.run lay [] ?_;simp [h0,h41,h42,h43,h8,h46,h47,h48,h9,h76,h77,h78];refine condW.intro (fun g9=>?_) (fun g9=>?_) <;> (try simp [-Int.not_lt,-Int.not_le,-Nat.not_lt,-Nat.not_le] at g9) <;> (try simp [h0,h41,h42,h43,h8,h46,h47,h48,h9,h76,h77,h78,g9])
          . have p1:k<r[i].length:=by rw [hrow i g5];exact g9
            have p2:j<r[k].length:=by rw [hrow k g9];exact g6
            have b1:=hbd i g5 k p1;have b2:=hbd k g9 j p2;have f1 : -9223372036854775808≤r[i][k]+r[k][j]:=by omega
            have f2:r[i][k]+r[k][j]≤9223372036854775807:=by omega
            simp [h0,h41,h42,h43,h8,h46,h47,h48,h9,h76,h77,h78,g5,g6,g9,q2,p1,p2,f1,f2];refine Resume.run lay [] ?_;simp [h0,h41,h42,h43,h8,h46,h47,h48,h9,h76,h77,h78];refine condW.intro (fun g10=>?_) (fun g10=>?_) <;> (try simp [-Int.not_lt,-Int.not_le,-Nat.not_lt,-Nat.not_le] at g10) <;> (try simp [h0,h41,h42,h43,h8,h46,h47,h48,h9,h76,h77,h78,g10])
            . have hb:pairBad r i j=true:=by
                unfold pairBad;have:((List.range r.length).any fun k=>decide (rd r i j > rd r i k+rd r k j))=true:=List.any_eq_true.2 ⟨k,List.mem_range.2 g9,by rw [rd_eq g5 q2,rd_eq g5 p1,rd_eq g9 p2];simpa using g10⟩
                rw [this];simp
              have:((List.range r.length).any fun i=>(List.range r.length).any fun j=>pairBad r i j)=true:=List.any_eq_true.2 ⟨i,List.mem_range.2 g5,List.any_eq_true.2 ⟨j,List.mem_range.2 g6,hb⟩⟩
              rw [if_pos this] at h;exact .done h
            . refine ⟨by omega,ih3 _ g9 ⟨_,rfl,by simp [h0,h41,h42,h43,h8,h46,h47,h48,h9,h76,h77,h78],by simp [h0,h41,h42,h43,h8,h46,h47,h48,h9,h76,h77,h78],by simp [h0,h41,h42,h43,h8,h46,h47,h48,h9,h76,h77,h78],by simp [h0,h41,h42,h43,h8,h46,h47,h48,h9,h76,h77,h78],by simp [h0,h41,h42,h43,h8,h46,h47,h48,h9,h76,h77,h78],by simp [h0,h41,h42,h43,h8,h46,h47,h48,h9,h76,h77,h78],by simp [h0,h41,h42,h43,h8,h46,h47,h48,h9,h76,h77,h78],by simp [h0,h41,h42,h43,h8,h46,h47,h48,h9,h76,h77,h78],by simp [h0,h41,h42,h43,h8,h46,h47,h48,h9,h76,h77,h78],by simp [h0,h41,h42,h43,h8,h46,h47,h48,h9,h76,h77,h78],by simp [h0,h41,h42,h43,h8,h46,h47,h48,h9,h76,h77,h78],by simp,fun k' hk'=>?_⟩⟩
              by_cases e:k'=k
              . subst e
                rw [rd_eq g5 q2,rd_eq g5 p1,rd_eq g9 p2];omega
              . exact hgk k' (by omega)
          . have:k=r.length:=by omega
            subst this;refine ⟨by omega,ih2 _ g6 ⟨_,rfl,by simp [h0,h41,h42,h43,h8,h46,h47,h48,h9,h76,h77,h78],by simp [h0,h41,h42,h43,h8,h46,h47,h48,h9,h76,h77,h78],by simp [h0,h41,h42,h43,h8,h46,h47,h48,h9,h76,h77,h78],by simp [h0,h41,h42,h43,h8,h46,h47,h48,h9,h76,h77,h78],by simp [h0,h41,h42,h43,h8,h46,h47,h48,h9,h76,h77,h78],by simp [h0,h41,h42,h43,h8,h46,h47,h48,h9,h76,h77,h78],by simp [h0,h41,h42,h43,h8,h46,h47,h48,h9,h76,h77,h78],by simp,fun j' hj'=>?_⟩⟩
            by_cases e:j'=j
            . subst e
              unfold pairBad
              have e1:((List.range r.length).any fun k=>decide (rd r i j' > rd r i k+rd r k j'))=false:=by
                rw [List.any_eq_false];intro k hk;simpa using hgk k (List.mem_range.1 hk)
              have e2:rd r i i=0:=by rw [rd_eq g5 q1];exact g7
              have e3:rd r i j'=rd r j' i:=by rw [rd_eq g5 q2,rd_eq g6 q3];exact g8
              rw [e1,e2,e3];simp
            . exact hgj j' (by omega)
      . have e:(r[i][i] != 0)=true:=by simp [g7]
        simp [h0,h41,h42,h43,h8,h46,h47,h48,e];refine Resume.run lay [] ?_;simp [h0,h41,h42,h43,h8,h46,h47,h48]
        have hb:pairBad r i j=true:=by
          unfold pairBad;rw [rd_eq g5 q1];simp [g7]
        have:((List.range r.length).any fun i=>(List.range r.length).any fun j=>pairBad r i j)=true:=List.any_eq_true.2 ⟨i,List.mem_range.2 g5,List.any_eq_true.2 ⟨j,List.mem_range.2 g6,hb⟩⟩
        rw [if_pos this] at h;exact .done h
    . have:j=r.length:=by omega
      subst this;refine ⟨by omega,ih _ g5 ⟨_,rfl,by simp [h0,h41,h42,h43,h8,h46,h47,h48],by simp [h0,h41,h42,h43,h8,h46,h47,h48],by simp [h0,h41,h42,h43,h8,h46,h47,h48],by simp,fun i' hi' j hj'=>?_⟩⟩
      by_cases e:i'=i
      . subst e;exact hgj j hj'
      . exact hgood i' (by omega) j hj'
  . have:i=r.length:=by omega
    subst this
    have:((List.range r.length).any fun i=>(List.range r.length).any fun j=>pairBad r i j)=false:=by
      rw [List.any_eq_false];intro i hi;rw [Bool.not_eq_true,List.any_eq_false];intro j hj;rw [hgood i (List.mem_range.1 hi) j (List.mem_range.1 hj)];simp
    rw [this] at h;exact .done (by simpa using h)
end Go.Proofs.YtgpeapadphphpaaGreatDoor

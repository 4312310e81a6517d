import Derived.Test.YtkcceaplmgdnfaaGreatDoorProg
import Derived.Test.YtkcceaplmgdnfaaGreatDoorC27
set_option linter.all false
namespace Go.Proofs.YtkcceaplmgdnfaaGreatDoor
open Go.Proofs.Tryz (prog)
open Go.bu
set_option maxRecDepth 100000
@[simp] def Tq0:TI:=⟨.func,1,8,.nilFunc,[]⟩
@[simp] def Tq1:TI:=⟨.int .i64,1,8,(.int .i64 0),[]⟩
@[simp] def Tq2:TI:=⟨.bool,1,1,(.bool false),[]⟩
@[simp] def Tq3:TI:=⟨.int .u8,1,1,(.int .u8 0),[]⟩
@[simp] def Tq4:TI:=⟨.struct,4,24,(.agg #[(.int .i64 0),(.int .i64 0),(.bool false),(.int .u8 0)]),[(0,1,2),(1,1,3),(2,1,4),(3,1,6)]⟩
@[simp] def Tq5:TI:=⟨.string,1,16,(.string ByteArray.empty),[]⟩
@[simp] def Tq6:TI:=⟨.int .u64,1,8,(.int .u64 0),[]⟩
@[simp] def Tq7:TI:=⟨.struct,2,24,(.agg #[(.string ByteArray.empty),(.int .u64 0)]),[(0,1,9),(1,1,12)]⟩
@[simp] def Tq8:TI:=⟨.pointer 311,1,8,(.pointer none),[]⟩
@[simp] def Tq9:TI:=⟨.pointer 314,1,8,(.pointer none),[]⟩
@[simp] def Tq10:TI:=⟨.pointer 322,1,8,(.pointer none),[]⟩
@[simp] def Tq11:TI:=⟨.struct,1,8,(.agg #[(.pointer none)]),[(0,1,17)]⟩
@[simp] def Tq12:TI:=⟨.iface,1,16,.nilIface,[]⟩
@[simp] def Tq13:TI:=⟨.int .i32,1,4,(.int .i32 0),[]⟩
@[simp] def Tq14:TI:=⟨.slice 3,1,24,(.slice none 0 0),[]⟩
@[simp] def Tq15:TI:=⟨.slice 56,1,24,(.slice none 0 0),[]⟩
@[simp] def Tq16:TI:=⟨.slice 22,1,24,(.slice none 0 0),[]⟩
@[simp] def Tq17:TI:=⟨.struct,2,16,(.agg #[(.int .i64 0),(.int .i64 0)]),[(0,1,3),(1,1,3)]⟩
@[simp] def Tq18:TI:=⟨.struct,6,80,(.agg #[(.slice none 0 0),(.slice none 0 0),(.int .i64 0),(.int .i64 0),(.int .i64 0),(.int .i64 0)]),[(0,1,23),(1,1,24),(2,2,26),(4,1,3),(5,1,3)]⟩
@[simp] def Tq19:TI:=⟨.slice 50,1,24,(.slice none 0 0),[]⟩
@[simp] def Tq20:TI:=⟨.slice 58,1,24,(.slice none 0 0),[]⟩
@[simp] def Tq21:TI:=⟨.struct,9,136,(.agg #[(.slice none 0 0),(.slice none 0 0),(.int .i64 0),(.int .i64 0),(.int .i64 0),(.int .i64 0),(.int .i64 0),(.slice none 0 0),(.slice none 0 0)]),[(0,6,28),(6,1,3),(7,1,29),(8,1,30)]⟩
@[simp] def Tq22:TI:=⟨.pointer 83,1,8,(.pointer none),[]⟩
@[simp] def Tq23:TI:=⟨.struct,5,40,(.agg #[(.int .i64 0),(.int .i64 0),(.int .i64 0),(.int .i64 0),(.int .i64 0)]),[(0,1,3),(1,1,3),(2,1,3),(3,2,26)]⟩
@[simp] def Tq24:TI:=⟨.struct,6,64,(.agg #[(.int .i64 0),(.int .i64 0),(.int .i64 0),(.slice none 0 0),(.int .i64 0),(.int .i64 0)]),[(0,1,3),(1,1,3),(2,1,3),(3,1,22),(4,1,3),(5,1,3)]⟩
@[simp] def Tq25:TI:=⟨.struct,8,80,(.agg #[(.int .i64 0),(.int .i64 0),(.int .i64 0),(.slice none 0 0),(.int .i64 0),(.int .i64 0),(.int .i64 0),(.int .i64 0)]),[(0,6,56),(6,1,3),(7,1,3)]⟩
@[simp] def Tq26:TI:=⟨.slice 26,1,24,(.slice none 0 0),[]⟩
@[simp] def Tq27:TI:=⟨.struct,3,40,(.agg #[(.slice none 0 0),(.int .i64 0),(.int .u64 0)]),[(0,1,22),(1,1,3),(2,1,81)]⟩
@[simp] def Tq28:TI:=⟨.pointer 158,1,8,(.pointer none),[]⟩
@[simp] def Tq29:TI:=⟨.pointer 32,1,8,(.pointer none),[]⟩
@[simp] def Tq30:TI:=⟨.struct,1,8,(.agg #[.nilFunc]),[(0,1,45)]⟩
@[simp] def Tq31:TI:=⟨.struct,0,0,(.agg #[]),[]⟩
@[simp] def Tq32:TI:=⟨.struct,2,2,(.agg #[(.int .u8 0),(.int .u8 0)]),[(0,1,110),(1,1,110)]⟩
@[simp] def Tq33:TI:=⟨.struct,2,32,(.agg #[(.slice none 0 0),(.int .i64 0)]),[(0,1,22),(1,1,3)]⟩
@[simp] def Tq34:TI:=⟨.slice 136,1,24,(.slice none 0 0),[]⟩
@[simp] def Tq35:TI:=⟨.array 2 3,2,16,(.agg #[(.int .i64 0),(.int .i64 0)]),[]⟩
@[simp] def Tq36:TI:=⟨.struct,1,8,(.agg #[.nilFunc]),[(0,1,51)]⟩
@[simp] def Tq37:TI:=⟨.int .u32,1,4,(.int .u32 0),[]⟩
@[simp] def Tq38:TI:=⟨.struct,2,8,(.agg #[(.int .i32 0),(.int .u32 0)]),[(0,1,21),(1,1,150)]⟩
@[simp] def Tq39:TI:=⟨.struct,2,8,(.agg #[(.int .i32 0),(.int .u32 0)]),[(0,0,149),(0,2,152)]⟩
@[simp] def Tq40:TI:=⟨.array 3 3,3,24,(.agg #[(.int .i64 0),(.int .i64 0),(.int .i64 0)]),[]⟩
@[simp] def Tq41:TI:=⟨.map 112 193,1,8,(.map none),[]⟩
@[simp] def Tq42:TI:=⟨.struct,15,176,(.agg #[(.slice none 0 0),(.slice none 0 0),(.int .i64 0),(.int .i64 0),(.int .i64 0),(.int .i64 0),(.int .i64 0),(.slice none 0 0),(.slice none 0 0),(.int .i32 0),(.int .u32 0),(.int .i64 0),(.int .i64 0),(.int .i64 0),(.map none)]),[(0,9,32),(9,2,154),(11,3,155),(14,1,156)]⟩
@[simp] def Tq43:TI:=⟨.struct,1,8,(.agg #[(.int .u64 0)]),[(0,0,159),(0,0,160),(0,1,81)]⟩
@[simp] def Tq44:TI:=⟨.struct,2,16,(.agg #[(.int .u64 0),(.int .u32 0)]),[(0,0,149),(0,1,162),(1,1,150)]⟩
@[simp] def Tq45:TI:=⟨.array 4 3,4,32,(.agg #[(.int .i64 0),(.int .i64 0),(.int .i64 0),(.int .i64 0)]),[]⟩
@[simp] def Tq46:TI:=⟨.array 3 110,3,3,(.agg #[(.int .u8 0),(.int .u8 0),(.int .u8 0)]),[]⟩
@[simp] def Tq47:TI:=⟨.array 3 124,3,48,(.agg #[.nilIface,.nilIface,.nilIface]),[]⟩
@[simp] def Tq48:TI:=⟨.struct,1,4,(.agg #[(.int .u32 0)]),[(0,0,159),(0,1,150)]⟩
@[simp] def Tq49:TI:=⟨.struct,3,12,(.agg #[(.int .u32 0),(.int .i32 0),(.int .u32 0)]),[(0,0,149),(0,1,187),(1,2,154)]⟩
@[simp] def Tq50:TI:=⟨.array 6 185,18,288,(.agg #[.nilIface,.nilIface,.nilIface,.nilIface,.nilIface,.nilIface,.nilIface,.nilIface,.nilIface,.nilIface,.nilIface,.nilIface,.nilIface,.nilIface,.nilIface,.nilIface,.nilIface,.nilIface]),[]⟩
@[simp] def Tq51:TI:=⟨.struct,21,304,(.agg #[(.int .u32 0),(.int .i32 0),(.int .u32 0),.nilIface,.nilIface,.nilIface,.nilIface,.nilIface,.nilIface,.nilIface,.nilIface,.nilIface,.nilIface,.nilIface,.nilIface,.nilIface,.nilIface,.nilIface,.nilIface,.nilIface,.nilIface]),[(0,3,189),(3,18,190)]⟩
@[simp] def Tq52:TI:=⟨.pointer 192,1,8,(.pointer none),[]⟩
@[simp] def Tq53:TI:=⟨.struct,1,8,(.agg #[(.int .i64 0)]),[(0,1,37)]⟩
@[simp] def Tq54:TI:=⟨.pointer 197,1,8,(.pointer none),[]⟩
@[simp] def Tq55:TI:=⟨.pointer 257,1,8,(.pointer none),[]⟩
@[simp] def Tq56:TI:=⟨.pointer 164,1,8,(.pointer none),[]⟩
@[simp] def Tq57:TI:=⟨.pointer 150,1,8,(.pointer none),[]⟩
@[simp] def Tq58:TI:=⟨.pointer 154,1,8,(.pointer none),[]⟩
@[simp] def Tq59:TI:=⟨.slice 100,1,24,(.slice none 0 0),[]⟩
@[simp] def Tq60:TI:=⟨.struct,3,24,(.agg #[(.pointer none),(.pointer none),(.int .u64 0)]),[(0,1,17),(1,1,210),(2,1,243)]⟩
@[simp] def Tq61:TI:=⟨.map 291 4,1,8,(.map none),[]⟩
@[simp] def Tq62:TI:=⟨.struct,9,96,(.agg #[(.slice none 0 0),(.slice none 0 0),(.int .i64 0),(.int .i64 0),(.int .i64 0),(.int .i64 0),(.int .i32 0),(.int .u32 0),(.map none)]),[(0,6,28),(6,2,154),(8,1,255)]⟩
@[simp] def Tq63:TI:=⟨.chan 3,1,8,(.chan none),[]⟩
@[simp] def Tq64:TI:=⟨.pointer 273,1,8,(.pointer none),[]⟩
@[simp] def Tq65:TI:=⟨.struct,1,8,(.agg #[.nilFunc]),[(0,1,48)]⟩
@[simp] def Tq66:TI:=⟨.slice 239,1,24,(.slice none 0 0),[]⟩
@[simp] def Tq67:TI:=⟨.pointer 189,1,8,(.pointer none),[]⟩
@[simp] def Tq68:TI:=⟨.struct,1,1,(.agg #[(.int .u8 0)]),[(0,1,5)]⟩
@[simp] def Tq69:TI:=⟨.array 6 291,6,6,(.agg #[(.int .u8 0),(.int .u8 0),(.int .u8 0),(.int .u8 0),(.int .u8 0),(.int .u8 0)]),[]⟩
@[simp] def Tq70:TI:=⟨.pointer 187,1,8,(.pointer none),[]⟩
@[simp] def Tq71:TI:=⟨.struct,4,40,(.agg #[(.pointer none),(.pointer none),(.pointer none),(.string ByteArray.empty)]),[(0,1,17),(1,1,17),(2,1,17),(3,1,9)]⟩
@[simp] def Tq72:TI:=⟨.array 0 16,0,0,(.agg #[]),[]⟩
@[simp] def Tq73:TI:=⟨.struct,0,0,(.agg #[]),[(0,0,312)]⟩
@[simp] def Tq74:TI:=⟨.pointer 5,1,8,(.pointer none),[]⟩
@[simp] def Tq75:TI:=⟨.struct,11,48,(.agg #[(.int .u64 0),(.int .u64 0),(.int .u32 0),(.int .u8 0),(.int .u8 0),(.int .u8 0),(.int .u8 0),.nilFunc,(.pointer none),(.int .i32 0),(.int .i32 0)]),[(0,1,12),(1,1,12),(2,1,150),(3,1,316),(4,1,5),(5,1,5),(6,1,248),(7,1,317),(8,1,318),(9,1,319),(10,1,320)]⟩
def JQ:List (Nat × TI):=[
 (1,Tq0),
 (2,Tq1),
 (3,Tq1),
 (4,Tq2),
 (5,Tq3),
 (6,Tq3),
 (7,Tq4),
 (8,Tq4),
 (9,Tq5),
 (10,Tq5),
 (11,Tq5),
 (12,Tq6),
 (13,Tq7),
 (14,Tq7),
 (15,Tq8),
 (16,Tq9),
 (17,Tq10),
 (18,Tq11),
 (19,Tq11),
 (20,Tq12),
 (21,Tq13),
 (22,Tq14),
 (23,Tq15),
 (24,Tq16),
 (25,Tq17),
 (26,Tq17),
 (27,Tq18),
 (28,Tq18),
 (29,Tq19),
 (30,Tq20),
 (31,Tq21),
 (32,Tq21),
 (34,Tq0),
 (35,Tq22),
 (36,Tq0),
 (37,Tq1),
 (39,Tq0),
 (40,Tq0),
 (42,Tq0),
 (43,Tq0),
 (44,Tq0),
 (45,Tq0),
 (46,Tq0),
 (48,Tq0),
 (49,Tq23),
 (50,Tq23),
 (51,Tq0),
 (52,Tq0),
 (56,Tq24),
 (58,Tq25),
 (59,Tq26),
 (67,Tq0),
 (72,Tq0),
 (73,Tq0),
 (81,Tq6),
 (83,Tq27),
 (84,Tq28),
 (87,Tq0),
 (88,Tq0),
 (90,Tq29),
 (93,Tq30),
 (99,Tq12),
 (100,Tq12),
 (102,Tq0),
 (105,Tq31),
 (106,Tq0),
 (107,Tq0),
 (108,Tq0),
 (110,Tq3),
 (112,Tq32),
 (114,Tq0),
 (115,Tq0),
 (121,Tq0),
 (124,Tq12),
 (125,Tq31),
 (136,Tq33),
 (137,Tq34),
 (145,Tq35),
 (147,Tq36),
 (148,Tq36),
 (149,Tq31),
 (150,Tq37),
 (152,Tq38),
 (154,Tq39),
 (155,Tq40),
 (156,Tq41),
 (158,Tq42),
 (159,Tq31),
 (160,Tq31),
 (162,Tq43),
 (164,Tq44),
 (167,Tq45),
 (170,Tq6),
 (172,Tq12),
 (175,Tq0),
 (176,Tq0),
 (177,Tq46),
 (184,Tq0),
 (185,Tq47),
 (186,Tq48),
 (187,Tq48),
 (189,Tq49),
 (190,Tq50),
 (192,Tq51),
 (193,Tq52),
 (195,Tq31),
 (197,Tq53),
 (199,Tq54),
 (201,Tq55),
 (204,Tq0),
 (208,Tq56),
 (211,Tq1),
 (215,Tq57),
 (219,Tq58),
 (224,Tq11),
 (226,Tq12),
 (229,Tq12),
 (231,Tq12),
 (232,Tq59),
 (239,Tq12),
 (243,Tq6),
 (245,Tq60),
 (248,Tq3),
 (255,Tq61),
 (257,Tq62),
 (258,Tq63),
 (273,Tq53),
 (275,Tq64),
 (277,Tq65),
 (278,Tq31),
 (279,Tq31),
 (280,Tq31),
 (281,Tq66),
 (283,Tq67),
 (284,Tq31),
 (291,Tq68),
 (292,Tq69),
 (295,Tq0),
 (298,Tq70),
 (311,Tq71),
 (312,Tq72),
 (314,Tq73),
 (316,Tq3),
 (317,Tq0),
 (318,Tq74),
 (319,Tq13),
 (320,Tq13),
 (322,Tq75),
 (328,Tq3)]
theorem GG:(JQ.all λx=>x.2.check Tryz.prog x.1)=true:=by kernel_rfl
def zZ(t:Nat):Option TI:=(JQ.find? λx=>x.1==t).map (·.2)
theorem DL(t:Nat)(i:TI)(h:zZ t=some i):i.check Tryz.prog t=true:=by unfold zZ at h;obtain⟨x,a,rfl⟩:=Option.map_eq_some_iff.1 h;have c:=List.find?_some a;have b:=List.all_eq_true.1 GG x (List.mem_of_find?_eq_some a);rw[beq_iff_eq.1 c]at b;exact b
def lay:hQ Tryz.prog:=⟨zZ,DL,by kernel_rfl⟩
theorem rn{m:Mo}{fid n:Nat}{ro:Option Nat}{hold:List Entry}{s:St}{K:bu.Exit->St->Prop}{todo:List Item}(h:bd lay m fid n ro [] hold 1000 todo s K):af Tryz.prog m fid n ro hold todo s K:=af.run lay [] h
theorem pg{m:Mo}{ops:Array Oper}{n:Nat}{Kp:AV->aa->Prop}{R:Env->aa->Prop}{p:iD}{env:Env}{σ:aa}(h:fY lay m [] ops n Kp p env σ R):aI Tryz.prog m ops n Kp p env σ R:=aI.go lay [] h
theorem cf{m:Mo}{f:FuncId}{fn:Func}{args:List AV}{σ:aa}{KF:cJ->aa->Prop}(a:Tryz.prog.funcs[f]?=some fn)(hb:(fn.body.isSome && !(fn.name== "runtime.NumGoroutine"))=true)(h:aB Tryz.prog m f args σ KF):bz Tryz.prog m (.fn (.func f) [] []) args σ KF:=by
 simp only[Bool.and_eq_true,Bool.not_eq_true']at hb;exact an a hb.1 hb.2 h
theorem fs{m:Mo}{f:FuncId}{fn:Func}{args:List AV}{σ:aa}{KF:cJ->aa->Prop}{body:Code}(hold:List Entry)(k:Nat)(b:Tryz.prog.funcs[f]?=some fn)(hb:fn.body=some body)(c:args.length=k)(d:mS fn k=true)(a:jX hold body=true)(h:bd lay m f fn.ntmps none [] hold 1000 [.code body] ⟨cW args,σ,[],.no⟩ (PR lay m fn.results.toList (ml KF))):aB Tryz.prog m f args σ KF:=aB.start lay [] hold k b hb c d a h
@[simp] theorem XR:lay.tt 1=some Tq0:=rfl
@[simp] theorem XS:lay.tt 2=some Tq1:=rfl
@[simp] theorem qp:lay.tt 3=some Tq1:=rfl
@[simp] theorem WZ:lay.tt 4=some Tq2:=rfl
@[simp] theorem Vn:lay.tt 5=some Tq3:=rfl
@[simp] theorem XT:lay.tt 6=some Tq3:=rfl
@[simp] theorem XU:lay.tt 7=some Tq4:=rfl
@[simp] theorem XV:lay.tt 8=some Tq4:=rfl
@[simp] theorem XW:lay.tt 9=some Tq5:=rfl
@[simp] theorem W2:lay.tt 10=some Tq5:=rfl
@[simp] theorem W6:lay.tt 11=some Tq5:=rfl
@[simp] theorem W7:lay.tt 12=some Tq6:=rfl
@[simp] theorem W8:lay.tt 13=some Tq7:=rfl
@[simp] theorem W9:lay.tt 14=some Tq7:=rfl
@[simp] theorem Xa:lay.tt 15=some Tq8:=rfl
@[simp] theorem Xb:lay.tt 16=some Tq9:=rfl
@[simp] theorem Xc:lay.tt 17=some Tq10:=rfl
@[simp] theorem Xd:lay.tt 18=some Tq11:=rfl
@[simp] theorem Xe:lay.tt 19=some Tq11:=rfl
@[simp] theorem Xf:lay.tt 20=some Tq12:=rfl
@[simp] theorem Xg:lay.tt 21=some Tq13:=rfl
@[simp] theorem dT:lay.tt 22=some Tq14:=rfl
@[simp] theorem wx:lay.tt 23=some Tq15:=rfl
@[simp] theorem sH:lay.tt 24=some Tq16:=rfl
@[simp] theorem Xh:lay.tt 25=some Tq17:=rfl
@[simp] theorem Ui:lay.tt 26=some Tq17:=rfl
@[simp] theorem Xi:lay.tt 27=some Tq18:=rfl
@[simp] theorem Xj:lay.tt 28=some Tq18:=rfl
@[simp] theorem DN:lay.tt 29=some Tq19:=rfl
@[simp] theorem um:lay.tt 30=some Tq20:=rfl
@[simp] theorem Xk:lay.tt 31=some Tq21:=rfl
@[simp] theorem Xl:lay.tt 32=some Tq21:=rfl
@[simp] theorem Xm:lay.tt 34=some Tq0:=rfl
@[simp] theorem Xn:lay.tt 35=some Tq22:=rfl
@[simp] theorem Xo:lay.tt 36=some Tq0:=rfl
@[simp] theorem Xp:lay.tt 37=some Tq1:=rfl
@[simp] theorem Xq:lay.tt 39=some Tq0:=rfl
@[simp] theorem Xr:lay.tt 40=some Tq0:=rfl
@[simp] theorem Xs:lay.tt 42=some Tq0:=rfl
@[simp] theorem Xt:lay.tt 43=some Tq0:=rfl
@[simp] theorem Xu:lay.tt 44=some Tq0:=rfl
@[simp] theorem Xv:lay.tt 45=some Tq0:=rfl
@[simp] theorem Xw:lay.tt 46=some Tq0:=rfl
@[simp] theorem Xx:lay.tt 48=some Tq0:=rfl
@[simp] theorem Xy:lay.tt 49=some Tq23:=rfl
@[simp] theorem JR:lay.tt 50=some Tq23:=rfl
@[simp] theorem Xz:lay.tt 51=some Tq0:=rfl
@[simp] theorem XA:lay.tt 52=some Tq0:=rfl
@[simp] theorem JS:lay.tt 56=some Tq24:=rfl
@[simp] theorem DO:lay.tt 58=some Tq25:=rfl
@[simp] theorem Sl:lay.tt 59=some Tq26:=rfl
@[simp] theorem XB:lay.tt 67=some Tq0:=rfl
@[simp] theorem XC:lay.tt 72=some Tq0:=rfl
@[simp] theorem XD:lay.tt 73=some Tq0:=rfl
@[simp] theorem XE:lay.tt 81=some Tq6:=rfl
@[simp] theorem XF:lay.tt 83=some Tq27:=rfl
@[simp] theorem XG:lay.tt 84=some Tq28:=rfl
@[simp] theorem XH:lay.tt 87=some Tq0:=rfl
@[simp] theorem XI:lay.tt 88=some Tq0:=rfl
@[simp] theorem XJ:lay.tt 90=some Tq29:=rfl
@[simp] theorem XK:lay.tt 93=some Tq30:=rfl
@[simp] theorem XL:lay.tt 99=some Tq12:=rfl
@[simp] theorem tJ:lay.tt 100=some Tq12:=rfl
@[simp] theorem Vo:lay.tt 102=some Tq0:=rfl
@[simp] theorem Vp:lay.tt 105=some Tq31:=rfl
@[simp] theorem Vq:lay.tt 106=some Tq0:=rfl
@[simp] theorem Vr:lay.tt 107=some Tq0:=rfl
@[simp] theorem Vt:lay.tt 108=some Tq0:=rfl
@[simp] theorem JU:lay.tt 110=some Tq3:=rfl
@[simp] theorem Vu:lay.tt 112=some Tq32:=rfl
@[simp] theorem Vv:lay.tt 114=some Tq0:=rfl
@[simp] theorem Vw:lay.tt 115=some Tq0:=rfl
@[simp] theorem Vx:lay.tt 121=some Tq0:=rfl
@[simp] theorem On:lay.tt 124=some Tq12:=rfl
@[simp] theorem Vy:lay.tt 125=some Tq31:=rfl
@[simp] theorem Sm:lay.tt 136=some Tq33:=rfl
@[simp] theorem Oo:lay.tt 137=some Tq34:=rfl
@[simp] theorem Oq:lay.tt 145=some Tq35:=rfl
@[simp] theorem Vz:lay.tt 147=some Tq36:=rfl
@[simp] theorem VA:lay.tt 148=some Tq36:=rfl
@[simp] theorem VB:lay.tt 149=some Tq31:=rfl
@[simp] theorem VC:lay.tt 150=some Tq37:=rfl
@[simp] theorem VD:lay.tt 152=some Tq38:=rfl
@[simp] theorem VE:lay.tt 154=some Tq39:=rfl
@[simp] theorem VF:lay.tt 155=some Tq40:=rfl
@[simp] theorem VG:lay.tt 156=some Tq41:=rfl
@[simp] theorem VH:lay.tt 158=some Tq42:=rfl
@[simp] theorem VI:lay.tt 159=some Tq31:=rfl
@[simp] theorem VJ:lay.tt 160=some Tq31:=rfl
@[simp] theorem VK:lay.tt 162=some Tq43:=rfl
@[simp] theorem VL:lay.tt 164=some Tq44:=rfl
@[simp] theorem VM:lay.tt 167=some Tq45:=rfl
@[simp] theorem VN:lay.tt 170=some Tq6:=rfl
@[simp] theorem VO:lay.tt 172=some Tq12:=rfl
@[simp] theorem VP:lay.tt 175=some Tq0:=rfl
@[simp] theorem VQ:lay.tt 176=some Tq0:=rfl
@[simp] theorem Sn:lay.tt 177=some Tq46:=rfl
@[simp] theorem VR:lay.tt 184=some Tq0:=rfl
@[simp] theorem VS:lay.tt 185=some Tq47:=rfl
@[simp] theorem VT:lay.tt 186=some Tq48:=rfl
@[simp] theorem VU:lay.tt 187=some Tq48:=rfl
@[simp] theorem VV:lay.tt 189=some Tq49:=rfl
@[simp] theorem VW:lay.tt 190=some Tq50:=rfl
@[simp] theorem VX:lay.tt 192=some Tq51:=rfl
@[simp] theorem So:lay.tt 193=some Tq52:=rfl
@[simp] theorem VY:lay.tt 195=some Tq31:=rfl
@[simp] theorem VZ:lay.tt 197=some Tq53:=rfl
@[simp] theorem V0:lay.tt 199=some Tq54:=rfl
@[simp] theorem V1:lay.tt 201=some Tq55:=rfl
@[simp] theorem V2:lay.tt 204=some Tq0:=rfl
@[simp] theorem V3:lay.tt 208=some Tq56:=rfl
@[simp] theorem V4:lay.tt 211=some Tq1:=rfl
@[simp] theorem V5:lay.tt 215=some Tq57:=rfl
@[simp] theorem V6:lay.tt 219=some Tq58:=rfl
@[simp] theorem V7:lay.tt 224=some Tq11:=rfl
@[simp] theorem V8:lay.tt 226=some Tq12:=rfl
@[simp] theorem V9:lay.tt 229=some Tq12:=rfl
@[simp] theorem V':lay.tt 231=some Tq12:=rfl
@[simp] theorem Wa:lay.tt 232=some Tq59:=rfl
@[simp] theorem Ot:lay.tt 239=some Tq12:=rfl
@[simp] theorem Wb:lay.tt 243=some Tq6:=rfl
@[simp] theorem Wc:lay.tt 245=some Tq60:=rfl
@[simp] theorem We:lay.tt 248=some Tq3:=rfl
@[simp] theorem Wf:lay.tt 255=some Tq61:=rfl
@[simp] theorem Wg:lay.tt 257=some Tq62:=rfl
@[simp] theorem Fw:lay.tt 258=some Tq63:=rfl
@[simp] theorem Wh:lay.tt 273=some Tq53:=rfl
@[simp] theorem Wi:lay.tt 275=some Tq64:=rfl
@[simp] theorem Wj:lay.tt 277=some Tq65:=rfl
@[simp] theorem Sp:lay.tt 278=some Tq31:=rfl
@[simp] theorem Sq:lay.tt 279=some Tq31:=rfl
@[simp] theorem Sr:lay.tt 280=some Tq31:=rfl
@[simp] theorem Wk:lay.tt 281=some Tq66:=rfl
@[simp] theorem Wm:lay.tt 283=some Tq67:=rfl
@[simp] theorem Wo:lay.tt 284=some Tq31:=rfl
@[simp] theorem Wp:lay.tt 291=some Tq68:=rfl
@[simp] theorem Wq:lay.tt 292=some Tq69:=rfl
@[simp] theorem Wr:lay.tt 295=some Tq0:=rfl
@[simp] theorem Wt:lay.tt 298=some Tq70:=rfl
@[simp] theorem Wu:lay.tt 311=some Tq71:=rfl
@[simp] theorem Wv:lay.tt 312=some Tq72:=rfl
@[simp] theorem Ww:lay.tt 314=some Tq73:=rfl
@[simp] theorem Wx:lay.tt 316=some Tq3:=rfl
@[simp] theorem Wy:lay.tt 317=some Tq0:=rfl
@[simp] theorem Wz:lay.tt 318=some Tq74:=rfl
@[simp] theorem WG:lay.tt 319=some Tq13:=rfl
@[simp] theorem WH:lay.tt 320=some Tq13:=rfl
@[simp] theorem WJ:lay.tt 322=some Tq75:=rfl
@[simp] theorem WK:lay.tt 328=some Tq3:=rfl
end Go.Proofs.YtkcceaplmgdnfaaGreatDoor
namespace Go.Proofs.YtkcceaplmgdnfaaGreatDoor
open Go.Proofs.Tryz (prog)
open Go.bu
abbrev XN:List Entry:=[⟨2,.take [0,1,2,3,4,5,7,9,10,12,13,15,16] false (.both 6 (.one 8 (.one 11 (.one 14 (.one 17 (.done))))) (.one 8 (.both 6 (.one 11 (.one 14 (.one 17 (.done)))) (.one 11 (.one 6 (.one 14 (.one 17 (.done))))))))⟩,⟨31,.take [1] false (.both 0 (.both 2 (.take [3,4,5,8] false (.one 6 (.one 7 (.done)))) (.one 6 (.one 2 (.take [3,4,5,8] false (.one 7 (.done)))))) (.one 6 (.one 0 (.one 2 (.take [3,4,5,8] false (.one 7 (.done)))))))⟩,⟨32,.take [1] false (.one 0 (.one 2 (.one 3 (.take [4,5,6,7] true (.done)))))⟩,⟨33,.take [0,1,2,3,4,5,6,7,8,9,10,11,13] false (.one 12 (.one 14 (.one 15 (.take [16,17] true (.done)))))⟩]
abbrev Uj:List Entry:=[⟨4,.take [0,1,2,3,4,5,6,7,8] true (.done)⟩]
abbrev Uk:List Entry:=[⟨5,.take [0,1,3,4,8] false (.one 2 (.take [6] false (.one 5 (.take [7] true (.done)))))⟩]
abbrev Ss:List Entry:=[⟨8,.take [0,1,2,3,4,5,7] false (.both 6 (.both 8 (.take [9] false (.one 10 (.one 11 (.done)))) (.one 10 (.one 8 (.take [9] true (.one 11 (.done)))))) (.one 10 (.one 6 (.one 8 (.take [9] true (.one 11 (.done)))))))⟩,⟨12,.take [0,1,2,3,4,6,7,8,9] false (.one 5 (.one 10 (.done)))⟩]
abbrev Pu:List Entry:=[⟨3,.take [0,1,2] false (.both 3 (.one 4 (.one 5 (.one 6 (.one 7 (.one 8 (.one 9 (.done))))))) (.one 4 (.both 3 (.one 5 (.one 6 (.one 7 (.one 8 (.one 9 (.done)))))) (.one 5 (.both 3 (.one 6 (.one 7 (.one 8 (.one 9 (.done))))) (.one 6 (.both 3 (.one 7 (.one 8 (.one 9 (.done)))) (.one 7 (.one 3 (.one 8 (.one 9 (.done))))))))))))⟩]
abbrev Ul:List Entry:=[⟨26,.take [0,1,2,3] false (.one 4 (.one 5 (.one 6 (.take [7,8,9,10,11] true (.done)))))⟩]
abbrev Um:List Entry:=[⟨7,.take [0,1,2,3,4,5,7,8,9,10,11,12] false (.one 6 (.one 13 (.one 14 (.take [15] true (.done)))))⟩]
abbrev Uo:List Entry:=[⟨6,.take [0,1,2,3,4,5,6,7,8] true (.done)⟩]
abbrev Up:List Entry:=[⟨6,.take [0,1,2,3,4,5,6,7,8,9] false (.one 10 (.take [11] true (.done)))⟩]
abbrev Su:List Entry:=[⟨4,.take [0,1,2,3,4,5] false (.one 6 (.done))⟩]
abbrev Uq:List Entry:=[⟨16,.take [0,1,2,4,5,6,8,9,12] false (.both 3 (.one 7 (.one 10 (.one 11 (.one 13 (.done))))) (.one 7 (.both 3 (.one 10 (.one 11 (.one 13 (.done)))) (.one 10 (.take [3] true (.one 11 (.one 13 (.done))))))))⟩]
abbrev Ou:List Entry:=[⟨7,.take [0,1,2] false (.one 3 (.one 4 (.take [5,6,7,8,9] true (.done))))⟩]
abbrev Sv:List Entry:=[⟨1,.take [0,1,2,3,4] false (.both 5 (.one 6 (.one 7 (.done))) (.one 6 (.one 5 (.one 7 (.done)))))⟩,⟨4,.take [0,1,2,3,4,5] true (.one 6 (.done))⟩]
abbrev Sw:List Entry:=[⟨4,.take [0,1,2,3,4,5,6,7] false (.one 8 (.take [9] true (.done)))⟩]
abbrev Sx:List Entry:=[⟨6,.take [0,1,2,3] true (.done)⟩]
abbrev Sz:List Entry:=[⟨1,.take [0,1,2,3,4,5,6] true (.done)⟩]
abbrev SA:List Entry:=[⟨0,.take [0,1,3,4,6,7] false (.both 2 (.both 5 (.take [11] false (.both 8 (.take [12] false (.one 9 (.one 10 (.done)))) (.one 9 (.one 8 (.take [12] false (.one 10 (.done))))))) (.one 9 (.one 5 (.take [11] false (.one 8 (.take [12] false (.one 10 (.done)))))))) (.one 9 (.one 2 (.one 5 (.take [11] false (.one 8 (.take [12] false (.one 10 (.done)))))))))⟩,⟨8,.take [0,1,2,3,5,6,7,8] false (.one 4 (.one 9 (.done)))⟩]
abbrev SB:List Entry:=[⟨24,.take [0,1,2,3,4,5,6,7,8,9,10,11,12,13,14,15,16,17,18,19,20,21,22,23,24] true (.done)⟩,⟨29,.take [0,1,2,3,4,5,6,7,8,9,10,11,12,13,14,15,16,17,18,19,20,21,22] true (.done)⟩]
abbrev SC:List Entry:=[⟨1,.take [0,1,2,3,4,5,6,7,8,9,10,11,12,13,14,15,16,17] false (.one 18 (.take [19] true (.done)))⟩]
abbrev SD:List Entry:=[⟨4,.take [0,2,4] false (.take [1] true (.one 3 (.one 5 (.done))))⟩,⟨5,.take [0,1,2] false (.one 3 (.one 4 (.take [5,6,8,9,10,12,15,16,17] false (.both 7 (.both 11 (.both 13 (.both 14 (.one 18 (.one 19 (.take [20,21] true (.done)))) (.one 18 (.one 14 (.one 19 (.take [20,21] true (.done)))))) (.one 18 (.one 13 (.one 14 (.one 19 (.take [20,21] true (.done))))))) (.both 13 (.both 11 (.both 14 (.one 18 (.one 19 (.take [20,21] true (.done)))) (.one 18 (.one 14 (.one 19 (.take [20,21] true (.done)))))) (.one 18 (.one 11 (.one 14 (.one 19 (.take [20,21] true (.done))))))) (.one 18 (.both 11 (.one 13 (.one 14 (.one 19 (.take [20,21] true (.done))))) (.one 13 (.one 11 (.one 14 (.one 19 (.take [20,21] true (.done)))))))))) (.both 11 (.both 7 (.both 13 (.both 14 (.one 18 (.one 19 (.take [20,21] true (.done)))) (.one 18 (.one 14 (.one 19 (.take [20,21] true (.done)))))) (.one 18 (.one 13 (.one 14 (.one 19 (.take [20,21] true (.done))))))) (.both 13 (.both 7 (.both 14 (.one 18 (.one 19 (.take [20,21] true (.done)))) (.one 18 (.one 14 (.one 19 (.take [20,21] true (.done)))))) (.both 14 (.both 7 (.one 18 (.one 19 (.take [20,21] true (.done)))) (.one 18 (.one 7 (.one 19 (.take [20,21] true (.done)))))) (.one 18 (.both 7 (.one 14 (.one 19 (.take [20,21] true (.done)))) (.one 14 (.one 7 (.one 19 (.take [20,21] true (.done))))))))) (.one 18 (.both 7 (.one 13 (.one 14 (.one 19 (.take [20,21] true (.done))))) (.one 13 (.both 7 (.one 14 (.one 19 (.take [20,21] true (.done)))) (.one 14 (.one 7 (.one 19 (.take [20,21] true (.done))))))))))) (.both 13 (.both 7 (.both 11 (.both 14 (.one 18 (.one 19 (.take [20,21] true (.done)))) (.one 18 (.one 14 (.one 19 (.take [20,21] true (.done)))))) (.one 18 (.one 11 (.one 14 (.one 19 (.take [20,21] true (.done))))))) (.both 11 (.both 7 (.both 14 (.one 18 (.one 19 (.take [20,21] true (.done)))) (.one 18 (.one 14 (.one 19 (.take [20,21] true (.done)))))) (.both 14 (.both 7 (.one 18 (.one 19 (.take [20,21] true (.done)))) (.one 18 (.one 7 (.one 19 (.take [20,21] true (.done)))))) (.one 18 (.both 7 (.one 14 (.one 19 (.take [20,21] true (.done)))) (.one 14 (.one 7 (.one 19 (.take [20,21] true (.done))))))))) (.one 18 (.both 7 (.one 11 (.one 14 (.one 19 (.take [20,21] true (.done))))) (.one 11 (.both 7 (.one 14 (.one 19 (.take [20,21] true (.done)))) (.one 14 (.one 7 (.one 19 (.take [20,21] true (.done))))))))))) (.one 18 (.both 7 (.both 11 (.one 13 (.one 14 (.one 19 (.take [20,21] true (.done))))) (.one 13 (.one 11 (.one 14 (.one 19 (.take [20,21] true (.done))))))) (.both 11 (.both 7 (.one 13 (.one 14 (.one 19 (.take [20,21] true (.done))))) (.one 13 (.both 7 (.one 14 (.one 19 (.take [20,21] true (.done)))) (.one 14 (.one 7 (.one 19 (.take [20,21] true (.done)))))))) (.one 13 (.both 7 (.one 11 (.one 14 (.one 19 (.take [20,21] true (.done))))) (.one 11 (.both 7 (.one 14 (.one 19 (.take [20,21] true (.done)))) (.one 14 (.one 7 (.one 19 (.take [20,21] true (.done))))))))))))))))))⟩]
abbrev SE:List Entry:=[⟨1,.take [0,1,2,3,4,5] true (.one 6 (.done))⟩]
abbrev SF:List Entry:=[⟨3,.take [0,1,2,3] false (.one 4 (.one 5 (.take [6,7,8,9,10] true (.done))))⟩,⟨6,.take [0,1,2,3,4,5] true (.one 6 (.done))⟩]
abbrev SG:List Entry:=[⟨0,.take [0,1,2,3] false (.one 4 (.one 5 (.done)))⟩]
abbrev Ov:List Entry:=[⟨7,.take [0,1,2,3] true (.done)⟩]
abbrev SH:List Entry:=[⟨1,.take [0,1,2,3,4,5,6,7,8,9] true (.done)⟩]
abbrev SI:List Entry:=[⟨4,.take [0,1,2,3,4,5,6,7,9,10,11,12] false (.both 8 (.one 13 (.one 14 (.take [15,16] true (.done)))) (.one 13 (.one 8 (.one 14 (.take [15,16] true (.done))))))⟩,⟨6,.take [0,1,2,3,4,5,6,7,8,10,11,12,14,16] false (.take [9,13] true (.one 15 (.one 17 (.done))))⟩]
abbrev SJ:List Entry:=[⟨4,.take [0,1,2,3,4,5,6,7,8,9,10,11,12,13,14,15,16,17,18,19,20] true (.done)⟩]
abbrev SK:List Entry:=[⟨8,.take [0,1,2,3,4,5,6,7,8,9,10,11,12,13,14] true (.done)⟩,⟨11,.take [0,1,3,4,5,6,7,8,10] false (.one 2 (.take [9,11] false (.one 12 (.one 13 (.take [14] true (.done))))))⟩,⟨17,.take [0,1,2,3] false (.one 4 (.one 5 (.take [6] true (.done))))⟩]
abbrev SL:List Entry:=[⟨4,.take [0,1,2,3,4,5,6,7,8,9,10,11,12,13,14,15,16,17,18,19,20,21,22] false (.both 23 (.one 24 (.one 25 (.one 26 (.done)))) (.one 24 (.one 23 (.one 25 (.one 26 (.done))))))⟩,⟨5,.take [0,1,2,3,4,5,6,7,8,9,10,11,12,13,14,15,16,17,18,19,20,21,22,23,24,26,27] false (.one 25 (.one 28 (.one 29 (.take [30,31,32] true (.done)))))⟩]
attribute [simp] Mm
abbrev int(n:Int):AV:=.lit (.int .i64 n)
abbrev u8(n:Int):AV:=.lit (.int .u8 n)
abbrev bool(b:Bool):AV:=.lit (.bool b)
abbrev ints(l:List Int):AV:=.sl 1 (l.map int) .any
abbrev rows(l:List (List Int)):AV:=.sl 1 (l.map ints) .any
structure rv where
 hour:Int
 place:Int
 lr:Int
 marks:List Int
 bS:Int
 pr:Int
 deriving DecidableEq
structure Fr where
 aF:List rv
 roads:List (List Int)
 bV:Int
 jj:Int
 oZ:Int
 eQ:Int
 deriving DecidableEq
abbrev dw(e:rv):AV:=.agg [int e.hour,int e.place,int e.lr,ints e.marks,int e.bS,int e.pr]
abbrev iY(l:List rv):AV:=.sl 6 (l.map dw) .any
abbrev B1(f:Fr):List AV:=[iY f.aF,rows f.roads,int f.bV,int f.jj,int f.oZ,int f.eQ]
abbrev dt(f:Fr):AV:=.agg (B1 f)
abbrev jU(b mb:Nat)(f:Fr)(o:Nat):AV:=.kp b [iY f.aF,rows f.roads,int f.bV,int f.jj,int f.oZ,int f.eQ,.lit (.int .i32 0),.lit (.int .u32 0),.map mb] [6,7] o
def cZ(a b c:Int):Bool:=decide (b<=a) && decide (a<=c)
def pP:Option Int->Int->Bool
 |some q,h=>decide (h<=q)
 |none,_=>false
def sI:Option Int->List Int->Int
 |_,[]=>0
 |p,h::l=>if cZ h 0 4=false then 3 else if pP p h=true then 5 else sI (some h) l
def fJ(places:Int)(e:rv):Int:=
 if cZ e.hour 0 72=false then 1 else if cZ e.place 0 (places-1)=false then 3 else if cZ e.lr 0 5=false then 1 else if sI none e.marks≠0 then sI none e.marks
 else if cZ e.bS 0 30=false then 1 else if cZ e.pr 0 2=false then 8 else 0
def eR(f:rv->Int):List rv->Int
 |[]=>0
 |d::l=>if f d=0 then eR f l else f d
theorem No(l:List Int)(i:Nat)(h:i<l.length)(p:Option Int):sI p (l.drop i)=if cZ l[i] 0 4=false then 3 else if pP p l[i]=true then 5 else sI (some l[i]) (l.drop (i+1)):=by rw[List.drop_eq_getElem_cons h,sI]
theorem B2(f:rv->Int)(l:List rv)(i:Nat)(h:i<l.length):eR f (l.drop i)=if f l[i]=0 then eR f (l.drop (i+1))else f l[i]:=by rw[List.drop_eq_getElem_cons h,eR]
theorem z5{α:Type}{l a:List α}{k:Nat}(g:k<l.length)(g':k<a.length)(h:l.take k=a.take k)(e:l[k]=a[k]):l.take (k+1)=a.take (k+1):=by rw[List.take_succ_eq_append_getElem g,List.take_succ_eq_append_getElem g',h,e]
def rd(r:List (List Int))(i j:Nat):Int:=(r.getD i []).getD j 0
def eI(r:List (List Int))(i j:Nat):Bool:=rd r i i !=0||rd r i j !=rd r j i||(List.range r.length).any λk=>decide (rd r i j>rd r i k+rd r k j)
def nu(n:Nat)(l:List Int):Int:=if l.length≠n then 9 else if l.all (cZ · 0 9)then 0 else 1
def iN(n:Nat):List (List Int)->Int
 |[]=>0
 |l::r=>if nu n l=0 then iN n r else nu n l
def kX(r:List (List Int)):Int:=
 if r.length<1 then 7 else if 3<r.length then 6 else if iN r.length r≠0 then iN r.length r
 else if(List.range r.length).any (λi=>(List.range r.length).any λj=>eI r i j)then 9 else 0
def check(f:Fr):Int:=
 if kX f.roads≠0 then kX f.roads else if(cZ f.bV 0 3 && cZ f.jj 0 3)=false then 1 else if f.jj<f.bV then 5
 else if(cZ f.oZ 1 6 && cZ f.eQ 1 6)=false then 1 else if(6:Int)<f.aF.length then 6 else eR (fJ f.roads.length) f.aF
theorem DQ(n:Nat)(l:List (List Int))(i:Nat)(h:i<l.length):iN n (l.drop i)=if nu n l[i]=0 then iN n (l.drop (i+1))else nu n l[i]:=by rw[List.drop_eq_getElem_cons h,iN]
structure Fr.Fits(f:Fr):Prop where
 aF:f.aF.length<1152921504606846976
 roads:f.roads.length<1152921504606846976
 row:∀r∈f.roads,r.length<1152921504606846976
 marks:∀e∈f.aF,e.marks.length<1152921504606846976
def kY(i:Int):List Int->Int->Int
 |[],_=>-1
 |x::l,v=>if x=v then i else kY (i+1) l v
def DR(l:List Int)(v:Int):Int:=kY 0 l v
theorem GH(l:List Int)(v:Int)(i:Nat)(h:i<l.length)(c:Int):kY c (l.drop i) v=if l[i]=v then c else kY (c+1) (l.drop (i+1)) v:=by rw[List.drop_eq_getElem_cons h,kY]
theorem wy(v:Int):∀(l:List Int) (i:Int),0<=i->(0<=kY i l v↔v∈l)
 |[],i,h=>by simp[kY]
 | x::l,i,h=>by
   unfold kY;split
   . simp_all
   . next e=>rw[wy v l (i+1) (by omega)];grind
theorem JV(l:List Int)(v:Int):0<=DR l v↔v∈l:=wy v l 0 (Int.le_refl _)
def jG(f:Fr)(e:rv):List Int:=if e.pr≠0 then(List.range (f.jj-f.bV+1).toNat).map λi:Nat=>e.bS-f.jj+(i:Int)else[]
def c5(f:Fr)(e:rv):List Int:=if e.pr≠1/\e.bS∉jG f e then jG f e++[e.bS]else jG f e
def gM(first:List Int)(others:List (List Int)):List Int:=first.filter λx=>others.all λl=>decide (x∈l)
def cx(f:Fr)(i:Int):rv:=f.aF.getD i.toNat ⟨0,0,0,[],0,0⟩
def jl(f:Fr)(l:List Int):List Int:=match l.map λi=>c5 f (cx f i)with|[]=>[]|a::r=>gM a r
def gS(f:Fr):Option Int->List Int->Int
 |_,[]=>0
 |p,n::l=>if cZ n 0 (f.aF.length-1)=false then 3 else if pP p n=true then 5 else gS f (some n) l
def sJ(f:Fr)(l:List Int):Int:=if l.length=0 then 7 else gS f none l
theorem DT(f:Fr)(l:List Int)(i:Nat)(h:i<l.length)(p:Option Int):gS f p (l.drop i)=if cZ l[i] 0 (f.aF.length-1)=false then 3 else if pP p l[i]=true then 5 else gS f (some l[i]) (l.drop (i+1)):=by rw[List.drop_eq_getElem_cons h,gS]
abbrev Ur(n:Int):AV:=if n=0 then .lit .nilIface else .kD 273 (.agg [int n])
def SM(a b:Int):Int:=IntKind.u8.wrap (((BitVec.ofInt 8 a|||BitVec.ofInt 8 b).toNat:Nat):Int)
def B3(a b:Int):Int:=IntKind.u8.wrap (((BitVec.ofInt 8 a &&& BitVec.ofInt 8 b).toNat:Nat):Int)
def wA(a b:Int):Int:=IntKind.u8.wrap (((BitVec.ofInt 8 a ^^^ BitVec.ofInt 8 b).toNat:Nat):Int)
def Ow(a b:Int):Int:=IntKind.u8.wrap (a-b)
theorem ry(a b:Int):uX .or .u8 a b=some (.int .u8 (SM a b)):=rfl
theorem sK(a b:Int):uX .and .u8 a b=some (.int .u8 (B3 a b)):=rfl
theorem GJ(a b:Int):uX .xor .u8 a b=some (.int .u8 (wA a b)):=rfl
theorem GK(a b:Int):uX .sub .u8 a b=some (.int .u8 (Ow a b)):=rfl
def b0(m n:Int):Int:=SM m (IntKind.u8.wrap (2 ^ min n.toNat IntKind.u8.bits))
def eL(m n:Int):Bool:=B3 (m.fdiv (2 ^ min n.toNat IntKind.u8.bits)) 1==1
def aC(m:Int):List Int:=((List.range 6).map λn:Nat=>(n:Int)).filter λn=>eL m n
def aW(l:List Int):Int:=l.foldl b0 0
end Go.Proofs.YtkcceaplmgdnfaaGreatDoor
namespace Go.Proofs.YtkcceaplmgdnfaaGreatDoor
open Go.Proofs.Tryz (prog)
open Go.bu Go.Conc
set_option maxHeartbeats 1000000
variable{m:Mo}{σ:aa}{KF:cJ->aa->Prop}
theorem dD{a c d:Int}(h:KF (.val (bool (cZ a c d))) σ):aB prog m 155 [int a,int c,int d] σ KF:=by
 unfold cZ at h;refine fs [] 3 Tryz.func155 rfl rfl (by rfl) (by kernel_rfl) ?_;simp[Tryz.f155];refine qJ.intro (λb=>?_) (λb=>?_)<;>simp[b]
 . exact .done (by simpa[b]using h)
 . exact .done (by simpa[b]using h)
theorem B4{l:List Int}{v:Int}(n:l.length<1152921504606846976)(h:KF (.val (int (DR l v))) σ):aB prog m 63 [ints l,int v] σ KF:=by
 refine fs [] 2 Tryz.func63 rfl rfl (by rfl) (by kernel_rfl) ?_;simp[Tryz.f63];refine af.loop l.length (λk s=>∃env,s=⟨env,σ,[],.no⟩/\env 0=ints l/\env 1=int v/\env 7=int l.length/\env 8=int k/\kY 0 l v=kY k (l.drop k) v) ⟨_,rfl,by simp⟩ ?_;rintro o k _ p ⟨env,rfl,f,g,i,d,a⟩ j;refine rn ?_;simp[i,d];refine aG.intro (λc=>?_) (λc=>?_)<;>(try simp[-Int.not_lt,-Int.not_le,-Nat.not_lt,-Nat.not_le]at c)<;>(try simp[f,g,d,c])
 . rw[GH l v k c]at a
   refine aG.intro (λb=>?_) (λb=>?_)<;>(try simp[-Int.not_lt,-Int.not_le,-Nat.not_lt,-Nat.not_le]at b)<;>(try simp[b]at a)<;>(try simp[d,b])<;>(try exact .done a)
   . subst b
     unfold DR at h;rw[a]at h;exact .done h
   . exact⟨by omega,j _ c ⟨_,rfl,by simp[f],by simp[g],by simp[i],by simp,by rw[a,if_neg (λe=>b e.symm)];simp⟩⟩
 . have:k=l.length:=by omega
   subst this;unfold DR at h;rw[a]at h;simp[kY]at h;exact .done h
theorem ik{l:List Int}{v:Int}(a:l.length<1152921504606846976)(h:KF (.val (bool (decide (v∈l)))) σ):aB prog m 66 [ints l,int v] σ KF:=by
 refine fs [] 2 Tryz.func66 rfl rfl (by rfl) (by kernel_rfl) ?_;simp[Tryz.f66];refine cf Tryz.func63 rfl (B4 a ?_);refine rn ?_;simp;rw[<-decide_eq_decide.2 (JV l v)]at h;exact .done h
theorem cL{a b:List Int}(r:a.length<1152921504606846976)(hb:b.length<1152921504606846976)(h:KF (.val (bool (decide (a=b)))) σ):aB prog m 15 [ints a,ints b] σ KF:=by
 refine fs Uj 2 Tryz.func15 rfl rfl (by rfl) (by kernel_rfl) ?_
 simp[Tryz.f15];refine af.loop a.length (λk s=>∃env,s=⟨env,σ,[],.no⟩/\env 0=ints a/\env 1=ints b/\env 5=int k/\k<=b.length/\a.take k=b.take k) ⟨_,rfl,by simp⟩ ?_
 rintro t k _ u ⟨env,rfl,f,j,g,o,l⟩ p
 refine rn ?_;simp[f,g];refine qJ.intro (λc=>?_) (λc=>?_)<;>(try simp[-Int.not_lt,-Int.not_le,-Nat.not_lt,-Nat.not_le]at c)<;>(try simp[f,j,g,c])
 . refine aG.intro (λi=>?_) (λi=>?_)<;>(try simp[-Int.not_lt,-Int.not_le,-Nat.not_lt,-Nat.not_le]at i)<;>(try simp[f,j,g,i,c])
   . refine rn ?_
     simp;refine aG.intro (λd=>?_) (λd=>?_)<;>(try simp[-Int.not_lt,-Int.not_le,-Nat.not_lt,-Nat.not_le]at d)<;>(try simp[g,d])
     . have:a≠b:=λe=>by subst e;exact d rfl
       simp[this]at h;exact .done h
     . refine⟨by omega,p _ c ⟨_,rfl,by simp[f],by simp[j],by simp,by omega,z5 c i l d⟩⟩
   . have:a≠b:=λe=>by subst e;omega
     have n:((a.length:Int)==b.length)=false:=by rw[beq_eq_false_iff_ne];omega
     rw[n];exact .done (by simpa[this]using h)
 . have:k=a.length:=by omega
   subst this;rw[List.take_length]at l
   by_cases e:a.length=b.length
   . have:a=b:=by rw[l,e,List.take_length]
     exact .done (by simpa[this,e]using h)
   . have:a≠b:=λq=>e (by rw[q])
     have n:((a.length:Int)==b.length)=false:=by rw[beq_eq_false_iff_ne];omega
     rw[n];exact .done (by simpa[this]using h)
theorem B5{n:Int}(h:KF (.val (bool false)) σ):aB prog m 197 [int n] σ KF:=by
 refine fs [] 1 Tryz.func197 rfl rfl (by rfl) (by kernel_rfl) ?_;simp[Tryz.f197];exact .done h
def DU(x y:Int):Int:=if x<y then -1 else if y<x then 1 else 0
theorem DV{x y:Int}(h:KF (.val (int (DU x y))) σ):aB prog m 176 [int x,int y] σ KF:=by
 unfold DU at h;refine fs [] 2 Tryz.func176 rfl rfl (by rfl) (by kernel_rfl) ?_;simp[Tryz.f176];refine cf Tryz.func197 rfl (B5 ?_);refine rn ?_;simp;refine cf Tryz.func197 rfl (B5 ?_);refine rn ?_;simp;refine aG.intro (λa=>?_) (λa=>?_)<;>(try simp[-Int.not_lt,-Int.not_le,-Nat.not_lt,-Nat.not_le]at a)<;>(try simp[a]at h)<;>(try simp[a])<;>(try exact .done h);refine aG.intro (λb=>?_) (λb=>?_)<;>(try simp[-Int.not_lt,-Int.not_le,-Nat.not_lt,-Nat.not_le]at b)<;>(try simp[b]at h)<;>(try simp[b])<;>(try exact .done h)
structure Way where
 a:Int
 b:Int
 bI:Int
 bV:Int
 jj:Int
 deriving DecidableEq
structure AB where
 lost:rv
 town:Int
 hour:Int
 deriving DecidableEq
structure bH where
 fair:Fr
 aS:Int
 ways:List Way
 aD:List AB
 deriving DecidableEq
abbrev jQ(x:Way):AV:=.agg [int x.a,int x.b,int x.bI,int x.bV,int x.jj]
abbrev bM(c:AB):AV:=.agg [int c.lost.hour,int c.lost.place,int c.lost.lr,ints c.lost.marks,int c.lost.bS,int c.lost.pr,int c.town,int c.hour]
abbrev nv(l:List Way):AV:=.sl 5 (l.map jQ) .any
abbrev fh(l:List AB):AV:=.sl 8 (l.map bM) .any
abbrev pv(w:bH):List AV:=[iY w.fair.aF,rows w.fair.roads,int w.fair.bV,int w.fair.jj,int w.fair.oZ,int w.fair.eQ,int w.aS,nv w.ways,fh w.aD]
abbrev aT(w:bH):AV:=.agg (pv w)
abbrev Np(b mb:Nat)(w:bH)(a c d:AV)(hole:List Nat)(o:Nat):AV:=.kp b [iY w.fair.aF,rows w.fair.roads,int w.fair.bV,int w.fair.jj,int w.fair.oZ,int w.fair.eQ,int w.aS,nv w.ways,fh w.aD,.lit (.int .i32 0),.lit (.int .u32 0),a,c,d,.map mb] hole o
def pQ(aS:Int)(x:Way):Prop:=(0<=x.a/\x.a<aS)/\(0<=x.b/\x.b<aS)/\(1<=x.bI/\x.bI<=12)/\(0<=x.bV/\x.bV<=72)/\0<=x.jj/\x.jj<=72
def om(h:Int)(x:Way):Int:=if h<x.bV then x.bV else h
def JW(h a b:Int)(x:Way)(c:Int):Int:=if(x.a≠a\/x.b≠b)/\(x.a≠b\/x.b≠a)then c else if om h x<=x.jj then(if om h x+x.bI<c then om h x+x.bI else c)else c
def jH(l:List Way)(h a b:Int):Int:=l.foldl (λc x=>JW h a b x c) 1048576
theorem Pv{h a b c:Int}{x:Way}(d:1<=x.bI/\x.bI<=12)(e:0<=h)(hb:0<=c/\c<=1048576):0<=JW h a b x c/\JW h a b x c<=1048576:=by
 have:0<=om h x:=by unfold om;split<;>omega
 unfold JW;split
 . exact hb
 split
 . split<;>omega
 . exact hb
theorem rz{l:List Way}{h a b:Int}(e:∀x∈l,1<=x.bI/\x.bI<=12)(f:0<=h):0<=jH l h a b/\jH l h a b<=1048576:=by
 have key:∀(l:List Way) (c:Int),(∀x∈l,1<=x.bI/\x.bI<=12)->(0<=c/\c<=1048576)->0<=l.foldl (λc x=>JW h a b x c) c/\l.foldl (λc x=>JW h a b x c) c<=1048576:=λl=>by
  induction l with
  |nil=>exact λ_ _ h=>h
  |cons x l g=>exact λc d i=>g _ (λy j=>d y (by simp[j])) (Pv (d x (by simp)) f i)
 exact key l _ e ⟨by omega,by omega⟩
theorem dz{σ:aa}{d:Nat}{x:fy}(h:σ d=none):(σ.set d x).del d=σ:=by
 funext c;by_cases e:c=d
 . subst e;simp[aa.del,h]
 . simp[aa.set,aa.del,e]
theorem B6{fb mb:Nat}{w:bH}{E F G:AV}{hole:List Nat}{h a b:Int}(H:∀i∈hole,9<=i)(S:w.ways.length<1152921504606846976)(z:∀x∈w.ways,pQ w.aS x)(I:0<=h/\h<=1048576)(J:KF (.val (int (jH w.ways h a b))) σ):aB prog m 77 [Np fb mb w E F G hole 0,int h,int a,int b] σ KF:=by
 have K:7∉hole:=λq=>by have:=H 7 q;omega
 refine fs [] 4 Tryz.func77 rfl rfl (by rfl) (by kernel_rfl) ?_
 simp[Tryz.f77,K];refine rn ?_;simp;refine af.loop w.ways.length (λk s=>∃env,s=⟨env,σ,[],.no⟩/\env 1=int h/\env 2=int a/\env 3=int b/\env 9=int (jH (w.ways.take k) h a b)/\env 17=nv w.ways/\env 18=int w.ways.length/\env 19=int k) ⟨_,rfl,by simp[jH]⟩ ?_
 rintro T k _ U ⟨env,rfl,o,r,t,u,c,f,g⟩ v
 refine af.runN lay [] 17 ?_;simp[f,g];refine aG.intro (λj=>?_) (λj=>?_)<;>(try simp[-Int.not_lt,-Int.not_le,-Nat.not_lt,-Nat.not_le]at j)<;>(try simp[u,c,g,j])
 . refine bq.intro λd hd=>?_
   simp
   change af _ _ _ _ _ _ _ _ _
   refine af.aV 11 (b:=d) (jQ w.ways[k]) (aa.ao _ _ _) (by simp) rfl ?_
   rw[dz hd];obtain⟨⟨V,W⟩,⟨X,Y⟩,⟨Z,x6⟩,⟨x7,x8⟩,x9,L⟩:=z _ (List.getElem_mem j);have M:=rz (l:=w.ways.take k) (h:=h) (a:=a) (b:=b) (λx N=>(z x (List.mem_of_mem_take N)).2.2.1) I.1
   have y:jH (w.ways.take (k+1)) h a b=JW h a b w.ways[k] (jH (w.ways.take k) h a b):=by unfold jH;rw[List.take_succ_eq_append_getElem j,List.foldl_append];rfl
   obtain⟨O,A⟩:∃p,(w.ways[k].a !=a)=p:=⟨_,rfl⟩;obtain⟨P,B⟩:∃p,(w.ways[k].b !=b)=p:=⟨_,rfl⟩;obtain⟨Q,C⟩:∃p,(w.ways[k].a !=b)=p:=⟨_,rfl⟩;obtain⟨R,D⟩:∃p,(w.ways[k].b !=a)=p:=⟨_,rfl⟩;cases O<;>cases P<;>cases Q<;>cases R
   all_goals
    refine rn ?_;simp[o,r,t,g,A,B,C,D]
   all_goals simp at A B C D
   all_goals try refine⟨by omega,v _ j ⟨_,rfl,?_⟩⟩
   all_goals try
    simp[o,r,t,u,c,f];rw[y,JW,if_pos (by omega)]
   all_goals
    rw[show (if h<w.ways[k].bV then w.ways[k].bV else h)=om h w.ways[k]from rfl]
    have f0:0<=om h w.ways[k]/\om h w.ways[k]<=1048576:=by unfold om;split<;>omega
    refine aG.intro (λn=>?_) (λn=>?_)<;>(try simp[-Int.not_lt,-Int.not_le,-Nat.not_lt,-Nat.not_le]at n)<;>(try simp[u,g,n])
    . have f1:-9223372036854775808<=om h w.ways[k]+w.ways[k].bI/\om h w.ways[k]+w.ways[k].bI<=9223372036854775807:=by omega
      simp[f1.1,f1.2];refine⟨by omega,v _ j ⟨_,rfl,?_⟩⟩
      simp[o,r,t,c,f];rw[y];exact (show JW h a b w.ways[k] (jH (w.ways.take k) h a b)=_ by rw[JW,if_neg (by omega),if_pos n]).symm
    . refine⟨by omega,v _ j ⟨_,rfl,?_⟩⟩
      simp[o,r,t,u,c,f];rw[y,JW,if_neg (by omega)]
      simp[n]
 . have e:k=w.ways.length:=by omega
   subst e;rw[List.take_length];exact .done J
def kZ(l:List Way)(a b:Nat)(t:List Int):List Int:=if t.getD a 0<1048576 then t.set b (if jH l (t.getD a 0) a b<t.getD b 0 then jH l (t.getD a 0) a b else t.getD b 0)else t
def rA(l:List Way)(n a:Nat)(t:List Int):List Int:=(List.range n).foldl (λt b=>kZ l a b t) t
def pass(l:List Way)(n:Nat)(t:List Int):List Int:=(List.range n).foldl (λt a=>rA l n a t) t
def fV(l:List Way)(n:Nat):Nat->List Int->List Int
 |0,t=>t
 |k+1,t=>if pass l n t=t then t else fV l n k (pass l n t)
def oo(t:List Int):Nat:=(t.foldl (·+·) 0).toNat
def begun(town hour:Int):List Int:=[1048576,1048576,1048576,1048576].set town.toNat hour
def o0(l:List Way)(n:Nat)(town hour:Int):List Int:=fV l n (oo (begun town hour)+1) (begun town hour)
theorem lb{α:Type}(P:List Int->Prop)(f:List Int->α->List Int)(a:∀t x,P t->P (f t x)):∀(l:List α) (t:List Int),P t->P (l.foldl f t)
 |[],_,h=>h
 |x::l,t,h=>lb P f a l _ (a t x h)
def xl(t:List Int):Prop:=t.length=4/\∀i,0<=t.getD i 0/\t.getD i 0<=1048576
theorem B7{t:List Int}{b i:Nat}{v:Int}:(t.set b v).getD i 0=if i=b/\b<t.length then v else t.getD i 0:=by grind
theorem xl.to{l:List Way}(c:∀x∈l,1<=x.bI/\x.bI<=12){a b:Nat}{t:List Int}(h:xl t):xl (kZ l a b t):=by
 unfold kZ;split
 . refine⟨by rw[List.length_set];exact h.1,λi=>?_⟩
   rw[B7];split
   . have:=rz (h:=t.getD a 0) (a:=a) (b:=b) c (h.2 a).1
     split
     . exact this
     . exact h.2 b
   . exact h.2 i
 . exact h
theorem xl.from{l:List Way}(b:∀x∈l,1<=x.bI/\x.bI<=12){n a:Nat}{t:List Int}(h:xl t):xl (rA l n a t):=lb xl _ (λ_ _ h=>h.to b) _ _ h
theorem xl.pass{l:List Way}(a:∀x∈l,1<=x.bI/\x.bI<=12){n:Nat}{t:List Int}(h:xl t):xl (pass l n t):=lb xl _ (λ_ _ h=>h.from a) _ _ h
def mc(a t:List Int):Prop:=a.length=t.length/\∀i,a.getD i 0<=t.getD i 0
theorem mc.trans{a b c:List Int}(h:mc a b)(d:mc b c):mc a c:=⟨h.1.trans d.1,λi=>Int.le_trans (h.2 i) (d.2 i)⟩
theorem GL(l:List Way)(a b:Nat)(t:List Int):mc (kZ l a b t) t:=by
 unfold kZ;split
 . refine⟨List.length_set,λi=>?_⟩
   grind
 . exact⟨rfl,λi=>Int.le_refl _⟩
theorem B8(l:List Way)(n a:Nat)(t:List Int):mc (rA l n a t) t:=lb (mc · t) _ (λu b h=>(GL l a b u).trans h) _ _ ⟨rfl,λi=>Int.le_refl _⟩
theorem oq(l:List Way)(n:Nat)(t:List Int):mc (pass l n t) t:=lb (mc · t) _ (λu a h=>(B8 l n a u).trans h) _ _ ⟨rfl,λi=>Int.le_refl _⟩
theorem z6{a t:List Int}(h:mc a t)(d:xl a)(c:xl t)(e:a≠t):oo a<oo t:=by
 obtain⟨f,b⟩:=d;obtain⟨g,q⟩:=c
 match a,t,f,g with
 | [r,s,u,v],[w,x,y,z],_,_=>
   have i:=h.2 0;have j:=h.2 1;have k:=h.2 2;have l:=h.2 3;have m:=b 0;have n:=b 1;have o:=b 2;have p:=b 3;simp at i j k l m n o p;unfold oo
   grind
theorem ny{l:List Way}(a:∀x∈l,1<=x.bI/\x.bI<=12){n:Nat}:∀(k:Nat) (t:List Int),xl t->oo t<k->fV l n k t=fV l n (oo t+1) t
 |0,t,_,h=>by omega
 | k+1,t,b,h=>by
   show(if pass l n t=t then t else fV l n k (pass l n t))=if pass l n t=t then t else fV l n (oo t) (pass l n t);split
   . rfl
   . next c=>have d:=z6 (oq l n t) (b.pass a) b c;rw[ny a k _ (b.pass a) (by omega),ny a (oo t) _ (b.pass a) d]
 termination_by k=>k
theorem B9{l:List Way}(a:∀x∈l,1<=x.bI/\x.bI<=12){n:Nat}{t:List Int}(b:xl t):fV l n (oo t+1) t=if pass l n t=t then t else fV l n (oo (pass l n t)+1) (pass l n t):=by
 show(if pass l n t=t then t else fV l n (oo t) (pass l n t))=_;split
 . rfl
 . next c=>exact ny a _ _ (b.pass a) (z6 (oq l n t) (b.pass a) b c)
theorem yD{town hour:Int}(a:0<=hour/\hour<=72):xl (begun town hour):=by
 refine⟨by simp[begun],λi=>?_⟩;unfold begun;rw[B7];split
 . omega
 . match i with
   |0=>simp
   |1=>simp
   |2=>simp
   |3=>simp
   |i+4=>simp
theorem tK{l:List Way}(a:∀x∈l,1<=x.bI/\x.bI<=12){n:Nat}:∀(k:Nat) (t:List Int),xl t->xl (fV l n k t)
 |0,_,h=>h
 | k+1,t,h=>by
   unfold fV;split
   . exact h
   . exact tK a k _ (h.pass a)
theorem z7{l:List Way}(e:∀x∈l,1<=x.bI/\x.bI<=12){n:Nat}{town hour:Int}(f:0<=hour/\hour<=72):∃a b c d,o0 l n town hour=[a,b,c,d]:=by
 have:=(tK e (n:=n) (oo (begun town hour)+1) _ (yD (town:=town) f)).1;unfold o0
 match fV l n (oo (begun town hour)+1) (begun town hour),this with
 |[a,b,c,d],_=>simp_all
theorem SN:Ol prog 167 3:=⟨by kernel_rfl,by kernel_rfl,by kernel_rfl⟩
theorem DW{fb mb:Nat}{w:bH}{U V W:AV}{hole:List Nat}{town hour:Int}(hh:∀i∈hole,9<=i)(hl:w.ways.length<1152921504606846976)(hw:∀x∈w.ways,pQ w.aS x)(hn:1<=w.aS/\w.aS<=4)(ht:0<=town/\town<w.aS)(h0:0<=hour/\hour<=72)
 (hK:∀σ',σ.Le σ'->KF (.val (.agg ((o0 w.ways w.aS.toNat town hour).map int))) σ'):aB prog m 92 [Np fb mb w U V W hole 0,int town,int hour] σ KF:=by
 have n6:6∉hole:=λq=>by grind
 refine aB.start lay [6,7,9] Uq 3 Tryz.func92 rfl rfl (by rfl) (by kernel_rfl) ?_
 simp[Tryz.f92];refine bq.intro λr hr=>?_
 simp;refine bq.intro λd hd=>?_
 obtain⟨n1,n2,hd⟩:=aa.aH hd;simp;have b4:town<4:=by omega
 have b5:town.toNat<4:=by omega
 have b6:town<=3:=by omega
 refine af.sF ?_;refine af.run lay [6,7,9] ?_;simp;refine af.again (by kernel_rfl) ?_
 refine af.run lay [6,7,9] ?_;simp;refine af.again (by kernel_rfl) ?_
 refine af.run lay [6,7,9] ?_;simp;refine af.again (by kernel_rfl) ?_
 refine af.run lay [6,7,9] ?_;simp;refine af.again (by kernel_rfl) ?_
 refine af.runN lay [6,7,9] 16 ?_;simp[ht.1,b4,b5,b6]
 change af _ _ _ _ _ _ _ _ _
 obtain⟨X,J⟩:∃T,T=begun town hour:=⟨_,rfl⟩;have hc:([int 1048576,int 1048576,int 1048576,int 1048576]:List AV).set town.toNat (int hour)=X.map int:=by rw[J];simp[begun,List.map_set]
 rw[hc];have a7:xl X:=J ▸ yD h0;have N:∀x∈w.ways,1<=x.bI/\x.bI<=12:=λx hx=>(hw x hx).2.2.1
 refine af.lower (λa s=>∃env t,s=⟨env,(σ.set r (.cells [int 0,int 0,int 0,int 0])).set d (.cells (t.map int)),[],.no⟩/\env 0=Np fb mb w U V W hole 0/\env 6=.ref r 0/\env 7=.ref d 0/\xl t/\oo t=a/\fV w.ways w.aS.toNat (oo t+1) t=o0 w.ways w.aS.toNat town hour) (oo X) ⟨_,X,rfl,by simp,by simp,by simp,a7,rfl,by rw[J];rfl⟩ ?_
 rintro a _ ⟨env,t,rfl,E,F,g,Y,rfl,I⟩ ih
 obtain⟨h,l,p,y,rfl⟩:∃h l p y,t=[h,l,p,y]:=by
  match t,Y.1 with
  |[h,l,p,y],_=>grind
 refine af.runN lay [6,7,9] 5 ?_;simp[g];refine bq.intro λo Z=>?_
 obtain⟨m1,m2,Z⟩:=aa.aH Z;obtain⟨m3,m4,Z⟩:=aa.aH Z;simp
 change af _ _ _ _ _ _ _ _ _
 refine af.aV 9 (b:=o) (.agg [int h,int l,int p,int y]) (aa.ao _ _ _) (by simp) rfl ?_
 rw[dz (by omega)]
 refine af.run lay [6,7,9] ?_;simp[E,n6];refine af.loop w.aS.toNat (λk s=>∃env u,s=⟨env,(σ.set r (.cells [int 0,int 0,int 0,int 0])).set d (.cells (u.map int)),[],.no⟩/\env 0=Np fb mb w U V W hole 0/\env 6=.ref r 0/\env 7=.ref d 0/\env 9=.cp (.agg [int h,int l,int p,int y]) 0/\env 26=int w.aS/\env 27=int k/\xl u/\u=(List.range k).foldl (λt a=>rA w.ways w.aS.toNat a t) [h,l,p,y]) ⟨_,[h,l,p,y],rfl,by simp[E],by simp[F],by simp[g],by simp,by simp,by simp,Y,rfl⟩ ?_
 rintro cc k _ hk ⟨env,u,rfl,E,F,g,M,z,f,hU,hu⟩ a8
 refine af.runN lay [6,7] 17 ?_;simp[z,f];refine aG.intro (λg1=>?_) (λg1=>?_)<;>(try simp[-Int.not_lt,-Int.not_le,-Nat.not_lt,-Nat.not_le]at g1)<;>(try simp[E,g,M,f,g1])
 . change af _ _ _ _ _ _ _ _ _
   refine af.run lay [6,7,9] ?_;simp[n6];refine af.loop w.aS.toNat (λj s=>∃env v,s=⟨env,(σ.set r (.cells [int 0,int 0,int 0,int 0])).set d (.cells (v.map int)),[],.no⟩/\env 0=Np fb mb w U V W hole 0/\env 6=.ref r 0/\env 7=.ref d 0/\env 9=.cp (.agg [int h,int l,int p,int y]) 0/\env 10=int k/\env 26=int w.aS/\env 27=int k/\env 34=int w.aS/\env 35=int j/\xl v/\v=(List.range j).foldl (λt b=>kZ w.ways k b t) u) ⟨_,u,rfl,by simp[E],by simp[F],by simp[g],by simp[M],by simp,by simp[z],by simp[f],by simp,by simp,hU,rfl⟩ ?_
   rintro cc j _ hj ⟨env,v,rfl,E,F,g,M,xh,z,f,K,G,H,hv⟩ O
   refine af.runN lay [6,7] 17 ?_;simp[K,G];refine aG.intro (λg2=>?_) (λg2=>?_)<;>(try simp[-Int.not_lt,-Int.not_le,-Nat.not_lt,-Nat.not_le]at g2)<;>(try simp[xh,f,G,g2])
   . have k4:k<4:=by omega
     have j4:j<4:=by omega
     have k5:k<v.length:=by rw[H.1];exact k4
     have j5:j<v.length:=by rw[H.1];exact j4
     have L:v.getD k 0=v[k]:=by simp[k5]
     have a9:v.getD j 0=v[j]:=by simp[j5]
     have i4:(k:Int)<4:=by omega
     have l4:(j:Int)<4:=by omega
     have j3:j<=3:=by omega
     refine af.runN lay [6,7] 5 ?_;simp[g,H.1,k4,i4];refine aG.intro (λg3=>?_) (λg3=>?_)<;>(try simp[-Int.not_lt,-Int.not_le,-Nat.not_lt,-Nat.not_le]at g3)<;>(try simp[g3])
     . change af _ _ _ _ _ _ _ _ _
       refine af.run lay [6,7] ?_;simp[E,g,xh,H.1,k4,j4,i4,l4];have P:=H.2 k;rw[L]at P;have Q:(v.map int).set j (int (if jH w.ways v[k] k j<v[j]then jH w.ways v[k] k j else v[j]))=(kZ w.ways k j v).map int:=by rw[kZ,L,a9,if_pos g3,List.map_set]
       refine⟨?_,?_,?_⟩
       all_goals
        refine cf Tryz.func77 rfl (B6 hh hl hw P ?_);refine aI.go lay [6,7] ?_;simp[H.1,j4,j3];rw[Q];refine af.run lay [6,7] ?_;simp[G];refine⟨by omega,O _ (by omega) ⟨_,kZ w.ways k j v,rfl,?_,?_,?_,?_,?_,?_,?_,?_,?_,H.to N,?_⟩⟩
        rotate_right
        . rw[List.range_succ,List.foldl_append,<-hv];rfl
        all_goals simp[E,F,g,M,xh,z,f,K]
     . change af _ _ _ _ _ _ _ _ _
       refine af.run lay [6,7] ?_;simp[G];refine⟨by omega,O _ (by omega) ⟨_,v,rfl,?_,?_,?_,?_,?_,?_,?_,?_,?_,H,?_⟩⟩
       rotate_right
       . rw[List.range_succ,List.foldl_append,<-hv]
         show v=kZ w.ways k j v;rw[kZ,L,if_neg (by omega)]
       all_goals simp[E,F,g,M,xh,z,f,K]
   . have ej:j=w.aS.toNat:=by omega
     subst ej;refine⟨by omega,a8 _ (by omega) ⟨_,v,rfl,?_,?_,?_,?_,?_,?_,H,?_⟩⟩
     rotate_right
     . rw[List.range_succ,List.foldl_append,<-hu]
       exact hv
     all_goals simp[E,F,g,M,z]
 . have ek:k=w.aS.toNat:=by omega
   subst ek
   obtain⟨A,B,C,D,rfl⟩:∃A B C D,u=[A,B,C,D]:=by
    match u,hU.1 with
    |[A,B,C,D],_=>exact⟨A,B,C,D,rfl⟩
   have R:=B9 N (n:=w.aS.toNat) Y;rw[show pass w.ways w.aS.toNat [h,l,p,y]=[A,B,C,D]from hu.symm]at R
   refine⟨by simp,?_⟩
   refine DI lay SN qp rfl rfl (a:=A) (b:=B) (c:=C) (d:=D) (a':=h) (b':=l) (c':=p) (d':=y) rfl (by simp) (by simp) ?_
   cases e:(A==h && (B==l && (C==p && D==y)))
   . have S:¬([A,B,C,D]=[h,l,p,y]):=λq=>by simp at q;simp[q]at e
     rw[if_neg S,I]at R;refine af.runN lay [6,7] 2 ?_;simp
     change af _ _ _ _ _ _ _ _ _
     refine af.goto rfl (by kernel_rfl) ?_
     refine af.runN lay [6,7,9] 2 ?_;simp;refine ih (oo [A,B,C,D]) _ (z6 (hu.symm ▸ oq w.ways w.aS.toNat [h,l,p,y]) hU Y S) ⟨_,[A,B,C,D],rfl,?_,?_,?_,hU,rfl,R.symm⟩<;>simp[E,F,g]
   . simp at e
     obtain⟨rfl,rfl,rfl,rfl⟩:=e;rw[if_pos rfl,I]at R;refine af.run lay [6,7,9] ?_;simp[F,g,n2,aa.ak];refine .done ?_;have:=hK _ (aa.eo (b:=r) (x:=.cells [int A,int B,int C,int D]) (aa.eo (b:=d) (x:=.cells [int A,int B,int C,int D]) (aa.eo (b:=r) (x:=.cells [int 0,int 0,int 0,int 0]) (aa.le_refl σ) hr) hd) hr);rw[R]at this;exact this
theorem xK{e:rv}{places:Int}(w:0<=places/\places<1152921504606846976)(x:e.marks.length<1152921504606846976)(h:KF (.val (int (fJ places e))) σ):aB prog m 156 [dw e,int places] σ KF:=by
 unfold fJ at h;refine fs [] 2 Tryz.func156 rfl rfl (by rfl) (by kernel_rfl) ?_;simp[Tryz.f156];refine cf Tryz.func155 rfl (dD ?_);refine rn ?_;simp;refine aG.intro (λl=>?_) (λl=>?_)<;>(try simp[-Int.not_lt,-Int.not_le,-Nat.not_lt,-Nat.not_le]at l)<;>(try simp[l]at h)<;>(try simp[l])<;>(try exact .done h);refine⟨by omega,?_⟩;refine cf Tryz.func155 rfl (dD ?_);refine rn ?_;simp;refine aG.intro (λn=>?_) (λn=>?_)<;>(try simp[-Int.not_lt,-Int.not_le,-Nat.not_lt,-Nat.not_le]at n)<;>(try simp[n]at h)<;>(try simp[n])<;>(try exact .done h);refine cf Tryz.func155 rfl (dD ?_);refine rn ?_;simp;refine aG.intro (λo=>?_) (λo=>?_)<;>(try simp[-Int.not_lt,-Int.not_le,-Nat.not_lt,-Nat.not_le]at o)<;>(try simp[o]at h)<;>(try simp[o])<;>(try exact .done h)
 refine af.loop e.marks.length (λk s=>∃env,s=⟨env,σ,[],.no⟩/\env 2=.cp (dw e) 0/\env 22=ints e.marks/\env 23=int e.marks.length/\env 24=int k/\sI none e.marks=sI (if k=0 then none else e.marks[k-1]?) (e.marks.drop k)) ⟨_,rfl,by simp⟩ ?_;rintro y k _ z ⟨env,rfl,j,g,i,b,a⟩ q;refine rn ?_;simp[i,b];refine aG.intro (λf=>?_) (λf=>?_)<;>(try simp[-Int.not_lt,-Int.not_le,-Nat.not_lt,-Nat.not_le]at f)<;>(try simp[j,g,b,f])
 . rw [No _ k f]at a
   refine cf Tryz.func155 rfl (dD ?_);refine rn ?_;simp;refine aG.intro (λc=>?_) (λc=>?_)<;>(try simp[-Int.not_lt,-Int.not_le,-Nat.not_lt,-Nat.not_le]at c)<;>(try simp[c]at a)<;>(try simp[c])<;>(try exact .done a)
   . refine qJ.intro (λd=>?_) (λd=>?_)<;>(try simp[-Int.not_lt,-Int.not_le,-Nat.not_lt,-Nat.not_le]at d)<;>(try simp[d]at a)<;>(try simp[j,b,d])<;>(try exact .done a)
     . have t:(k:Int)-1=((k-1:Nat):Int):=by omega
       have r:k-1<e.marks.length:=by omega
       have u:¬k=0:=by omega
       simp[t,r];repeat refine⟨by omega,?_⟩
       try simp[r,u,pP]at a
       refine aG.intro (λp=>?_) (λp=>?_)<;>(try simp[-Int.not_lt,-Int.not_le,-Nat.not_lt,-Nat.not_le]at p)<;>(try simp[p]at a)<;>(try simp[b,p])<;>(try exact .done a)
       . simp[a]at h
         exact .done h
       . refine⟨by omega,q _ f ⟨_,rfl,by simp[j],by simp[g],by simp[i],by simp,?_⟩⟩
         simp[a,f]
     . have v:k=0:=by omega
       subst v;simp[pP]at a;refine⟨by omega,q _ f ⟨_,rfl,by simp[j],by simp[g],by simp[i],by simp,?_⟩⟩;simp[a,f]
   . simp[a]at h
     exact .done h
 . have:k=e.marks.length:=by omega
   subst this;simp[sI]at a;simp[a]at h;refine cf Tryz.func155 rfl (dD ?_);refine rn ?_;simp;refine aG.intro (λc=>?_) (λc=>?_)<;>(try simp[-Int.not_lt,-Int.not_le,-Nat.not_lt,-Nat.not_le]at c)<;>(try simp[c]at h)<;>(try simp[j,c])<;>(try exact .done h);refine cf Tryz.func155 rfl (dD ?_);refine rn ?_;simp;refine aG.intro (λd=>?_) (λd=>?_)<;>(try simp[-Int.not_lt,-Int.not_le,-Nat.not_lt,-Nat.not_le]at d)<;>(try simp[d]at h)<;>(try simp[d])<;>(try exact .done h)
end Go.Proofs.YtkcceaplmgdnfaaGreatDoor

import Derived.Test.YtkcceaplmgdnfaaGreatDoorProg
import Derived.Test.YtkcceaplmgdnfaaGreatDoorC15
set_option linter.all false
set_option maxHeartbeats 1000000
set_option maxRecDepth 100000
namespace Go.Proofs.YtkcceaplmgdnfaaGreatDoor
open Go.Proofs.Tryz (prog)
section
open Go.cC
@[simp] def acJ:TI:=⟨.func,1,8,.nilFunc,[]⟩
@[simp] def acN:TI:=⟨.int .i64,1,8,(.int .i64 0),[]⟩
@[simp] def ada:TI:=⟨.bool,1,1,(.bool false),[]⟩
@[simp] def acM:TI:=⟨.int .u8,1,1,(.int .u8 0),[]⟩
@[simp] def acS:TI:=⟨.struct,4,24,(.agg #[(.int .i64 0),(.int .i64 0),(.bool false),(.int .u8 0)]),[(0,1,2),(1,1,3),(2,1,4),(3,1,6)]⟩
@[simp] def acP:TI:=⟨.string,1,16,(.string ByteArray.empty),[]⟩
@[simp] def acO:TI:=⟨.int .u64,1,8,(.int .u64 0),[]⟩
@[simp] def acT:TI:=⟨.struct,2,24,(.agg #[(.string ByteArray.empty),(.int .u64 0)]),[(0,1,9),(1,1,12)]⟩
@[simp] def adb:TI:=⟨.pointer 311,1,8,(.pointer none),[]⟩
@[simp] def ade:TI:=⟨.pointer 314,1,8,(.pointer none),[]⟩
@[simp] def adf:TI:=⟨.pointer 322,1,8,(.pointer none),[]⟩
@[simp] def acQ:TI:=⟨.struct,1,8,(.agg #[(.pointer none)]),[(0,1,17)]⟩
@[simp] def acL:TI:=⟨.iface,1,16,.nilIface,[]⟩
@[simp] def acR:TI:=⟨.int .i32,1,4,(.int .i32 0),[]⟩
@[simp] def adg:TI:=⟨.slice 3,1,24,(.slice none 0 0),[]⟩
@[simp] def adh:TI:=⟨.slice 56,1,24,(.slice none 0 0),[]⟩
@[simp] def adi:TI:=⟨.slice 22,1,24,(.slice none 0 0),[]⟩
@[simp] def acU:TI:=⟨.struct,2,16,(.agg #[(.int .i64 0),(.int .i64 0)]),[(0,1,3),(1,1,3)]⟩
@[simp] def acV:TI:=⟨.struct,6,80,(.agg #[(.slice none 0 0),(.slice none 0 0),(.int .i64 0),(.int .i64 0),(.int .i64 0),(.int .i64 0)]),[(0,1,23),(1,1,24),(2,2,26),(4,1,3),(5,1,3)]⟩
@[simp] def adj:TI:=⟨.slice 50,1,24,(.slice none 0 0),[]⟩
@[simp] def adk:TI:=⟨.slice 58,1,24,(.slice none 0 0),[]⟩
@[simp] def acW:TI:=⟨.struct,9,136,(.agg #[(.slice none 0 0),(.slice none 0 0),(.int .i64 0),(.int .i64 0),(.int .i64 0),(.int .i64 0),(.int .i64 0),(.slice none 0 0),(.slice none 0 0)]),[(0,6,28),(6,1,3),(7,1,29),(8,1,30)]⟩
@[simp] def adl:TI:=⟨.pointer 83,1,8,(.pointer none),[]⟩
@[simp] def acX:TI:=⟨.struct,5,40,(.agg #[(.int .i64 0),(.int .i64 0),(.int .i64 0),(.int .i64 0),(.int .i64 0)]),[(0,1,3),(1,1,3),(2,1,3),(3,2,26)]⟩
@[simp] def adm:TI:=⟨.struct,6,64,(.agg #[(.int .i64 0),(.int .i64 0),(.int .i64 0),(.slice none 0 0),(.int .i64 0),(.int .i64 0)]),[(0,1,3),(1,1,3),(2,1,3),(3,1,22),(4,1,3),(5,1,3)]⟩
@[simp] def adn:TI:=⟨.struct,8,80,(.agg #[(.int .i64 0),(.int .i64 0),(.int .i64 0),(.slice none 0 0),(.int .i64 0),(.int .i64 0),(.int .i64 0),(.int .i64 0)]),[(0,6,56),(6,1,3),(7,1,3)]⟩
@[simp] def ado:TI:=⟨.slice 26,1,24,(.slice none 0 0),[]⟩
@[simp] def adp:TI:=⟨.struct,3,40,(.agg #[(.slice none 0 0),(.int .i64 0),(.int .u64 0)]),[(0,1,22),(1,1,3),(2,1,81)]⟩
@[simp] def adq:TI:=⟨.pointer 158,1,8,(.pointer none),[]⟩
@[simp] def adr:TI:=⟨.pointer 32,1,8,(.pointer none),[]⟩
@[simp] def ads:TI:=⟨.struct,1,8,(.agg #[.nilFunc]),[(0,1,45)]⟩
@[simp] def acK:TI:=⟨.struct,0,0,(.agg #[]),[]⟩
@[simp] def adt:TI:=⟨.struct,2,2,(.agg #[(.int .u8 0),(.int .u8 0)]),[(0,1,110),(1,1,110)]⟩
@[simp] def adu:TI:=⟨.array 2 3,2,16,(.agg #[(.int .i64 0),(.int .i64 0)]),[]⟩
@[simp] def acY:TI:=⟨.struct,1,8,(.agg #[.nilFunc]),[(0,1,51)]⟩
@[simp] def adv:TI:=⟨.int .u32,1,4,(.int .u32 0),[]⟩
@[simp] def adw:TI:=⟨.struct,2,8,(.agg #[(.int .i32 0),(.int .u32 0)]),[(0,1,21),(1,1,150)]⟩
@[simp] def adx:TI:=⟨.struct,2,8,(.agg #[(.int .i32 0),(.int .u32 0)]),[(0,0,149),(0,2,152)]⟩
@[simp] def ady:TI:=⟨.array 3 3,3,24,(.agg #[(.int .i64 0),(.int .i64 0),(.int .i64 0)]),[]⟩
@[simp] def adz:TI:=⟨.map 112 193,1,8,(.map none),[]⟩
@[simp] def adA:TI:=⟨.struct,15,176,(.agg #[(.slice none 0 0),(.slice none 0 0),(.int .i64 0),(.int .i64 0),(.int .i64 0),(.int .i64 0),(.int .i64 0),(.slice none 0 0),(.slice none 0 0),(.int .i32 0),(.int .u32 0),(.int .i64 0),(.int .i64 0),(.int .i64 0),(.map none)]),[(0,9,32),(9,2,154),(11,3,155),(14,1,156)]⟩
@[simp] def adB:TI:=⟨.struct,1,8,(.agg #[(.int .u64 0)]),[(0,0,159),(0,0,160),(0,1,81)]⟩
@[simp] def adC:TI:=⟨.struct,2,16,(.agg #[(.int .u64 0),(.int .u32 0)]),[(0,0,149),(0,1,162),(1,1,150)]⟩
@[simp] def adD:TI:=⟨.array 4 3,4,32,(.agg #[(.int .i64 0),(.int .i64 0),(.int .i64 0),(.int .i64 0)]),[]⟩
@[simp] def adE:TI:=⟨.array 3 110,3,3,(.agg #[(.int .u8 0),(.int .u8 0),(.int .u8 0)]),[]⟩
@[simp] def adF:TI:=⟨.array 3 124,3,48,(.agg #[.nilIface,.nilIface,.nilIface]),[]⟩
@[simp] def acZ:TI:=⟨.struct,1,4,(.agg #[(.int .u32 0)]),[(0,0,159),(0,1,150)]⟩
@[simp] def adG:TI:=⟨.struct,3,12,(.agg #[(.int .u32 0),(.int .i32 0),(.int .u32 0)]),[(0,0,149),(0,1,187),(1,2,154)]⟩
@[simp] def adH:TI:=⟨.array 6 185,18,288,(.agg #[.nilIface,.nilIface,.nilIface,.nilIface,.nilIface,.nilIface,.nilIface,.nilIface,.nilIface,.nilIface,.nilIface,.nilIface,.nilIface,.nilIface,.nilIface,.nilIface,.nilIface,.nilIface]),[]⟩
@[simp] def adI:TI:=⟨.struct,21,304,(.agg #[(.int .u32 0),(.int .i32 0),(.int .u32 0),.nilIface,.nilIface,.nilIface,.nilIface,.nilIface,.nilIface,.nilIface,.nilIface,.nilIface,.nilIface,.nilIface,.nilIface,.nilIface,.nilIface,.nilIface,.nilIface,.nilIface,.nilIface]),[(0,3,189),(3,18,190)]⟩
@[simp] def adJ:TI:=⟨.pointer 192,1,8,(.pointer none),[]⟩
@[simp] def adK:TI:=⟨.struct,1,8,(.agg #[(.int .i64 0)]),[(0,1,37)]⟩
@[simp] def adL:TI:=⟨.pointer 197,1,8,(.pointer none),[]⟩
@[simp] def adM:TI:=⟨.pointer 257,1,8,(.pointer none),[]⟩
@[simp] def adN:TI:=⟨.pointer 164,1,8,(.pointer none),[]⟩
@[simp] def adO:TI:=⟨.pointer 150,1,8,(.pointer none),[]⟩
@[simp] def adP:TI:=⟨.pointer 154,1,8,(.pointer none),[]⟩
@[simp] def adQ:TI:=⟨.slice 100,1,24,(.slice none 0 0),[]⟩
@[simp] def adR:TI:=⟨.struct,3,24,(.agg #[(.pointer none),(.pointer none),(.int .u64 0)]),[(0,1,17),(1,1,210),(2,1,243)]⟩
@[simp] def adS:TI:=⟨.map 291 4,1,8,(.map none),[]⟩
@[simp] def adT:TI:=⟨.struct,9,96,(.agg #[(.slice none 0 0),(.slice none 0 0),(.int .i64 0),(.int .i64 0),(.int .i64 0),(.int .i64 0),(.int .i32 0),(.int .u32 0),(.map none)]),[(0,6,28),(6,2,154),(8,1,255)]⟩
@[simp] def adU:TI:=⟨.chan 3,1,8,(.chan none),[]⟩
@[simp] def adV:TI:=⟨.struct,1,8,(.agg #[.nilFunc]),[(0,1,48)]⟩
@[simp] def adW:TI:=⟨.slice 239,1,24,(.slice none 0 0),[]⟩
@[simp] def adX:TI:=⟨.pointer 189,1,8,(.pointer none),[]⟩
@[simp] def adY:TI:=⟨.struct,1,1,(.agg #[(.int .u8 0)]),[(0,1,5)]⟩
@[simp] def adZ:TI:=⟨.array 6 291,6,6,(.agg #[(.int .u8 0),(.int .u8 0),(.int .u8 0),(.int .u8 0),(.int .u8 0),(.int .u8 0)]),[]⟩
@[simp] def aea:TI:=⟨.pointer 187,1,8,(.pointer none),[]⟩
@[simp] def aeb:TI:=⟨.struct,4,40,(.agg #[(.pointer none),(.pointer none),(.pointer none),(.string ByteArray.empty)]),[(0,1,17),(1,1,17),(2,1,17),(3,1,9)]⟩
@[simp] def aec:TI:=⟨.array 0 16,0,0,(.agg #[]),[]⟩
@[simp] def aed:TI:=⟨.struct,0,0,(.agg #[]),[(0,0,312)]⟩
@[simp] def aee:TI:=⟨.pointer 5,1,8,(.pointer none),[]⟩
@[simp] def aef:TI:=⟨.struct,11,48,(.agg #[(.int .u64 0),(.int .u64 0),(.int .u32 0),(.int .u8 0),(.int .u8 0),(.int .u8 0),(.int .u8 0),.nilFunc,(.pointer none),(.int .i32 0),(.int .i32 0)]),[(0,1,12),(1,1,12),(2,1,150),(3,1,316),(4,1,5),(5,1,5),(6,1,248),(7,1,317),(8,1,318),(9,1,319),(10,1,320)]⟩
def LB:List (Nat × TI):=[
 (1,acJ),
 (2,acN),
 (3,acN),
 (4,ada),
 (5,acM),
 (6,acM),
 (7,acS),
 (8,acS),
 (9,acP),
 (10,acP),
 (11,acP),
 (12,acO),
 (13,acT),
 (14,acT),
 (15,adb),
 (16,ade),
 (17,adf),
 (18,acQ),
 (19,acQ),
 (20,acL),
 (21,acR),
 (22,adg),
 (23,adh),
 (24,adi),
 (25,acU),
 (26,acU),
 (27,acV),
 (28,acV),
 (29,adj),
 (30,adk),
 (31,acW),
 (32,acW),
 (34,acJ),
 (35,adl),
 (37,acN),
 (40,acJ),
 (43,acJ),
 (44,acJ),
 (45,acJ),
 (46,acJ),
 (48,acJ),
 (49,acX),
 (50,acX),
 (51,acJ),
 (56,adm),
 (58,adn),
 (59,ado),
 (67,acJ),
 (72,acJ),
 (73,acJ),
 (81,acO),
 (83,adp),
 (84,adq),
 (87,acJ),
 (88,acJ),
 (90,adr),
 (93,ads),
 (99,acL),
 (100,acL),
 (102,acJ),
 (105,acK),
 (108,acJ),
 (110,acM),
 (112,adt),
 (114,acJ),
 (115,acJ),
 (121,acJ),
 (124,acL),
 (125,acK),
 (145,adu),
 (147,acY),
 (148,acY),
 (149,acK),
 (150,adv),
 (152,adw),
 (154,adx),
 (155,ady),
 (156,adz),
 (158,adA),
 (159,acK),
 (160,acK),
 (162,adB),
 (164,adC),
 (167,adD),
 (170,acO),
 (172,acL),
 (175,acJ),
 (176,acJ),
 (177,adE),
 (184,acJ),
 (185,adF),
 (186,acZ),
 (187,acZ),
 (189,adG),
 (190,adH),
 (192,adI),
 (193,adJ),
 (195,acK),
 (197,adK),
 (199,adL),
 (201,adM),
 (204,acJ),
 (208,adN),
 (211,acN),
 (215,adO),
 (219,adP),
 (224,acQ),
 (226,acL),
 (229,acL),
 (231,acL),
 (232,adQ),
 (239,acL),
 (243,acO),
 (245,adR),
 (248,acM),
 (255,adS),
 (257,adT),
 (258,adU),
 (277,adV),
 (278,acK),
 (279,acK),
 (280,acK),
 (281,adW),
 (283,adX),
 (284,acK),
 (291,adY),
 (292,adZ),
 (295,acJ),
 (298,aea),
 (311,aeb),
 (312,aec),
 (314,aed),
 (316,acM),
 (317,acJ),
 (318,aee),
 (319,acR),
 (320,acR),
 (322,aef),
 (328,acM)]
theorem Iu:(LB.all λx=>x.2.check Tryz.prog x.1)=true:=by kernel_rfl
def BC(t:Nat):Option TI:=(LB.find? λx=>x.1==t).map (·.2)
theorem Ft(t:Nat)(i:TI)(h:BC t=some i):i.check Tryz.prog t=true:=by unfold BC at h;obtain⟨x,a,rfl⟩:=ZW.1 h;have c:=List.find?_some a;have b:=ZT.1 Iu x (List.mem_of_find?_eq_some a);rw[aaU.1 c]at b;exact b
def lay:je Tryz.prog:=⟨BC,Ft,by kernel_rfl⟩
theorem rn{m:Mo}{fid n:Nat}{ro:acp}{hold:acn}{s:St}{K:cC.Exit->St->Prop}{todo:acv}(h:bz lay m fid n ro [] hold 1000 todo s K):aa Tryz.prog m fid n ro hold todo s K:=aa.run lay [] h
theorem pg{m:Mo}{ops:aco}{n:Nat}{Kp:acg}{R:acf}{p:nN}{env:Env}{σ:ab}(h:il lay m [] ops n Kp p env σ R):aK Tryz.prog m ops n Kp p env σ R:=aK.go lay [] h
theorem cf{m:Mo}{f:FuncId}{fn:Func}{args:acE}{σ:ab}{KF:ach}(a:Tryz.prog.funcs[f]?=some fn)(hb:(fn.body.isSome && !(fn.name== "runtime.NumGoroutine"))=true)(h:az Tryz.prog m f args σ KF):bY Tryz.prog m (.fn (.func f) [] []) args σ KF:=by
 simp only[zj,abn]at hb;exact ar a hb.1 hb.2 h
theorem fs{m:Mo}{f:FuncId}{fn:Func}{args:acE}{σ:ab}{KF:ach}{body:Code}(hold:acn)(b:Tryz.prog.funcs[f]?=some fn)(hb:fn.body=some body)(c:(nO fn args.length&&kL hold body)=true)(h:bz lay m f fn.ntmps none [] hold 1000 [.code body] ⟨dp args,σ,[],.no⟩ (RN lay m fn.results.toList (m9 KF))):az Tryz.prog m f args σ KF:=by simp only[zj]at c;exact az.start lay [] hold _ b hb rfl c.1 c.2 h
@[simp] theorem ZE:lay.tt 1=some acJ:=rfl
@[simp] theorem ZF:lay.tt 2=some acN:=rfl
@[simp] theorem rA:lay.tt 3=some acN:=rfl
@[simp] theorem YY:lay.tt 4=some ada:=rfl
@[simp] theorem XC:lay.tt 5=some acM:=rfl
@[simp] theorem ZG:lay.tt 6=some acM:=rfl
@[simp] theorem ZH:lay.tt 7=some acS:=rfl
@[simp] theorem ZI:lay.tt 8=some acS:=rfl
@[simp] theorem ZJ:lay.tt 9=some acP:=rfl
@[simp] theorem YZ:lay.tt 10=some acP:=rfl
@[simp] theorem Y0:lay.tt 11=some acP:=rfl
@[simp] theorem Y1:lay.tt 12=some acO:=rfl
@[simp] theorem Y2:lay.tt 13=some acT:=rfl
@[simp] theorem Y3:lay.tt 14=some acT:=rfl
@[simp] theorem Y4:lay.tt 15=some adb:=rfl
@[simp] theorem Y5:lay.tt 16=some ade:=rfl
@[simp] theorem Y6:lay.tt 17=some adf:=rfl
@[simp] theorem Y7:lay.tt 18=some acQ:=rfl
@[simp] theorem Y8:lay.tt 19=some acQ:=rfl
@[simp] theorem Y9:lay.tt 20=some acL:=rfl
@[simp] theorem Y':lay.tt 21=some acR:=rfl
@[simp] theorem dG:lay.tt 22=some adg:=rfl
@[simp] theorem lM:lay.tt 23=some adh:=rfl
@[simp] theorem oX:lay.tt 24=some adi:=rfl
@[simp] theorem Za:lay.tt 25=some acU:=rfl
@[simp] theorem Wg:lay.tt 26=some acU:=rfl
@[simp] theorem Zb:lay.tt 27=some acV:=rfl
@[simp] theorem Zc:lay.tt 28=some acV:=rfl
@[simp] theorem Fu:lay.tt 29=some adj:=rfl
@[simp] theorem Iv:lay.tt 30=some adk:=rfl
@[simp] theorem Zd:lay.tt 31=some acW:=rfl
@[simp] theorem Ze:lay.tt 32=some acW:=rfl
@[simp] theorem Zf:lay.tt 34=some acJ:=rfl
@[simp] theorem Zg:lay.tt 35=some adl:=rfl
@[simp] theorem Zh:lay.tt 37=some acN:=rfl
@[simp] theorem Zi:lay.tt 40=some acJ:=rfl
@[simp] theorem Zj:lay.tt 43=some acJ:=rfl
@[simp] theorem Zk:lay.tt 44=some acJ:=rfl
@[simp] theorem Zl:lay.tt 45=some acJ:=rfl
@[simp] theorem Zm:lay.tt 46=some acJ:=rfl
@[simp] theorem Zn:lay.tt 48=some acJ:=rfl
@[simp] theorem Zo:lay.tt 49=some acX:=rfl
@[simp] theorem Pb:lay.tt 50=some acX:=rfl
@[simp] theorem Zp:lay.tt 51=some acJ:=rfl
@[simp] theorem xN:lay.tt 56=some adm:=rfl
@[simp] theorem Rh:lay.tt 58=some adn:=rfl
@[simp] theorem Uo:lay.tt 59=some ado:=rfl
@[simp] theorem Zq:lay.tt 67=some acJ:=rfl
@[simp] theorem Zr:lay.tt 72=some acJ:=rfl
@[simp] theorem Zs:lay.tt 73=some acJ:=rfl
@[simp] theorem Zt:lay.tt 81=some acO:=rfl
@[simp] theorem Zu:lay.tt 83=some adp:=rfl
@[simp] theorem Zv:lay.tt 84=some adq:=rfl
@[simp] theorem Zw:lay.tt 87=some acJ:=rfl
@[simp] theorem Zx:lay.tt 88=some acJ:=rfl
@[simp] theorem Zy:lay.tt 90=some adr:=rfl
@[simp] theorem Zz:lay.tt 93=some ads:=rfl
@[simp] theorem ZA:lay.tt 99=some acL:=rfl
@[simp] theorem G5:lay.tt 100=some acL:=rfl
@[simp] theorem XD:lay.tt 102=some acJ:=rfl
@[simp] theorem XE:lay.tt 105=some acK:=rfl
@[simp] theorem XF:lay.tt 108=some acJ:=rfl
@[simp] theorem LC:lay.tt 110=some acM:=rfl
@[simp] theorem XG:lay.tt 112=some adt:=rfl
@[simp] theorem XH:lay.tt 114=some acJ:=rfl
@[simp] theorem XI:lay.tt 115=some acJ:=rfl
@[simp] theorem XJ:lay.tt 121=some acJ:=rfl
@[simp] theorem Qn:lay.tt 124=some acL:=rfl
@[simp] theorem XK:lay.tt 125=some acK:=rfl
@[simp] theorem Qo:lay.tt 145=some adu:=rfl
@[simp] theorem XL:lay.tt 147=some acY:=rfl
@[simp] theorem XN:lay.tt 148=some acY:=rfl
@[simp] theorem XO:lay.tt 149=some acK:=rfl
@[simp] theorem XP:lay.tt 150=some adv:=rfl
@[simp] theorem XQ:lay.tt 152=some adw:=rfl
@[simp] theorem XR:lay.tt 154=some adx:=rfl
@[simp] theorem XS:lay.tt 155=some ady:=rfl
@[simp] theorem XT:lay.tt 156=some adz:=rfl
@[simp] theorem XU:lay.tt 158=some adA:=rfl
@[simp] theorem XV:lay.tt 159=some acK:=rfl
@[simp] theorem XW:lay.tt 160=some acK:=rfl
@[simp] theorem XX:lay.tt 162=some adB:=rfl
@[simp] theorem XY:lay.tt 164=some adC:=rfl
@[simp] theorem XZ:lay.tt 167=some adD:=rfl
@[simp] theorem X1:lay.tt 170=some acO:=rfl
@[simp] theorem X2:lay.tt 172=some acL:=rfl
@[simp] theorem X3:lay.tt 175=some acJ:=rfl
@[simp] theorem X4:lay.tt 176=some acJ:=rfl
@[simp] theorem Up:lay.tt 177=some adE:=rfl
@[simp] theorem X5:lay.tt 184=some acJ:=rfl
@[simp] theorem X6:lay.tt 185=some adF:=rfl
@[simp] theorem X7:lay.tt 186=some acZ:=rfl
@[simp] theorem X8:lay.tt 187=some acZ:=rfl
@[simp] theorem X9:lay.tt 189=some adG:=rfl
@[simp] theorem Ya:lay.tt 190=some adH:=rfl
@[simp] theorem Yb:lay.tt 192=some adI:=rfl
@[simp] theorem Uq:lay.tt 193=some adJ:=rfl
@[simp] theorem Yc:lay.tt 195=some acK:=rfl
@[simp] theorem Yd:lay.tt 197=some adK:=rfl
@[simp] theorem Ye:lay.tt 199=some adL:=rfl
@[simp] theorem Yf:lay.tt 201=some adM:=rfl
@[simp] theorem Yg:lay.tt 204=some acJ:=rfl
@[simp] theorem Yh:lay.tt 208=some adN:=rfl
@[simp] theorem Yi:lay.tt 211=some acN:=rfl
@[simp] theorem Yj:lay.tt 215=some adO:=rfl
@[simp] theorem Yk:lay.tt 219=some adP:=rfl
@[simp] theorem Yl:lay.tt 224=some acQ:=rfl
@[simp] theorem Ym:lay.tt 226=some acL:=rfl
@[simp] theorem Yn:lay.tt 229=some acL:=rfl
@[simp] theorem Yo:lay.tt 231=some acL:=rfl
@[simp] theorem Yp:lay.tt 232=some adQ:=rfl
@[simp] theorem Ur:lay.tt 239=some acL:=rfl
@[simp] theorem Yq:lay.tt 243=some acO:=rfl
@[simp] theorem Yr:lay.tt 245=some adR:=rfl
@[simp] theorem Ys:lay.tt 248=some acM:=rfl
@[simp] theorem Yt:lay.tt 255=some adS:=rfl
@[simp] theorem Yu:lay.tt 257=some adT:=rfl
@[simp] theorem G6:lay.tt 258=some adU:=rfl
@[simp] theorem Yv:lay.tt 277=some adV:=rfl
@[simp] theorem Us:lay.tt 278=some acK:=rfl
@[simp] theorem Ut:lay.tt 279=some acK:=rfl
@[simp] theorem Uu:lay.tt 280=some acK:=rfl
@[simp] theorem Yw:lay.tt 281=some adW:=rfl
@[simp] theorem Yx:lay.tt 283=some adX:=rfl
@[simp] theorem Yy:lay.tt 284=some acK:=rfl
@[simp] theorem Yz:lay.tt 291=some adY:=rfl
@[simp] theorem YA:lay.tt 292=some adZ:=rfl
@[simp] theorem YB:lay.tt 295=some acJ:=rfl
@[simp] theorem YC:lay.tt 298=some aea:=rfl
@[simp] theorem YD:lay.tt 311=some aeb:=rfl
@[simp] theorem YE:lay.tt 312=some aec:=rfl
@[simp] theorem YF:lay.tt 314=some aed:=rfl
@[simp] theorem YG:lay.tt 316=some acM:=rfl
@[simp] theorem YH:lay.tt 317=some acJ:=rfl
@[simp] theorem YI:lay.tt 318=some aee:=rfl
@[simp] theorem YJ:lay.tt 319=some acR:=rfl
@[simp] theorem YK:lay.tt 320=some acR:=rfl
@[simp] theorem YL:lay.tt 322=some aef:=rfl
@[simp] theorem YM:lay.tt 328=some acM:=rfl
abbrev ZB:acn:=[⟨7,.take [0,2,3,4,5,6,7,8,9] false (.both 1 (.take [11,12] false (.one 10 (.one 13 (.done)))) (.one 10 (.one 1 (.take [11,12] false (.one 13 (.done))))))⟩,⟨8,.take [0,2,3,4,5,6,7,8,9,10,12,13,14,15,16,17,18,19] false (.both 1 (.take [22,23] false (.one 11 (.one 20 (.one 21 (.one 24 (.done)))))) (.one 11 (.both 1 (.take [22,23] false (.one 20 (.one 21 (.one 24 (.done))))) (.one 20 (.both 1 (.take [22,23] false (.one 21 (.one 24 (.done)))) (.one 21 (.one 1 (.take [22,23] false (.one 24 (.done))))))))))⟩,⟨10,.take [0,2,3,4,8] false (.both 1 (.one 5 (.one 6 (.one 7 (.one 9 (.done))))) (.one 5 (.both 1 (.one 6 (.one 7 (.one 9 (.done)))) (.one 6 (.take [1] true (.one 7 (.one 9 (.done))))))))⟩]
abbrev Wh:acn:=[⟨4,.take [0,1,2,3,4,5,6,7,8] true (.done)⟩]
abbrev Wi:acn:=[⟨1,.take [0,1,3,4,6,7] false (.both 2 (.both 5 (.both 8 (.both 9 (.one 10 (.one 11 (.done))) (.one 10 (.one 9 (.one 11 (.done))))) (.one 10 (.one 8 (.one 9 (.one 11 (.done)))))) (.one 10 (.one 5 (.one 8 (.one 9 (.one 11 (.done))))))) (.both 5 (.both 2 (.both 8 (.both 9 (.one 10 (.one 11 (.done))) (.one 10 (.one 9 (.one 11 (.done))))) (.one 10 (.one 8 (.one 9 (.one 11 (.done)))))) (.one 10 (.one 2 (.one 8 (.one 9 (.one 11 (.done))))))) (.one 10 (.both 2 (.one 5 (.one 8 (.one 9 (.one 11 (.done))))) (.one 5 (.one 2 (.one 8 (.one 9 (.one 11 (.done))))))))))⟩,⟨5,.take [0,2,3,4,5,6,7,9,10,11,12,13,14,15,16,17,18,19,20,24] false (.both 1 (.one 8 (.one 21 (.one 22 (.one 23 (.one 25 (.done)))))) (.one 8 (.both 1 (.one 21 (.one 22 (.one 23 (.one 25 (.done))))) (.one 21 (.both 1 (.one 22 (.one 23 (.one 25 (.done)))) (.one 22 (.take [1] true (.one 23 (.one 25 (.done))))))))))⟩]
abbrev Wj:acn:=[⟨3,.take [0,1,2] false (.both 3 (.one 4 (.one 5 (.one 6 (.one 7 (.one 8 (.one 9 (.done))))))) (.one 4 (.both 3 (.one 5 (.one 6 (.one 7 (.one 8 (.one 9 (.done)))))) (.one 5 (.both 3 (.one 6 (.one 7 (.one 8 (.one 9 (.done))))) (.one 6 (.both 3 (.one 7 (.one 8 (.one 9 (.done)))) (.one 7 (.one 3 (.one 8 (.one 9 (.done))))))))))))⟩]
abbrev Wk:acn:=[⟨26,.take [0,1,2,3] false (.one 4 (.one 5 (.one 6 (.take [7,8,9,10,11] true (.done)))))⟩]
abbrev Wm:acn:=[⟨19,.take [0,2,3,4,6,7,11] false (.both 1 (.both 5 (.one 8 (.one 9 (.take [10] true (.one 12 (.done))))) (.one 8 (.one 5 (.one 9 (.take [10] true (.one 12 (.done))))))) (.both 5 (.both 1 (.one 8 (.one 9 (.take [10] true (.one 12 (.done))))) (.one 8 (.both 1 (.one 9 (.take [10] true (.one 12 (.done)))) (.one 9 (.take [1,10] true (.one 12 (.done))))))) (.one 8 (.both 1 (.one 5 (.one 9 (.take [10] true (.one 12 (.done))))) (.one 5 (.both 1 (.one 9 (.take [10] true (.one 12 (.done)))) (.one 9 (.take [1,10] true (.one 12 (.done))))))))))⟩]
abbrev Wn:acn:=[⟨6,.take [0,1,2,3,4,5,6,7,8] true (.done)⟩]
abbrev Wo:acn:=[⟨1,.take [0,1,3,4,5,6,7,8] false (.both 2 (.both 9 (.one 10 (.one 11 (.done))) (.one 10 (.one 9 (.one 11 (.done))))) (.one 10 (.one 2 (.one 9 (.one 11 (.done))))))⟩,⟨5,.take [0,2,3,4,5,6,10] false (.both 1 (.one 7 (.one 8 (.one 9 (.one 11 (.done))))) (.one 7 (.both 1 (.one 8 (.one 9 (.one 11 (.done)))) (.one 8 (.take [1] true (.one 9 (.one 11 (.done))))))))⟩]
abbrev Wp:acn:=[⟨3,.take [0,1,2,3,4,5,6,7,8,9] true (.done)⟩,⟨4,.take [0,1,2,3,4,5,6,7,8,9,10,11,12,13,14] true (.take [15] true (.done))⟩,⟨6,.take [0,1,2,3,5,6,7,11,12] false (.take [4,8,9,10] true (.one 13 (.done)))⟩]
abbrev Wq:acn:=[⟨7,.take [0,2,6] false (.both 1 (.one 3 (.one 4 (.one 5 (.one 7 (.done))))) (.one 3 (.both 1 (.one 4 (.one 5 (.one 7 (.done)))) (.one 4 (.take [1] true (.one 5 (.one 7 (.done))))))))⟩,⟨15,.take [0,2,5,6,8,11,12,13] false (.both 1 (.take [3,4,14] false (.one 7 (.take [9,10,16] false (.one 15 (.one 17 (.done)))))) (.one 7 (.take [9,10,16] false (.take [1,3,4,14] true (.one 15 (.one 17 (.done)))))))⟩,⟨21,.take [0,2,3,7] false (.both 1 (.one 4 (.one 5 (.one 6 (.one 8 (.done))))) (.one 4 (.both 1 (.one 5 (.one 6 (.one 8 (.done)))) (.one 5 (.take [1] true (.one 6 (.one 8 (.done))))))))⟩]
abbrev Uv:acn:=[⟨4,.take [0,1,2,3,4,5] false (.one 6 (.done))⟩]
abbrev Wr:acn:=[⟨16,.take [0,1,2,4,5,6,8,9,12] false (.both 3 (.one 7 (.one 10 (.one 11 (.one 13 (.done))))) (.one 7 (.both 3 (.one 10 (.one 11 (.one 13 (.done)))) (.one 10 (.take [3] true (.one 11 (.one 13 (.done))))))))⟩]
abbrev Uw:acn:=[⟨1,.take [0,1,2,3,4] false (.both 5 (.one 6 (.one 7 (.done))) (.one 6 (.one 5 (.one 7 (.done)))))⟩,⟨4,.take [0,1,2,3,4,5] true (.one 6 (.done))⟩]
abbrev Ux:acn:=[⟨0,.take [0,1,3,4,6,7] false (.both 2 (.both 5 (.take [11] false (.both 8 (.take [12] false (.one 9 (.one 10 (.done)))) (.one 9 (.one 8 (.take [12] false (.one 10 (.done))))))) (.one 9 (.one 5 (.take [11] false (.one 8 (.take [12] false (.one 10 (.done)))))))) (.one 9 (.one 2 (.one 5 (.take [11] false (.one 8 (.take [12] false (.one 10 (.done)))))))))⟩,⟨8,.take [0,1,2,3,5,6,7,8] false (.one 4 (.one 9 (.done)))⟩]
abbrev Uy:acn:=[⟨24,.take [0,1,2,3,4,5,6,7,8,9,10,11,12,13,14,15,16,17,18,19,20,21,22,23,24] true (.done)⟩,⟨29,.take [0,1,2,3,4,5,6,7,8,9,10,11,12,13,14,15,16,17,18,19,20,21,22] true (.done)⟩]
abbrev Uz:acn:=[⟨1,.take [0,1,2,3,4,5,6,7,8,9,10,11,12,13,14,15,16,17] false (.one 18 (.take [19] true (.done)))⟩]
abbrev UA:acn:=[⟨4,.take [0,2,4] false (.take [1] true (.one 3 (.one 5 (.done))))⟩,⟨5,.take [0,1,2] false (.one 3 (.one 4 (.take [5,6,8,9,10,12,15,16,17] false (.both 7 (.both 11 (.both 13 (.both 14 (.one 18 (.one 19 (.take [20,21] true (.done)))) (.one 18 (.one 14 (.one 19 (.take [20,21] true (.done)))))) (.one 18 (.one 13 (.one 14 (.one 19 (.take [20,21] true (.done))))))) (.both 13 (.both 11 (.both 14 (.one 18 (.one 19 (.take [20,21] true (.done)))) (.one 18 (.one 14 (.one 19 (.take [20,21] true (.done)))))) (.one 18 (.one 11 (.one 14 (.one 19 (.take [20,21] true (.done))))))) (.one 18 (.both 11 (.one 13 (.one 14 (.one 19 (.take [20,21] true (.done))))) (.one 13 (.one 11 (.one 14 (.one 19 (.take [20,21] true (.done)))))))))) (.both 11 (.both 7 (.both 13 (.both 14 (.one 18 (.one 19 (.take [20,21] true (.done)))) (.one 18 (.one 14 (.one 19 (.take [20,21] true (.done)))))) (.one 18 (.one 13 (.one 14 (.one 19 (.take [20,21] true (.done))))))) (.both 13 (.both 7 (.both 14 (.one 18 (.one 19 (.take [20,21] true (.done)))) (.one 18 (.one 14 (.one 19 (.take [20,21] true (.done)))))) (.both 14 (.both 7 (.one 18 (.one 19 (.take [20,21] true (.done)))) (.one 18 (.one 7 (.one 19 (.take [20,21] true (.done)))))) (.one 18 (.both 7 (.one 14 (.one 19 (.take [20,21] true (.done)))) (.one 14 (.one 7 (.one 19 (.take [20,21] true (.done))))))))) (.one 18 (.both 7 (.one 13 (.one 14 (.one 19 (.take [20,21] true (.done))))) (.one 13 (.both 7 (.one 14 (.one 19 (.take [20,21] true (.done)))) (.one 14 (.one 7 (.one 19 (.take [20,21] true (.done))))))))))) (.both 13 (.both 7 (.both 11 (.both 14 (.one 18 (.one 19 (.take [20,21] true (.done)))) (.one 18 (.one 14 (.one 19 (.take [20,21] true (.done)))))) (.one 18 (.one 11 (.one 14 (.one 19 (.take [20,21] true (.done))))))) (.both 11 (.both 7 (.both 14 (.one 18 (.one 19 (.take [20,21] true (.done)))) (.one 18 (.one 14 (.one 19 (.take [20,21] true (.done)))))) (.both 14 (.both 7 (.one 18 (.one 19 (.take [20,21] true (.done)))) (.one 18 (.one 7 (.one 19 (.take [20,21] true (.done)))))) (.one 18 (.both 7 (.one 14 (.one 19 (.take [20,21] true (.done)))) (.one 14 (.one 7 (.one 19 (.take [20,21] true (.done))))))))) (.one 18 (.both 7 (.one 11 (.one 14 (.one 19 (.take [20,21] true (.done))))) (.one 11 (.both 7 (.one 14 (.one 19 (.take [20,21] true (.done)))) (.one 14 (.one 7 (.one 19 (.take [20,21] true (.done))))))))))) (.one 18 (.both 7 (.both 11 (.one 13 (.one 14 (.one 19 (.take [20,21] true (.done))))) (.one 13 (.one 11 (.one 14 (.one 19 (.take [20,21] true (.done))))))) (.both 11 (.both 7 (.one 13 (.one 14 (.one 19 (.take [20,21] true (.done))))) (.one 13 (.both 7 (.one 14 (.one 19 (.take [20,21] true (.done)))) (.one 14 (.one 7 (.one 19 (.take [20,21] true (.done)))))))) (.one 13 (.both 7 (.one 11 (.one 14 (.one 19 (.take [20,21] true (.done))))) (.one 11 (.both 7 (.one 14 (.one 19 (.take [20,21] true (.done)))) (.one 14 (.one 7 (.one 19 (.take [20,21] true (.done))))))))))))))))))⟩]
abbrev UB:acn:=[⟨1,.take [0,1,2,3,4,5] true (.one 6 (.done))⟩]
abbrev UF:acn:=[⟨3,.take [0,1,2,3] false (.one 4 (.one 5 (.take [6,7,8,9,10] true (.done))))⟩,⟨6,.take [0,1,2,3,4,5] true (.one 6 (.done))⟩]
abbrev UG:acn:=[⟨0,.take [0,1,2,3] false (.one 4 (.one 5 (.done)))⟩]
abbrev Qp:acn:=[⟨7,.take [0,1,2,3] true (.done)⟩]
abbrev UH:acn:=[⟨1,.take [0,1,2,3,4,5,6,7,8,9] true (.done)⟩]
abbrev UI:acn:=[⟨4,.take [0,1,2,3,4,5,6,7,9,10,11,12] false (.both 8 (.one 13 (.one 14 (.take [15,16] true (.done)))) (.one 13 (.one 8 (.one 14 (.take [15,16] true (.done))))))⟩,⟨6,.take [0,1,2,3,4,5,6,7,8,10,11,12,14,16] false (.take [9,13] true (.one 15 (.one 17 (.done))))⟩]
abbrev UJ:acn:=[⟨4,.take [0,1,2,3,4,5,6,7,8,9,10,11,12,13,14,15,16,17,18,19,20] true (.done)⟩]
abbrev UK:acn:=[⟨8,.take [0,1,2,3,4,5,6,7,8,9,10,11,12,13,14] true (.done)⟩,⟨11,.take [0,1,3,4,5,6,7,8,10] false (.one 2 (.take [9,11] false (.one 12 (.one 13 (.take [14] true (.done))))))⟩,⟨17,.take [0,1,2,3] false (.one 4 (.one 5 (.take [6] true (.done))))⟩]
abbrev UL:acn:=[⟨4,.take [0,1,2,3,4,5,6,7,8,9,10,11,12,13,14,15,16,17,18,19,20,21,22] false (.both 23 (.one 24 (.one 25 (.one 26 (.done)))) (.one 24 (.one 23 (.one 25 (.one 26 (.done))))))⟩,⟨5,.take [0,1,2,3,4,5,6,7,8,9,10,11,12,13,14,15,16,17,18,19,20,21,22,23,24,26,27] false (.one 25 (.one 28 (.one 29 (.take [30,31,32] true (.done)))))⟩]
attribute [simp] N9
abbrev int(n:Int):AV:=.lit (.int .i64 n)
abbrev u8(n:Int):AV:=.lit (.int .u8 n)
abbrev bool(b:Bool):AV:=.lit (.bool b)
abbrev ints(l:acy):AV:=.sl 1 (l.map int) .any
abbrev rows(l:aca):AV:=.sl 1 (l.map ints) .any
structure xO where
 hour:Int
 place:Int
 cR:Int
 marks:acy
 bs:Int
 jD:Int
 deriving DecidableEq
structure Fr where
 aD:List xO
 roads:aca
 aP:Int
 dH:Int
 cL:Int
 aW:Int
 deriving DecidableEq
abbrev bn(e:xO):AV:=.agg [int e.hour,int e.place,int e.cR,ints e.marks,int e.bs,int e.jD]
abbrev iZ(l:List xO):AV:=.sl 6 (l.map bn) .any
abbrev G8(f:Fr):acE:=[iZ f.aD,rows f.roads,int f.aP,int f.dH,int f.cL,int f.aW]
abbrev cM(f:Fr):AV:=.agg (G8 f)
abbrev lN(b mb:Nat)(f:Fr)(o:Nat):AV:=.kp b [iZ f.aD,rows f.roads,int f.aP,int f.dH,int f.cL,int f.aW,.lit (.int .i32 0),.lit (.int .u32 0),.map mb] [6,7] o
def bu(a lo hi:Int):Bool:=decide (lo<=a) && decide (a<=hi)
def Ha:Option Int->Int->Bool
 |some q,h=>decide (h<=q)
 |none,_=>false
def sN:Option Int->acy->Int
 |_,[]=>0
 |p,h::l=>if bu h 0 4=false then 3 else if Ha p h=true then 5 else sN (some h) l
def cH(places:Int)(e:xO):Int:=
 if bu e.hour 0 72=false then 1 else if bu e.place 0 (places-1)=false then 3 else if bu e.cR 0 5=false then 1 else if sN none e.marks≠0 then sN none e.marks
 else if bu e.bs 0 30=false then 1 else if bu e.jD 0 2=false then 8 else 0
def fR(f:xO->Int):List xO->Int
 |[]=>0
 |d::l=>if f d=0 then fR f l else f d
theorem Pd(l:acy)  i   h   p :sN p (l.drop i)=if bu l[i] 0 4=false then 3 else if Ha p l[i]=true then 5 else sN (some l[i]) (l.drop (i+1)):=by rw[aau h,sN]
theorem Dr  f  (l:List xO)  i   h :fR f (l.drop i)=if f l[i]=0 then fR f (l.drop (i+1))else f l[i]:=by rw[aau h,fR]
theorem BD{α:Type}{l l':List α}{k}  g  (g':k<l'.length) (h:l.take k=l'.take k) (e:l[k]=l'[k]):l.take (k+1)=l'.take (k+1):=by rw[zD g,zD g',h,e]
def rd(r:aca)(i j:Nat):Int:=(r.getD i []).getD j 0
def dP(r:aca)(i j:Nat):Bool:=rd r i i !=0||rd r i j !=rd r j i||(List.range r.length).any λk=>decide (rd r i j>rd r i k+rd r k j)
def lO(n:Nat)(l:acy):Int:=if l.length≠n then 9 else if l.all (bu · 0 9)then 0 else 1
def ig(n:Nat):aca->Int
 |[]=>0
 |l::r=>if lO n l=0 then ig n r else lO n l
def fS(r:aca):Int:=
 if r.length<1 then 7 else if 3<r.length then 6 else if ig r.length r≠0 then ig r.length r
 else if(List.range r.length).any (λi=>(List.range r.length).any λj=>dP r i j)then 9 else 0
def check(f:Fr):Int:=
 if fS f.roads≠0 then fS f.roads else if(bu f.aP 0 3 && bu f.dH 0 3)=false then 1 else if f.dH<f.aP then 5
 else if(bu f.cL 1 6 && bu f.aW 1 6)=false then 1 else if(6:Int)<f.aD.length then 6 else fR (cH f.roads.length) f.aD
theorem Fv  n  (l:aca)  i   h :ig n (l.drop i)=if lO n l[i]=0 then ig n (l.drop (i+1))else lO n l[i]:=by rw[aau h,ig]
structure Fr.Fits(f:Fr):Prop where
 aD:f.aD.length<1152921504606846976
 roads:f.roads.length<1152921504606846976
 row:∀r∈f.roads,r.length<1152921504606846976
 marks:∀e∈f.aD,e.marks.length<1152921504606846976
def jy(i:Int):acy->Int->Int
 |[],_=>-1
 |x::l,v=>if x=v then i else jy (i+1) l v
def qC(l:acy)(v:Int):Int:=jy 0 l v
theorem Aa(l:acy)  v   i   h   c :jy c (l.drop i) v=if l[i]=v then c else jy (c+1) (l.drop (i+1)) v:=by rw[aau h,jy]
theorem xP  v :∀  l   i ,0<=i->(0<=jy i l v↔v∈l)
 |[],i,h=>by simp[jy]
 | x::l,i,h=>by
   unfold jy;split
   . simp_all
   . next e=>rw[xP v l (i+1) (by omega)];grind
theorem lP  l   v :0<=qC l v↔v∈l:=xP v l 0 (aax _)
def ja(f:Fr)(e:xO):acy:=if e.jD≠0 then(List.range (f.dH-f.aP+1).toNat).map λi:Nat=>e.bs-f.dH+(i:Int)else[]
def bS(f:Fr)(e:xO):acy:=if e.jD≠1/\e.bs∉ja f e then ja f e++[e.bs]else ja f e
def iH(first:acy)(others:aca):acy:=first.filter λx=>others.all λl=>decide (x∈l)
def aX(f:Fr)(i:Int):xO:=f.aD.getD i.toNat ⟨0,0,0,[],0,0⟩
def fX(f:Fr)(l:acy):acy:=match l.map λi=>bS f (aX f i)with|[]=>[]|a::r=>iH a r
def UM(a b:Int):Int:=IntKind.u8.wrap (((BitVec.ofInt 8 a|||BitVec.ofInt 8 b).toNat:Nat):Int)
def Ds(a b:Int):Int:=IntKind.u8.wrap (((BitVec.ofInt 8 a &&& BitVec.ofInt 8 b).toNat:Nat):Int)
def xQ(a b:Int):Int:=IntKind.u8.wrap (((BitVec.ofInt 8 a ^^^ BitVec.ofInt 8 b).toNat:Nat):Int)
def Qq(a b:Int):Int:=IntKind.u8.wrap (a-b)
theorem sO  a b :oU .or .u8 a b=some (.int .u8 (UM a b)):=rfl
theorem tY  a b :oU .and .u8 a b=some (.int .u8 (Ds a b)):=rfl
theorem Iw  a b :oU .xor .u8 a b=some (.int .u8 (xQ a b)):=rfl
theorem Ix  a b :oU .sub .u8 a b=some (.int .u8 (Qq a b)):=rfl
def bR(m n:Int):Int:=UM m (IntKind.u8.wrap (2 ^ min n.toNat IntKind.u8.bits))
def fL(m n:Int):Bool:=Ds (m.fdiv (2 ^ min n.toNat IntKind.u8.bits)) 1==1
def aA(m:Int):acy:=((List.range 6).map λn:Nat=>(n:Int)).filter λn=>fL m n
def bf(l:acy):Int:=l.foldl bR 0
end
section
open Go.cC Go.Conc
variable{m:Mo}{σ:ab}{KF:ach}
theorem eF{a lo hi}(h:KF (.val (bool (bu a lo hi))) σ):az prog m 155 [int a,int lo,int hi] σ KF:=by
 unfold bu at h;refine fs [] Tryz.func155 rfl (by kernel_rfl) ?_;simp[Tryz.f155];refine uK.intro (λb=>?_) (λb=>?_)<;>simp[b]
 . exact .done (by simp_all)
 . exact .done (by simp_all)
theorem LF{l v}(j:l.length<1152921504606846976)(h:KF (.val (int (qC l v))) σ):az prog m 63 [ints l,int v] σ KF:=by
 refine fs [] Tryz.func63 rfl (by kernel_rfl) ?_;simp[Tryz.f63];refine aa.loop l.length (λk s=>∃env,s=⟨env,σ,[],.no⟩/\env 0=ints l/\env 1=int v/\env 7=int l.length/\env 8=int k/\jy 0 l v=jy k (l.drop k) v) ⟨_,rfl,by simp⟩ ?_;rintro n k _ o ⟨env,rfl,e,f,g,d,a⟩ i;apply rn;simp[g,d];apply aH.intro<;>intro c<;>simp at c<;>simp[e,f,d,c]
 . rw[Aa l v k c]at a
   refine aH.intro (λb=>?_) (λb=>?_)<;>(try simp at b)<;>(try simp[b]at a)<;>(try simp[d,b])<;>(try exact .done a)
   . subst b
     unfold qC at h;rw[a]at h;exact .done h
   . refine⟨by omega,i _ c ⟨_,rfl,?_,?_,?_,?_,by grind⟩⟩<;>simp[e,f,g]
 . have:k=l.length:=by omega
   subst this;unfold qC at h;rw[a]at h;simp[jy]at h;exact .done h
theorem mI{l v}(a:l.length<1152921504606846976)(h:KF (.val (bool (decide (v∈l)))) σ):az prog m 66 [ints l,int v] σ KF:=by
 refine fs [] Tryz.func66 rfl (by kernel_rfl) ?_;simp[Tryz.f66];refine cf Tryz.func63 rfl (LF a ?_);apply rn;simp;rw[<-decide_eq_decide.2 (lP l v)]at h;exact .done h
theorem sP{l v}(i:l.length<1152921504606846976)(h:KF (.val (int (qC l v))) σ):az prog m 24 [ints l,int v] σ KF:=by
 refine fs [] Tryz.func24 rfl (by kernel_rfl) ?_;simp[Tryz.f24];refine aa.loop l.length (λk s=>∃env,s=⟨env,σ,[],.no⟩/\env 0=ints l/\env 1=int v/\env 5=int k/\jy 0 l v=jy k (l.drop k) v) ⟨_,rfl,by simp⟩ ?_;rintro j k _ n ⟨env,rfl,d,f,e,a⟩ g;apply rn;simp[d,e];apply aH.intro<;>intro c<;>simp at c<;>simp[d,f,e,c]
 . rw[Aa l v k c]at a
   refine aH.intro (λb=>?_) (λb=>?_)<;>(try simp at b)<;>(try simp[b]at a)<;>(try simp[e,b])<;>(try exact .done a)
   . subst b
     unfold qC at h;rw[a]at h;exact .done h
   . refine⟨by omega,g _ c ⟨_,rfl,?_,?_,?_,by grind⟩⟩<;>simp[d,f]
 . have:k=l.length:=by omega
   subst this;unfold qC at h;rw[a]at h;simp[jy]at h;exact .done h
theorem uZ{a b}(r:a.length<1152921504606846976)(hb:b.length<1152921504606846976)(h:KF (.val (bool (decide (a=b)))) σ):az prog m 15 [ints a,ints b] σ KF:=by
 refine fs Wh Tryz.func15 rfl (by kernel_rfl) ?_;simp[Tryz.f15];refine aa.loop a.length (λk s=>∃env,s=⟨env,σ,[],.no⟩/\env 0=ints a/\env 1=ints b/\env 5=int k/\k<=b.length/\a.take k=b.take k) ⟨_,rfl,by simp⟩ ?_;rintro t k _ u ⟨env,rfl,d,i,f,o,n⟩ p;apply rn;simp[d,f];refine uK.intro (λc=>?_) (λc=>?_)<;>(try simp[-Nat.not_lt,-Nat.not_le]at c)<;>(try simp[d,i,f,c])
 . refine aH.intro (λg=>?_) (λg=>?_)<;>(try simp[-Nat.not_lt,-Nat.not_le]at g)<;>(try simp[d,i,f,g,c])
   . apply rn
     simp;apply aH.intro<;>intro j<;>simp at j<;>simp[f,j]
     . have:a≠b:=λe=>by simp_all
       simp[this]at h;exact .done h
     . refine⟨by omega,p _ c ⟨_,rfl,?_,?_,?_,by omega,BD c g n j⟩⟩<;>simp[d,i]
   . have:a≠b:=λe=>by simp_all
     have l:((a.length:Int)==b.length)=false:=by grind
     rw[l];exact .done (by simp_all)
 . have:k=a.length:=by omega
   subst this;rw[ZY]at n;by_cases e:a.length=b.length
   . have:a=b:=by grind
     exact .done (by grind)
   . have:a≠b:=λq=>e (by rw[q])
     have l:((a.length:Int)==b.length)=false:=by grind
     rw[l];exact .done (by grind)
theorem Dt{l}(b:l.length<=1000000000)(h:∀a σ',bx σ σ' a 1 (l.map int)->KF (.val a) σ'):az prog m 50 [ints l] σ KF:=by
 refine fs [] Tryz.func50 rfl (by kernel_rfl) ?_;simp[Tryz.f50];refine jo lay rfl rfl rfl dG rfl dG rfl rA (by decide) (by simp;omega) (σ0:=σ) (es:=[]) (xs:=l.map int) (.empty σ 1) (.inl (.inr ⟨_,rfl⟩)) (by simp) λc σ' d=>?_
 apply rn;simp;exact .done (h _ _ (by simp_all))
theorem xR{l}(b:l.length<=1000000000)(h:KF (.val (ints l)) σ):az prog m 50 [ints l] σ KF:=(Dt b λa c d=>d.thaw h).thaw
theorem Du{n}(h:KF (.val (bool false)) σ):az prog m 197 [int n] σ KF:=by
 refine fs [] Tryz.func197 rfl (by kernel_rfl) ?_;simp[Tryz.f197];exact .done h
def BE(x y:Int):Int:=if x<y then -1 else if y<x then 1 else 0
theorem Fw{x y}(h:KF (.val (int (BE x y))) σ):az prog m 176 [int x,int y] σ KF:=by
 unfold BE at h;refine fs [] Tryz.func176 rfl (by kernel_rfl) ?_;simp[Tryz.f176];refine cf Tryz.func197 rfl (Du ?_);apply rn;simp;refine cf Tryz.func197 rfl (Du ?_);apply rn;simp;refine aH.intro (λa=>?_) (λa=>?_)<;>(try simp[-Int.not_lt,-Int.not_le]at a)<;>(try simp[a]at h)<;>(try simp[a])<;>(try exact .done h);refine aH.intro (λb=>?_) (λb=>?_)<;>(try simp[-Int.not_lt,-Int.not_le]at b)<;>(try simp[b]at h)<;>(try simp[b])<;>(try exact .done h)
theorem yX{e places}(w:0<=places/\places<1152921504606846976)(x:e.marks.length<1152921504606846976)(h:KF (.val (int (cH places e))) σ):az prog m 156 [bn e,int places] σ KF:=by
 unfold cH at h;refine fs [] Tryz.func156 rfl (by kernel_rfl) ?_;simp[Tryz.f156];refine cf Tryz.func155 rfl (eF ?_);apply rn;simp;refine aH.intro (λi=>?_) (λi=>?_)<;>(try simp at i)<;>(try simp[i]at h)<;>(try simp[i])<;>(try exact .done h);refine⟨by omega,?_⟩;refine cf Tryz.func155 rfl (eF ?_);apply rn;simp;refine aH.intro (λj=>?_) (λj=>?_)<;>(try simp at j)<;>(try simp[j]at h)<;>(try simp[j])<;>(try exact .done h);refine cf Tryz.func155 rfl (eF ?_);apply rn;simp;refine aH.intro (λl=>?_) (λl=>?_)<;>(try simp at l)<;>(try simp[l]at h)<;>(try simp[l])<;>(try exact .done h);refine aa.loop e.marks.length (λk s=>∃env,s=⟨env,σ,[],.no⟩/\env 2=.cp (bn e) 0/\env 22=ints e.marks/\env 23=int e.marks.length/\env 24=int k/\sN none e.marks=sN (if k=0 then none else e.marks[k-1]?) (e.marks.drop k)) ⟨_,rfl,by simp⟩ ?_
 rintro y k _ z ⟨env,rfl,n,f,g,b,a⟩ r;apply rn;simp[g,b];apply aH.intro<;>intro o<;>simp at o<;>simp[n,f,b,o]
 . rw [Pd _ k o]at a
   refine cf Tryz.func155 rfl (eF ?_);apply rn;simp;refine aH.intro (λc=>?_) (λc=>?_)<;>(try simp at c)<;>(try simp[c]at a)<;>(try simp[c])<;>(try exact .done a)
   . refine uK.intro (λd=>?_) (λd=>?_)<;>(try simp at d)<;>(try simp[d]at a)<;>(try simp[n,b,d])<;>(try exact .done a)
     . have t:(k:Int)-1=((k-1:Nat):Int):=by omega
       have q:k-1<e.marks.length:=by omega
       have u:¬k=0:=by omega
       simp[t,q];repeat refine⟨by omega,?_⟩
       try simp[q,u,Ha]at a
       refine aH.intro (λp=>?_) (λp=>?_)<;>(try simp at p)<;>(try simp[p]at a)<;>(try simp[b,p])<;>(try exact .done a)
       . simp[a]at h
         exact .done h
       . refine⟨by omega,r _ o ⟨_,rfl,by simp[n],by simp[f],by simp[g],by simp,?_⟩⟩
         grind
     . have v:k=0:=by omega
       subst v;simp[Ha]at a
       simp_all
   . simp[a]at h
     exact .done h
 . have:k=e.marks.length:=by omega
   subst this;simp[sN]at a;simp[a]at h;refine cf Tryz.func155 rfl (eF ?_);apply rn;simp;refine aH.intro (λc=>?_) (λc=>?_)<;>(try simp at c)<;>(try simp[c]at h)<;>(try simp[n,c])<;>(try exact .done h);refine cf Tryz.func155 rfl (eF ?_);apply rn;simp;refine aH.intro (λd=>?_) (λd=>?_)<;>(try simp at d)<;>(try simp[d]at h)<;>(try simp[d])<;>(try exact .done h)
theorem kP{n}:∀{r},ig n r=0->∀l∈r,l.length=n/\∀x∈l,bu x 0 9=true
 |[],_,l,b=>by simp at b
 | a :: r,h,l,b=>by
   unfold ig at h;split at h
   . next c=>
     rcases aae.1 b with rfl|b
     . unfold lO at c
       grind
     . exact kP h l b
   omega
theorem nB{r i j}  hi  (hj:j<r[i].length):rd r i j=r[i][j]:=by simp[rd,zG,hi,hj]
theorem dB{a lo hi}(h:bu a lo hi=true):lo<=a/\a<=hi:=by simpa[bu]using h
theorem yY{r}(hr:r.length<1152921504606846976)(hl:∀l∈r,l.length<1152921504606846976)(h:KF (.val (int (fS r))) σ):az prog m 154 [rows r] σ KF:=by
 unfold fS at h;refine fs Uy Tryz.func154 rfl (by kernel_rfl) ?_
 simp[Tryz.f154];refine aH.intro (λV=>?_) (λV=>?_)<;>simp at V<;>simp[V]
 . rw[ZS (show r.length<1 by omega)]at h
   exact .done h
 refine aH.intro (λW=>?_) (λW=>?_)<;>simp at W<;>simp[W]
 . have X:¬r.length<1:=by omega
   have P:3<r.length:=by omega
   rw[ZM (show ¬r.length<1 by omega),ZS P]at h
   exact .done h
 have X:¬r.length<1:=by omega
 have P:¬3<r.length:=by omega
 rw[ZM X,ZM P]at h;refine aa.loop r.length (λk s=>∃env,s=⟨env,σ,[],.no⟩/\env 0=rows r/\env 19=rows r/\env 20=int r.length/\env 21=int k/\ig r.length r=ig r.length (r.drop k)) ⟨_,rfl,by simp⟩ ?_
 rintro c0 k _ hk ⟨env,rfl,a,n,o,g,v⟩ Q
 apply rn;simp[o,g];apply aH.intro<;>intro H<;>simp at H<;>simp[a,n,g,H]
 . rw [Fv _ _ k H]at v
   obtain⟨l,I⟩:∃l,l=r[k]:=⟨_,rfl⟩;simp only[<-I]at v ⊢;have av:l.length<1152921504606846976:=hl l (by rw[I];exact zA H)
   refine aH.intro (λb=>?_) (λb=>?_)<;>simp at b<;>simp[b]
   . have w:l.length≠r.length:=λe=>b (by rw[e])
     simp[lO,w]at v;simp[v]at h;exact .done h
   have w:l.length=r.length:=by omega
   refine aa.loop l.length (λj s=>∃env,s=⟨env,σ,[],.no⟩/\env 0=rows r/\env 19=rows r/\env 20=int r.length/\env 21=int k/\env 30=ints l/\env 31=int l.length/\env 32=int j/\(l.take j).all (bu · 0 9)=true) ⟨_,rfl,by simp[a,n,o,g,w]⟩ ?_
   clear a n o g
   rintro c1 j _ R ⟨env,rfl,a,n,o,g,J,K,B,x⟩ C
   apply rn;simp[K,B];apply aH.intro<;>intro p<;>simp at p<;>simp[g,J,B,p]
   . refine cf Tryz.func155 rfl (eF ?_)
     apply rn;simp;refine aH.intro (λu=>?_) (λu=>?_)<;>(try simp at u)<;>(try simp[B,u])
     . refine⟨by omega,C _ p ⟨_,rfl,by simp[a],by simp[n],by simp[o],by simp[g],by simp[J],by simp[K],by simp,?_⟩⟩
       rw[zD p,List.all_append,x];simp[u]
     . have:l.all (bu · 0 9)=false:=by
        rw[List.all_eq_false];exact⟨_,zA p,by simp[u]⟩
       simp[lO,w,this]at v;simp[v]at h;exact .done h
   . have:j=l.length:=by omega
     subst this;rw[ZY]at x;have Y:lO r.length l=0:=by unfold lO;rw[ZM (by simp[w]),ZS x]
     rw[ZS Y]at v;refine⟨by omega,Q _ H ⟨_,rfl,?_,?_,?_,?_,v⟩⟩<;>simp[a,n,o]
 have:k=r.length:=by omega
 subst this;simp[ig]at v;rw[ZM (by omega)]at h
 clear Q;have al:∀(i:Nat) (F:i<r.length),r[i].length=r.length:=λi F=>(kP v _ (zA F)).1
 have L:∀(i:Nat) (F:i<r.length) (j:Nat) (R:j<r[i].length),0<=r[i][j]/\r[i][j]<=9:=λi F j R=>dB ((kP v _ (zA F)).2 _ (zA R))
 refine aa.loop r.length (λi s=>∃env,s=⟨env,σ,[],.no⟩/\env 0=rows r/\env 41=rows r/\env 42=int r.length/\env 43=int i/\∀i'<i,∀j<r.length,dP r i' j=false) ⟨_,rfl,by simp[a]⟩ ?_
 clear a n o g
 rintro c1 i _ F ⟨env,rfl,a,f,d,c,Z⟩ Q
 apply rn;simp[d,c];apply aH.intro<;>intro b<;>simp at b<;>simp[a,c,b]
 . refine aa.loop r.length (λj s=>∃env,s=⟨env,σ,[],.no⟩/\env 0=rows r/\env 41=rows r/\env 42=int r.length/\env 43=int i/\env 8=int i/\env 46=rows r/\env 47=int r.length/\env 48=int j/\∀D<j,dP r i D=false) ⟨_,rfl,by simp[a,f,d,c]⟩ ?_
   clear a f d c
   rintro c2 j _ R ⟨env,rfl,a,f,d,c,z,y,t,q,ax⟩ C
   apply rn;simp[t,q];apply aH.intro<;>intro p<;>simp at p<;>simp[a,c,z,q,p]
   . have q1 : i<r[i].length:=by grind
     have G:j<r[i].length:=by grind
     have q3:i<r[j].length:=by grind
     simp[z,b,q1];refine NX.intro (λu=>?_) (λu=>?_)<;>(try simp at u)<;>(try simp[a,z,u,b,p,G,q3])
     . apply rn
       simp;apply aH.intro<;>intro S<;>simp at S<;>simp[a,S]
       ·
        have hb:dP r i j=true:=by unfold dP;rw[nB b G,nB p q3];simp[S]
        have:((List.range r.length).any λi=>(List.range r.length).any λj=>dP r i j)=true:=aar.2 ⟨i,ZN.2 b,aar.2 ⟨j,ZN.2 p,hb⟩⟩
        rw[ZS this]at h;exact .done h
       . refine aa.loop r.length (λk s=>∃env,s=⟨env,σ,[],.no⟩/\env 0=rows r/\env 41=rows r/\env 42=int r.length/\env 43=int i/\env 8=int i/\env 46=rows r/\env 47=int r.length/\env 48=int j/\env 9=int j/\env 76=rows r/\env 77=int r.length/\env 78=int k/\∀M<k,¬rd r i j>rd r i M+rd r M j) ⟨_,rfl,by simp[a,f,d,c,z,y,t,q]⟩ ?_
         clear a f d c z y t q
         rintro c3 k _ hk ⟨env,rfl,a,f,d,c,z,y,t,q,h9,a7,N,E,a8⟩ a9
         apply rn;simp[N,E];apply aH.intro<;>intro A<;>simp at A<;>simp[a,z,q,E,A]
         . have T:k<r[i].length:=by grind
           have U:j<r[k].length:=by grind
           have b1:=L i b k T;have b2:=L k A j U;have f1:-9223372036854775808<=r[i][k]+r[k][j]:=by omega
           have f2:r[i][k]+r[k][j]<=9223372036854775807:=by omega
           simp[a,z,h9,b,A,G,T,U,f1,f2];apply rn;simp;apply aH.intro<;>intro O<;>simp at O<;>simp[E,O]
           . have hb:dP r i j=true:=by
              unfold dP;have:((List.range r.length).any λk=>decide (rd r i j>rd r i k+rd r k j))=true:=aar.2 ⟨k,ZN.2 A,by rw[nB b G,nB b T,nB A U];grind⟩
              grind
             have:((List.range r.length).any λi=>(List.range r.length).any λj=>dP r i j)=true:=aar.2 ⟨i,ZN.2 b,aar.2 ⟨j,ZN.2 p,hb⟩⟩
             rw[ZS this]at h;exact .done h
           . refine⟨by omega,a9 _ A ⟨_,rfl,by simp[a],by simp[f],by simp[d],by simp[c],by simp[z],by simp[y],by simp[t],by simp[q],by simp[h9],by simp[a7],by simp[N],by simp,λM ay=>?_⟩⟩
             by_cases e:M=k
             . subst e
               rw[nB b G,nB b T,nB A U];omega
             . exact a8 M (by omega)
         . have:k=r.length:=by omega
           subst this;refine⟨by omega,C _ p ⟨_,rfl,by simp[a],by simp[f],by simp[d],by simp[c],by simp[z],by simp[y],by simp[t],by simp,λD ad=>?_⟩⟩
           by_cases e:D=j
           . subst e
             unfold dP
             have X:((List.range r.length).any λk=>decide (rd r i D>rd r i k+rd r k D))=false:=by
              rw[aaZ]
              grind
             have P:rd r i i=0:=by rw[nB b q1];exact u
             have e3:rd r i D=rd r D i:=by rw[nB b G,nB p q3];exact S
             grind
           grind
     . have e:(r[i][i] !=0)=true:=by simp[u]
       simp[e];apply rn;simp
       have hb:dP r i j=true:=by unfold dP;rw[nB b q1];simp[u]
       have:((List.range r.length).any λi=>(List.range r.length).any λj=>dP r i j)=true:=aar.2 ⟨i,ZN.2 b,aar.2 ⟨j,ZN.2 p,hb⟩⟩
       rw[ZS this]at h;exact .done h
   . have:j=r.length:=by omega
     subst this;refine⟨by omega,Q _ b ⟨_,rfl,by simp[a],by simp[f],by simp[d],by simp,λi' aC j ad=>?_⟩⟩
     grind
 . have:i=r.length:=by omega
   subst this
   have:((List.range r.length).any λi=>(List.range r.length).any λj=>dP r i j)=false:=by grind
   rw[this]at h;exact .done (by grind)
theorem Dv{f}(g:f.Fits)(h:KF (.val (int (check f))) σ):az prog m 112 [cM f] σ KF:=by
 unfold check at h;have z:=g.roads;have x:=g.aD;refine fs [] Tryz.func112 rfl (by kernel_rfl) ?_;simp[Tryz.f112];refine cf Tryz.func154 rfl (yY g.roads g.row ?_);apply rn;simp;refine aH.intro (λn=>?_) (λn=>?_)<;>(try simp at n)<;>(try simp[n]at h)<;>(try simp[n])<;>(try exact .done h);refine cf Tryz.func155 rfl (eF ?_);apply rn;simp;refine uK.intro (λo=>?_) (λo=>?_)<;>(try simp at o)<;>(try simp[o]at h)<;>(try simp[o])<;>(try exact .done h);refine cf Tryz.func155 rfl (eF ?_);apply rn;simp;refine aH.intro (λp=>?_) (λp=>?_)<;>(try simp at p)<;>(try simp[p]at h)<;>(try simp[p])<;>(try exact .done h);refine aH.intro (λq=>?_) (λq=>?_)<;>(try simp[-Int.not_lt,-Int.not_le]at q)<;>(try simp[q]at h)<;>(try simp[q])<;>(try exact .done h)
 refine cf Tryz.func155 rfl (eF ?_);apply rn;simp;refine uK.intro (λr=>?_) (λr=>?_)<;>(try simp at r)<;>(try simp[r]at h)<;>(try simp[r])<;>(try exact .done h);refine cf Tryz.func155 rfl (eF ?_);apply rn;simp;refine aH.intro (λt=>?_) (λt=>?_)<;>(try simp at t)<;>(try simp[t]at h)<;>(try simp[t])<;>(try exact .done h);refine aH.intro (λu=>?_) (λu=>?_)<;>(try simp[-Int.not_lt,-Int.not_le]at u)<;>(try simp[u]at h)<;>(try simp[u])<;>(try exact .done h);refine aa.loop f.aD.length (λk s=>∃env a,s=⟨env,a,[],.no⟩/\σ.Le a/\env 1=.cp (cM f) 0/\env 47=iZ f.aD/\env 48=int f.aD.length/\env 49=int k/\fR (cH f.roads.length) f.aD=fR (cH f.roads.length) (f.aD.drop k)) ⟨_,_,rfl,ab.le_refl _,by simp⟩ ?_;rintro A k _ B ⟨env,a,rfl,c,w,i,j,d,e⟩ y;apply rn;simp[j,d];apply aH.intro<;>intro l<;>simp at l<;>simp[i,d,l]
 . rw[Dr _ _ k l]at e
   refine bI.intro λb hb=>?_
   simp[w];refine cf Tryz.func156 rfl (yX ⟨by omega,by omega⟩ (g.marks _ (zA l)) ?_);apply rn;simp;refine aH.intro (λv=>?_) (λv=>?_)<;>(try simp at v)<;>(try simp[v]at e)<;>(try simp[d,v])<;>(try exact .done e)
   . rw[e]at h
     exact .less (ab.iN c hb) (.done h)
   . refine⟨by omega,y _ l ⟨_,_,rfl,ab.iN c hb,?_,?_,?_,?_,e⟩⟩<;>simp[w,i,j]
 . have:k=f.aD.length:=by omega
   subst this;simp[fR]at e;rw[e]at h;exact .less c (.done h)
structure vN(σ:ab)  b mb   σ' :Prop where
 hb:σ b=none
 B7:σ mb=none
 ne:b≠mb
 eq:σ'=(σ.set mb (mapA .u8 [])).set b (.part (bG 6))
def LG(f:Fr)(σ:ab):ach:=λr a=>∃b mb,r=.val (.ref b 0)/\σ b=none/\σ mb=none/\b≠mb/\a=(σ.set mb (mapA .u8 [])).set b (.cells [iZ f.aD,rows f.roads,int f.aP,int f.dH,int f.cL,int f.aW,.lit (.int .i32 0),.lit (.int .u32 0),.map mb])
theorem Fx{f}(h:∀b mb σ',vN σ b mb σ'->KF (.val (lN b mb f 0)) σ'):az prog m 157 [cM f] σ KF:=by
 refine az.share (KF0:=LG f σ) ?_ ?_
 . refine az.start lay [6] [] 1 Tryz.func157 rfl rfl (by rfl) (by kernel_rfl) ?_
   simp[Tryz.f157];refine uM (HI .u8) rfl λmb B7=>?_
   refine aa.run lay [6] ?_;simp[aG];refine bI.intro λb hb=>?_
   obtain⟨d,e,hb⟩:=ab.aM hb;simp;exact .done ⟨b,mb,rfl,hb,B7,d,rfl⟩
 . rintro r σ' ⟨b,mb,rfl,hb,B7,a,rfl⟩
   refine .inr ⟨b,_,[6,7],bG 6,rfl,ab.ai _ _ _,λi v c=>?_,λi=>?_,?_⟩
   . unfold bG at c
     split at c
     . simp_all
     simp_all
   . unfold bG
     grind
   . exact h b mb _ ⟨hb,B7,a,by simp⟩
def ij(f:Fr)(l:acy):Int:=if check f≠0 then check f else if l.all (bu · 0 (f.aD.length-1))then 0 else 3
theorem Hb{f l}(o:f.Fits)(v:l.length<1152921504606846976)(h:ij f l≠0->KF (.val (.cu [.lit (.pointer none),int (ij f l)])) σ)
 (q:ij f l=0->∀b mb σ',vN σ b mb σ'->KF (.val (.cu [lN b mb f 0,int 0])) σ'):az prog m 113 [cM f,ints l] σ KF:=by
 have r:=o.aD;refine fs [] Tryz.func113 rfl (by kernel_rfl) ?_
 simp[Tryz.f113];refine cf Tryz.func112 rfl (Dv o ?_);apply rn;simp;refine aH.intro (λi=>?_) (λi=>?_)<;>simp at i<;>simp[i]
 . have:ij f l=check f:=by unfold ij;omega
   rw[this]at h;exact .done (h i)
 refine aa.loop l.length (λk s=>∃env,s=⟨env,σ,[],.no⟩/\env 2=.cp (cM f) 0/\env 14=ints l/\env 15=int l.length/\env 16=int k/\(l.take k).all (bu · 0 (f.aD.length-1))=true) ⟨_,rfl,by simp⟩ ?_
 rintro w k _ x ⟨env,rfl,p,d,g,c,a⟩ t
 apply rn;simp[g,c];apply aH.intro<;>intro j<;>simp at j<;>simp[p,d,c,j]
 . refine⟨by omega,?_⟩
   refine cf Tryz.func155 rfl (eF ?_);apply rn;simp;refine aH.intro (λn=>?_) (λn=>?_)<;>(try simp at n)<;>(try simp[c,n])
   . refine⟨by omega,t _ j ⟨_,rfl,by simp[p],by simp[d],by simp[g],by simp,?_⟩⟩
     rw[zD j,List.all_append,a];simp[n]
   . have e:l.all (bu · 0 (f.aD.length-1))=false:=by
      grind
     have:ij f l=3:=by unfold ij;simp_all
     rw[this]at h;exact .done (h (by simp))
 . have:k=l.length:=by omega
   subst this;rw[ZY]at a;have:ij f l=0:=by unfold ij;simp_all
   refine cf Tryz.func157 rfl (Fx λb mb σ' u=>?_)
   apply rn;simp;exact .done (q this b mb σ' u)
theorem UN{a}(h:KF (.val (bool false)) σ):az prog m 111 [.lit .nilIface,a] σ KF:=by
 refine fs [] Tryz.func111 rfl (by kernel_rfl) ?_;simp[Tryz.f111];refine gN lay rfl G5 rfl (.inl ⟨rfl,rfl⟩) (.inl ⟨rfl,rfl⟩) ?_;apply rn;simp;exact .done h
end
open Go.cC Go.Conc
set_option maxRecDepth 4000
variable{m:Mo}{σ:ab}{KF:ach}
theorem qQ(first:acy)  others   k   h :iH (first.take (k+1)) others=iH (first.take k) others++if others.all (λl=>decide (first[k]∈l))then[first[k]]else[]:=by
 unfold iH;rw[zD h,aaT]
 grind
theorem BF  first   others :(iH first others).length<=first.length:=abw _ _
theorem Iy{first others sp f}(B:first.length<=1000000000)(C:others.length<1152921504606846976)(u:∀l∈others,l.length<1152921504606846976)(h:KF (.val (ints (iH first others))) σ):az prog m 253 [.sl 1 (first.map int) sp,.sl 1 (others.map ints) f] σ KF:=by
 refine fs [] Tryz.func253 rfl (by kernel_rfl) ?_;simp[Tryz.f253];refine aa.loop first.length (λk s=>∃env e,s=⟨env,e,[],.no⟩/\env 0=.sl 1 (first.map int) sp/\env 1=.sl 1 (others.map ints) f/\env 10=.sl 1 (first.map int) sp/\env 11=int first.length/\env 12=int k/\Tok σ e (env 5) 1 ((iH (first.take k) others).map int)) ⟨_,_,rfl,by simp,by simp,by simp,by simp,by simp,.nil σ 1⟩ ?_
 rintro D k _ E ⟨env,e,rfl,n,g,c,d,b,a⟩ x;apply rn;simp[d,b];have hlen:=BF (first.take k) others;rw[aaP]at hlen;apply aH.intro<;>intro o<;>simp at o<;>simp[g,c,b,o]
 . refine aa.loop others.length (λj s=>∃env,s=⟨env,e,[],.no⟩/\env 0=.sl 1 (first.map int) sp/\env 1=.sl 1 (others.map ints) f/\env 10=.sl 1 (first.map int) sp/\env 11=int first.length/\env 12=int k/\Tok σ e (env 5) 1 ((iH (first.take k) others).map int)/\env 7=int first[k]/\env 16=.sl 1 (others.map ints) f/\env 17=int others.length/\env 18=int j/\∀l∈others.take j,first[k]∈l) ⟨_,rfl,by simp[n,g,c,d,b,a]⟩ ?_
   clear n g c d b a;rintro F j _ G ⟨env,rfl,n,g,c,d,b,a,y,p,q,i,r⟩ v;apply rn;simp[q,i];apply aH.intro<;>intro t<;>simp at t<;>simp[y,p,i,t]
   . refine cf Tryz.func66 rfl (mI (u _ (zA t)) ?_)
     apply rn;simp;apply aH.intro<;>intro z<;>simp at z<;>simp[b,i,z]
     . refine⟨by omega,v _ t ⟨_,rfl,by simp[n],by simp[g],by simp[c],by simp[d],by simp[b],by simpa using a,by simp[y],by simp[p],by simp[q],by simp,λl u=>?_⟩⟩
       rw[zD t,ZQ,lb]at u
       grind
     . refine⟨by omega,x _ o ⟨_,_,rfl,by simp[n],by simp[g],by simp[c],by simp[d],by simp,?_⟩⟩
       have:others.all (λl=>decide (first[k]∈l))=false:=by grind
       rw[qQ _ _ _ o,this];simpa using a
   . have:j=others.length:=by omega
     subst this;rw[ZY]at r;refine aN lay rfl rfl rfl dG rfl dG rfl rA (by decide) (by simp;omega) (σ0:=σ) (es:=(iH (first.take k) others).map int) (xs:=[int first[k]]) (by simpa using a) (.inr ⟨_,rfl⟩) λH A w=>?_
     apply rn;simp[b];refine⟨by omega,x _ o ⟨_,_,rfl,by simp[n],by simp[g],by simp[c],by simp[d],by simp,?_⟩⟩;have:others.all (λl=>decide (first[k]∈l))=true:=by grind
     rw[qQ _ _ _ o,this];simpa using w
 . have:k=first.length:=by omega
   subst this;rw[ZY]at a;exact .na a.W (.less a.1 (.done h))
structure Fr.Good(f:Fr):Prop where
 fits:f.Fits
 fr:0<=f.aP/\f.aP<=3
 to:0<=f.dH/\f.dH<=3
 le:f.aP<=f.dH
 cL:1<=f.cL/\f.cL<=6
 aW:1<=f.aW/\f.aW<=6
 tZ:f.aD.length<=6
 u6:∀e∈f.aD,cH f.roads.length e=0
 LH:fS f.roads=0
theorem qR  g :∀{l},fR g l=0->∀e∈l,g e=0
 |[],_,e,he=>by simp at he
 | a ::l,h,e,he=>by
   unfold fR at h;split at h
   . next b=>
     rcases aae.1 he with rfl|he
     . exact b
     . exact qR g h e he
   omega
theorem Fr.pJ{f}(c:f.Fits)(h:check f=0):f.Good:=by
 unfold check at h;split at h
 . omega
 next d=>
 split at h
 . cases h
 next a=>
 split at h
 . cases h
 next e=>
 split at h
 . cases h
 next b=>
 split at h
 . cases h
 next g=>
 simp only[Bool.not_eq_false,zj]at a b;exact⟨c,dB a.1,dB a.2,by omega,dB b.1,dB b.2,by omega,qR _ h,by omega⟩
theorem oR{p e}(h:cH p e=0):(0<=e.hour/\e.hour<=72)/\(0<=e.place/\e.place<=p-1)/\(0<=e.cR/\e.cR<=5)/\(0<=e.bs/\e.bs<=30)/\(0<=e.jD/\e.jD<=2)/\sN none e.marks=0:=by
 unfold cH at h;split at h
 . cases h
 next a=>
 split at h
 . cases h
 next b=>
 split at h
 . cases h
 next c=>
 split at h
 . omega
 next g=>
 split at h
 . cases h
 next d=>
 split at h
 . cases h
 next f=>
 simp only[Bool.not_eq_false]at a b c d f;exact⟨dB a,dB b,dB c,dB d,dB f,by omega⟩
theorem Ab{f}(a:f.Good)  e :(ja f e).length<=4:=by
 unfold ja;have:=a.fr;have:=a.to
 grind
theorem Ac{f}(a:f.Good)  e :(bS f e).length<=5:=by
 unfold bS;have:=Ab a e
 grind
theorem LI{f e}(h:e.jD≠0):ja f e=(List.range (f.dH-f.aP+1).toNat).map λi:Nat=>e.bs-f.dH+(i:Int):=ZS h
theorem Fy{b mb f l}(H:f.Good)(Y:l≠[])(hl:l.length<=1000000)(hb:∀n∈l,0<=n/\n<f.aD.length)(h:KF (.val (ints (fX f l))) σ):az prog m 252 [lN b mb f 0,ints l] σ KF:=by
 have h6:=H.tZ;have al:=H.fr;have av:=H.to;have ax:=H.le;refine fs UK Tryz.func252 rfl (by kernel_rfl) ?_
 simp[Tryz.f252];refine aa.loop l.length (λk s=>∃env A,s=⟨env,A,[],.no⟩/\env 0=lN b mb f 0/\env 11=ints l/\env 12=int l.length/\env 13=int k/\Tok σ A (env 5) 1 ((l.take k).map λn=>ints (bS f (aX f n)))) ⟨_,_,rfl,by simp,by simp,by simp,by simp,.nil σ 1⟩ ?_
 rintro c0 k _ hk ⟨env,A,rfl,C,p,g,o,d⟩ S
 rcases aap k l.length with g1|g1
 . obtain ⟨L,n1⟩:=hb _ (zA g1)
   have n2:l[k].toNat<f.aD.length:=by omega
   obtain⟨e,he⟩:∃e,e=f.aD[l[k].toNat]:=⟨_,rfl⟩;have Z:aX f l[k]=e:=by simp[aX,zG,n2,he]
   have ay:=oR (H.u6 e (by simp_all))
   have t:(l.take (k+1)).map (λn=>ints (bS f (aX f n)))=(l.take k).map (λn=>ints (bS f (aX f n)))++[ints (bS f e)]:=by rw[zD g1,aab];simp[Z]
   apply rn;simp[C,p,g,o,g1,L,n2,<-he];refine bI.intro λc hc=>?_
   simp
   have a7:σ c=none:=by
    cases q:σ c with
    |none=>rfl
    |some x=>rw[d.1 c x q]at hc;cases hc
   have B:Tok σ (A.set c (.cells [int e.hour,int e.place,int e.cR,ints e.marks,int e.bs,int e.jD])) (env 5) 1 ((l.take k).map λn=>ints (bS f (aX f n))):=d.beside a7 (λq=>by obtain⟨_,x,hx⟩:=d.aR q;grind)
   have G:(A.set c (.cells [int e.hour,int e.place,int e.cR,ints e.marks,int e.bs,int e.jD])) c=some (.cells [int e.hour,int e.place,int e.cR,ints e.marks,int e.bs,int e.jD]):=ab.ai _ _ _;generalize A.set c (.cells [int e.hour,int e.place,int e.cR,ints e.marks,int e.bs,int e.jD])=D at B G;refine aH.intro (λM=>?_) (λM=>?_)<;>simp at M<;>simp[M]
   . have f1:-9223372036854775808<=f.dH-f.aP/\f.dH-f.aP<=9223372036854775807:=by omega
     have f2:-9223372036854775808<=f.dH-f.aP+1/\f.dH-f.aP+1<=9223372036854775807:=by omega
     simp[C,f1.1,f1.2,f2.1,f2.2];apply rn;simp;obtain⟨a5,I⟩:∃a,a=env 5:=⟨_,rfl⟩;rw[<-I]at B;obtain⟨cnt,O⟩:∃cnt:Nat,(cnt:Int)=f.dH-f.aP+1:=⟨(f.dH-f.aP+1).toNat,by omega⟩
     have aC:cnt<=4:=by omega
     have a8:ja f e=(List.range cnt).map λi:Nat=>e.bs-f.dH+(i:Int):=by rw[LI M];grind
     refine aa.loop cnt (λj s=>∃env J,s=⟨env,J,[],.no⟩/\env 0=lN b mb f 0/\env 11=ints l/\env 12=int l.length/\env 13=int k/\env 5=a5/\env 8=.ref c 0/\env 41=int cnt/\env 42=int j/\Tok D J (env 9) 1 (((List.range j).map λi:Nat=>e.bs-f.dH+(i:Int)).map int)) ⟨_,_,rfl,by simp[C,p,g,o,<-I,O,Tok.nil]⟩ ?_
     clear C p g o d I
     rintro c1 j _ hj ⟨env,J,rfl,C,p,g,o,T,N,E,F,u⟩ a9
     have v:=u.1 _ _ G
     rcases aap j cnt with g3|g3
     . have f3:-9223372036854775808<=e.bs-f.dH/\e.bs-f.dH<=9223372036854775807:=by omega
       have f4:-9223372036854775808<=e.bs-f.dH+j/\e.bs-f.dH+j<=9223372036854775807:=by omega
       apply rn;simp[C,N,E,F,g3,v,f3.1,f3.2,f4.1,f4.2];refine aN lay rfl rfl rfl dG rfl dG rfl rA (by decide) (by simp only[ZZ,abr,aao,aaN];omega) (σ0:=D) (es:=((List.range j).map λi:Nat=>e.bs-f.dH+(i:Int)).map int) (xs:=[int (e.bs-f.dH+j)]) (by simpa using u) (.inr ⟨_,rfl⟩) λa' P w=>?_
       apply pg;simp;apply rn;simp[F];refine⟨by omega,a9 _ g3 ⟨_,_,rfl,by simp[C],by simp[p],by simp[g],by simp[o],by simp[T],by simp[N],by simp[E],by simp,?_⟩⟩
       rw[aai,aab,aab];simpa using w
     . have:j=cnt:=by omega
       subst this;rw[<-a8]at u;have aE:=Ab H e;have U:Wl [env 9,int e.bs] [ints (ja f e),int e.bs]:=.cons u.W (.cons (.refl _) .nil)
       by_cases V:e.jD=1
       . refine aa.JM 9 u.W ?_
         have y:bS f e=ja f e:=ZM λq=>q.1 V
         apply rn;simp[T,N,E,F,v,V];refine aN lay rfl rfl rfl oX rfl oX rfl dG (by decide) (by simp;omega) (σ0:=σ) (es:=(l.take k).map λn=>ints (bS f (aX f n))) (xs:=[ints (bS f e)]) (by simpa using B.up u.1) (.inr ⟨_,by rw[y];simp;rfl⟩) λa4 K z=>?_
         apply rn;simp[o];refine⟨by omega,S _ g1 ⟨_,_,rfl,by simp[C],by simp[p],by simp[g],by simp,?_⟩⟩
         rw[t];simpa using z
       . have Q:(e.jD !=1)=true:=by simp[V]
         by_cases X:e.bs∈ja f e
         . have y:bS f e=ja f e:=ZM λq=>q.2 X
           apply rn;simp[N,E,F,v,Q];refine bU Tryz.func66 rfl rfl U (mI (by omega) ?_)
           refine aa.JM 9 (a':=ints (ja f e)) (by simpa using u.W) ?_
           apply rn;simp[T,X];refine aN lay rfl rfl rfl oX rfl oX rfl dG (by decide) (by simp;omega) (σ0:=σ) (es:=(l.take k).map λn=>ints (bS f (aX f n))) (xs:=[ints (bS f e)]) (by simpa using B.up u.1) (.inr ⟨_,by rw[y];simp;rfl⟩) λa4 K z=>?_
           apply rn;simp[o];refine⟨by omega,S _ g1 ⟨_,_,rfl,by simp[C],by simp[p],by simp[g],by simp,?_⟩⟩
           rw[t];simpa using z
         . have y:bS f e=ja f e++[e.bs]:=ZS ⟨V,X⟩
           apply rn;simp[N,E,F,v,Q];refine bU Tryz.func66 rfl rfl U (mI (by omega) ?_)
           apply rn;simp[N,X,v];refine aN lay rfl rfl rfl dG rfl dG rfl rA (by decide) (by simp;omega) (σ0:=D) (es:=(ja f e).map int) (xs:=[int e.bs]) (by simpa using u) (.inr ⟨_,rfl⟩) λa' P w=>?_
           refine aa.JM 74 (a':=AV.sl 1 ((ja f e).map int++[int e.bs]) .any) (by simpa using w.W) ?_
           apply rn;simp[T];refine aN lay rfl rfl rfl oX rfl oX rfl dG (by decide) (by simp;omega) (σ0:=σ) (es:=(l.take k).map λn=>ints (bS f (aX f n))) (xs:=[ints (bS f e)]) (by simpa using B.up w.1) (.inr ⟨_,by rw[y];simp;rfl⟩) λa4 K z=>?_
           apply rn;simp[o];refine⟨by omega,S _ g1 ⟨_,_,rfl,by simp[C],by simp[p],by simp[g],by simp,?_⟩⟩
           rw[t];simpa using z
   . have y:bS f e=[e.bs]:=by
      simp[bS,ja,M]
     simp[G,M];have U:Wl [AV.lit (.slice none 0 0),int e.bs] [ints [],int e.bs]:=.cons (gn 1) (.cons (.refl _) .nil);refine bU Tryz.func66 rfl rfl U (mI (by simp) ?_)
     apply rn;simp[G];refine aN lay rfl rfl rfl dG rfl dG rfl rA (by decide) (by simp) (σ0:=D) (es:=[]) (xs:=[int e.bs]) (by simpa using Tok.nil D 1) (.inr ⟨_,rfl⟩) λa' P w=>?_
     refine aa.JM 74 (a':=AV.sl 1 [int e.bs] .any) (by simpa using w.W) ?_
     apply rn;simp;refine aN lay rfl rfl rfl oX rfl oX rfl dG (by decide) (by simp;omega) (σ0:=σ) (es:=(l.take k).map λn=>ints (bS f (aX f n))) (xs:=[ints (bS f e)]) (by simpa using B.up w.1) (.inr ⟨_,by rw[y];simp;rfl⟩) λa4 K z=>?_
     apply rn;simp[o];refine⟨by omega,S _ g1 ⟨_,_,rfl,by simp[C],by simp[p],by simp[g],by simp,?_⟩⟩
     rw[t];simpa using z
 . have:k=l.length:=by omega
   subst this;rw[ZY]at d;refine aa.JM 5 d.W ?_;have R:0<l.length:=List.length_pos_iff.2 Y;apply rn;simp[g,o,R];refine wG lay rfl oX rfl dG (es:=l.map λn=>ints (bS f (aX f n))) (sp:=.any) (l:=1) (h:=l.length) ?_ (λcap ad=>⟨rfl,⟨rfl,by simp⟩,⟨_,rfl⟩,by omega⟩) (by simp) ?_
   . simp
   obtain⟨L,r,rfl⟩:∃L r,l=L::r:=by
    cases l with
    |nil=>simp_all
    |cons a r=>simp_all
   apply pg;simp
   have e:List.take r.length (List.map (λn=>ints (bS f (aX f n))) r)=(r.map λn=>bS f (aX f n)).map ints:=by
    rw[aaH (by simp)]
    simp
   rw[e];have hlen:=Ac H (aX f L);refine cf Tryz.func253 rfl (Iy (first:=bS f (aX f L)) (others:=r.map λn=>bS f (aX f n)) (by omega) (by grind) (λx hx=>?_) ?_)
   . obtain⟨n,_,rfl⟩:=aad.1 hx
     have:=Ac H (aX f n);omega
   apply pg;simp;apply rn;simp;refine .less d.1 (.done ?_);simpa[fX]using h
theorem Dw{f}(h:check f=0):ij f []=0:=by unfold ij;simp_all
theorem FA{f}{l:acy}(h:check f=0)(a:∀n∈l,0<=n/\n<f.aD.length):ij f l=0:=by
 unfold ij;rw[ZM (by simp[h]),ZS];rw[ZT];intro n b;have:=a n b;simp[bu];omega
theorem vN.le{σ σ' b mb}(h:vN σ b mb σ'):σ.Le σ':=by rw[h.eq];exact ab.iN (ab.iN (ab.le_refl _) h.B7) (by rw[ab.ah _ _ h.ne];exact h.hb)
theorem BG{a n}(b:0<=n)(h:KF (.val (u8 (bR a n))) σ):az prog m 257 [u8 a,int n] σ KF:=by
 refine fs [] Tryz.func257 rfl (by kernel_rfl) ?_;simp[Tryz.f257];refine⟨b,?_⟩;simp[sO];exact .done h
theorem ou{l}(o:l.length<1152921504606846976)(f:∀n∈l,0<=n)(h:KF (.val (u8 (bf l))) σ):az prog m 255 [ints l] σ KF:=by
 refine fs [] Tryz.func255 rfl (by kernel_rfl) ?_;simp[Tryz.f255];refine aa.loop l.length (λk s=>∃env,s=⟨env,σ,[],.no⟩/\env 3=u8 (bf (l.take k))/\env 4=.fn (.func 257) [u8 (bf (l.take k))] []/\env 9=ints l/\env 10=int l.length/\env 11=int k) ⟨_,rfl,by simp[bf]⟩ ?_;rintro p k _ q ⟨env,rfl,g,i,d,b,a⟩ j;apply rn;simp[b,a];apply aH.intro<;>intro c<;>simp at c<;>simp[g,i,d,a,c]
 . have e:bf (l.take (k+1))=bR (bf (l.take k)) l[k]:=by
    unfold bf;rw[zD c,aaE];rfl
   refine dY Tryz.func257 rfl rfl rfl (BG (f _ (zA c)) ?_);rw[<-e];apply rn;simp[a];exact⟨by omega,j _ c ⟨_,rfl,by simp[d,b]⟩⟩
 . have:k=l.length:=by omega
   subst this;rw[ZY];exact .done h
def BH(x:Int):Int:=Ds x (Qq x 1)
def sQ:Nat->Int->Int
 |0,x=>x
 |n+1,x=>BH (sQ n x)
def Iz:Nat->Int->Int
 |0,_=>0
 |n+1,x=>if x=0 then 0 else 1+Iz n (BH x)
def bL(a b:Int):Int:=Iz 8 (xQ a b)
theorem xS{a b}(l:sQ 8 (xQ a b)=0)(h:KF (.val (int (bL a b))) σ):az prog m 256 [u8 a,u8 b] σ KF:=by
 refine fs [] Tryz.func256 rfl (by kernel_rfl) ?_
 simp[Tryz.f256,Iw];refine aa.loop 8 (λk s=>∃env,s=⟨env,σ,[],.no⟩/\env 5=int k/\env 6=u8 (sQ k (xQ a b))/\bL a b=k+Iz (8-k) (sQ k (xQ a b))) ⟨_,rfl,by simp,by simp;rfl,by simp[sQ,bL]⟩ ?_
 rintro n k _ o ⟨env,rfl,g,f,c⟩ i
 apply rn;simp[f];apply aH.intro<;>intro d<;>simp at d<;>simp[g,f,d]
 . have j:k<8:=by
    grind
   refine⟨by omega,?_⟩
   simp[tY,Ix];refine i _ j ⟨_,rfl,by simp,by simp[sQ,BH],?_⟩
   have e:8-k=(8-(k+1))+1:=by omega
   rw[e,Iz,ZM d]at c;rw[c];simp only[sQ];omega
 . rw[d]at c
   have e:Iz (8-k) 0=0:=by cases 8-k<;>simp[Iz]
   rw[e]at c;rw[c]at h;exact .done (by grind)
abbrev xT(x:Int):AV:=.agg [u8 x]
theorem Pe{x n}(a:0<=n)(h:KF (.val (xT (bR x n))) σ):az prog m 187 [xT x,int n] σ KF:=by
 refine az.start lay [2] UB 2 Tryz.func187 rfl rfl (by rfl) (by kernel_rfl) ?_;simp[Tryz.f187];refine bI.intro λc f=>?_
 simp;refine bI.intro λd hd=>?_
 obtain⟨b,e,hd⟩:=ab.aM hd;simp[e,ab.ah,sO,a];refine aa.run lay [2] ?_;simp[b,ab.ah];exact .less (by repeat (first|exact ab.le_refl _|assumption|refine ab.ez ?_ (by assumption)|refine ab.lx ?_ (by assumption))) (.done h)
theorem LJ{x}(h:KF (.val (ints (aA x))) σ):az prog m 205 [xT x] σ KF:=by
 refine fs [] Tryz.func205 rfl (by kernel_rfl) ?_;simp[Tryz.f205];refine aa.loop 6 (λk s=>∃env b,s=⟨env,b,[],.no⟩/\env 1=.cp (xT x) 0/\env 5=int k/\Tok σ b (env 3) 1 ((((List.range k).map λn:Nat=>(n:Int)).filter λn=>fL x n).map int)) ⟨_,_,rfl,by simp,by simp,.nil σ 1⟩ ?_;rintro l k _ o ⟨env,b,rfl,d,c,a⟩ f;rcases aap k 6 with g1|g1
 . have e:(k:Int)<6:=by omega
   have p:(((List.range k).map λn:Nat=>(n:Int)).filter λn=>fL x n).length<=k:=by grind
   have q:(((List.range (k+1)).map λn:Nat=>(n:Int)).filter λn=>fL x n)=(((List.range k).map λn:Nat=>(n:Int)).filter λn=>fL x n)++if fL x k then[(k:Int)]else[]:=by
    rw[aai,aab,aaT]
    grind
   apply rn;simp[d,c,e,tY];have g:fL x k=(Ds (x.fdiv (2 ^ min k IntKind.u8.bits)) 1==1):=by simp[fL]
   rw[<-g];cases hb:fL x k
   . simp[c]
     refine⟨by omega,f _ g1 ⟨_,_,rfl,by simp[d],by simp,?_⟩⟩
     simp_all
   . simp
     refine aN lay rfl rfl rfl dG rfl dG rfl rA (by decide) (by grind) (σ0:=σ) (es:=(((List.range k).map λn:Nat=>(n:Int)).filter λn=>fL x n).map int) (xs:=[int k]) (by simp_all) (.inr ⟨_,rfl⟩) λr i j=>?_
     apply rn;simp[c];refine⟨by omega,f _ g1 ⟨_,_,rfl,by simp[d],by simp,?_⟩⟩
     simp_all
 . have:k=6:=by omega
   subst this;apply rn;simp[c];exact .na a.W (.less a.1 (.done h))
def lf(a b:Int):Int:=if 0<a/\a<b then 3 else if a=b then 1 else 2
theorem FB{a b}(h:KF (.val (int (lf a b))) σ):az prog m 202 [int a,int b] σ KF:=by
 unfold lf at h;refine fs [] Tryz.func202 rfl (by kernel_rfl) ?_;simp[Tryz.f202];refine uK.intro (λd=>?_) (λd=>?_)<;>(try simp[-Int.not_lt,-Int.not_le]at d)<;>(try simp[d]at h)<;>(try simp[d])<;>(try exact .done h)
 . refine aH.intro (λe=>?_) (λe=>?_)<;>(try simp[-Int.not_lt,-Int.not_le]at e)<;>(try simp[e]at h)<;>(try simp[e])<;>(try exact .done h)
   . have:a≠b:=by omega
     apply aH.intro<;>intro c<;>simp at c<;>simp[c]
     . omega
     . exact .done h
   . refine aH.intro (λc=>?_) (λc=>?_)<;>(try simp at c)<;>(try simp[c]at h)<;>(try simp[c])<;>(try exact .done h)
 . refine aH.intro (λc=>?_) (λc=>?_)<;>(try simp at c)<;>(try simp[c]at h)<;>(try simp[c])<;>(try exact .done h)
theorem IA{l}(b:l≠[])(c:l.length<=1000000000)(h:∀a σ',bx σ σ' a 1 (l.map int)->KF (.val a) σ'):az prog m 80 [ints l] σ KF:=by
 refine fs [] Tryz.func80 rfl (by kernel_rfl) ?_;simp[Tryz.f80];refine Cg lay rfl dG rfl rfl (.inr (.inl ⟨rfl,by simp_all,rfl⟩)) (.inl ⟨rfl,rfl⟩) ?_;apply rn;simp;refine jo lay rfl rfl rfl dG rfl dG rfl rA (by decide) (by simp;omega) (σ0:=σ) (es:=[]) (xs:=l.map int) (.empty σ 1) (.inl (.inr ⟨_,rfl⟩)) (by simp) λd σ' e=>?_
 apply rn;simp;exact .done (h _ _ (by simp_all))
def eM(lt:Int->Int->Bool)(x:Int):acy->acy
 |[]=>[x]
 |y::r=>if lt x y then y::eM lt x r else x::y::r
def eV(lt:Int->Int->Bool)(l:acy):acy:=l.foldl (λr x=>eM lt x r) []
theorem Dx  lt   x :∀r,(eM lt x r).length=r.length+1
 |[]=>rfl
 |y::r=>by unfold eM;split<;>simp[Dx lt x r]
theorem lg  lt   l :(eV lt l).length=l.length:=by
 have key:∀(l r:acy),(l.foldl (λr x=>eM lt x r) r).length=r.length+l.length:=by
  intro l;induction l with
  |nil=>intro r;rfl
  |cons a l b=>intro r;rw[aaB,b,Dx];simp;omega
 rw[eV,key];simp
theorem Dy  lt   x :∀  r   y ,y∈eM lt x r↔y=x\/y∈r
 |[],y=>by simp[eM]
 | z ::r,y=>by
   unfold eM;split
   . rw[aae,Dy lt x r y,aae]
     grind
   . simp
theorem ua  lt   l   y :y∈eV lt l↔y∈l:=by
 have key:∀(l r:acy),y∈l.foldl (λr x=>eM lt x r) r↔y∈r\/y∈l:=by
  intro l;induction l with
  |nil=>grind
  | cons a l b=>
    intro r;rw[aaB,b,Dy,aae]
    grind
 rw[eV,key];simp
def Dz(m:Mo)(y:AV)(c:Int->Int->Int)(In:Int->Prop):Prop:=∀(a b:Int) (σ:ab) (KF:ach),In a->In b->KF (.val (int (c a b))) σ->bY prog m y [int a,int b] σ KF
theorem Wt{α:Type}{A B}{x y:α}{n}(a:A.length=n):(A++y::x::B)[n]?=some y/\(A++y::x::B)[n+1]?=some x/\((A++y::x::B).set n x).set (n+1) y=A++x::y::B/\((A++y::x::B).set (n+1) y).set n x=A++x::y::B:=by simp_all
theorem FC{y c In l b cap rest}(W:Dz m y c In)(J:∀x∈l,In x)(hl:l.length<=1000000)(hb:σ b=some (.cells (l.map int++rest)))
 (h:KF (.val (.cu [])) (σ.set b (.cells ((eV (λa b=>decide (c a b<0)) l).reverse.map int++rest)))):az prog m 209 [.gk b 0 l.length cap,int 0,int l.length,y] σ KF:=by
 refine fs UI Tryz.func209 rfl (by kernel_rfl) ?_
 simp[Tryz.f209];obtain⟨lt,D⟩:∃lt,lt=λa b=>decide (c a b<0):=⟨_,rfl⟩
 rw[<-D]at h;refine aa.loop l.length (λi s=>∃env g,s=⟨env,g,[],.no⟩/\env 0=.gk b 0 l.length cap/\env 1=int 0/\env 2=int l.length/\env 3=y/\env 8=int ((i:Int)+1)/\g=σ.set b (.cells ((eV lt (l.take (i+1))).reverse.map int++((l.drop (i+1)).map int++rest)))) ⟨_,_,rfl,by simp,by simp,by simp,by simp,by simp,?_⟩ ?_
 . have e:(eV lt (l.take 1)).reverse.map int++((l.drop 1).map int++rest)=l.map int++rest:=by
    cases l with
    |nil=>simp[eV]
    |cons a l=>simp[eV,eM]
   rw[e]
   funext d
   by_cases q:d=b
   . simp_all
   . rw[ab.ah _ _ q]
 rintro c0 i _ hi ⟨env,g,rfl,t,u,v,E,w,j⟩ X
 rcases aap (i+1) l.length with g1|g1
 . have Q:(i:Int)+1<l.length:=by omega
   obtain⟨S,M⟩:∃S,S=eV lt (l.take (i+1)):=⟨_,rfl⟩;have R:S.length=i+1:=by rw[M,lg,aaP];omega
   have T:∀x∈S,In x:=λx N=>J x (abA ((ua lt _ x).1 (M ▸ N)))
   have F:eV lt (l.take (i+1+1))=eM lt l[i+1] S:=by rw[M,eV,zD g1,aaE];rfl
   obtain⟨x,N⟩:∃x,x=l[i+1]:=⟨_,rfl⟩;have K:In x:=J x (by simp_all)
   have U:l.drop (i+1)=x::l.drop (i+2):=by rw[N];exact aau g1
   rw[<-M,U]at j;rw[<-N]at F;apply rn;simp[v,w,Q]
   refine aa.loop (i+1) (λk s=>∃env g r f,s=⟨env,g,[],.no⟩/\env 0=.gk b 0 l.length cap/\env 1=int 0/\env 2=int l.length/\env 3=y/\env 8=int ((i:Int)+1)/\env 9=int f.length/\S=r++f/\f.length+k=i+1/\eM lt x S=r++eM lt x f/\
    g=σ.set b (.cells ((f.reverse.map int)++int x::(r.reverse.map int++((l.drop (i+2)).map int++rest))))) ⟨_,_,[],S,rfl,by simp[t],by simp[u],by simp[v],by simp[E],by simp[w],by simp[R],rfl,by omega,rfl,by grind⟩ ?_
   clear t u v E w j
   rintro c1 k _ hk ⟨env,g,r,f,rfl,t,u,v,E,w,O,G,hlen,p,j⟩ V
   cases f with
   | nil=>
     simp only[aaN,aaW]at hlen;simp only[aay]at G;subst G
     have o:g=σ.set b (.cells ((eV lt (l.take (i+1+1))).reverse.map int++((l.drop (i+1+1)).map int++rest))):=by rw[j,F,p];simp[eM]
     apply rn;simp[u,O];refine⟨?_,?_⟩
     all_goals
      apply rn;simp[w];refine⟨by omega,X _ (by omega) ⟨_,_,rfl,?_,?_,?_,?_,?_,o⟩⟩<;>simp[t,u,v,E]
   | cons z f=>
     obtain⟨e1,e2,e3,e4⟩:=Wt (A:=f.reverse.map int) (B:=r.reverse.map int++((l.drop (i+2)).map int++rest)) (x:=int x) (y:=int z) (n:=f.length) (by simp)
     have C:g b=some (.cells (f.reverse.map int++int z::int x::(r.reverse.map int++((l.drop (i+2)).map int++rest)))):=by rw[j,ab.ai];simp
     have L:In z:=T z (by grind)
     have f1:(0:Int)<(f.length:Int)+1:=by omega
     have Y:(f.length:Int)+1<l.length:=by grind
     have Z:(f.length:Int)<l.length:=by omega
     have f4:(0:Int)<=(f.length:Int)+1:=by omega
     have f5:((f.length:Int)+1).toNat=f.length+1:=by omega
     have I:-9223372036854775808<=(f.length:Int)/\(f.length:Int)<=9223372036854775807:=by omega
     apply rn;simp[t,u,E,O,f1,Y,Z,f4,f5,I.1,I.2,C];refine⟨W _ _ _ _ K L ?_,W _ _ _ _ K L ?_⟩
     all_goals
      apply pg;simp;apply rn;simp
      by_cases P:c x z<0
      . have f7:f.length+1+1<=f.length+(r.length+(l.length-(i+2)+rest.length)+1+1):=by omega
        have f8:f.length+1<=f.length+(r.length+(l.length-(i+2)+rest.length)+1+1):=by omega
        have H:eM lt x (z::f)=z::eM lt x f:=by rw[D];simp[eM,P]
        simp[t,O,P,f5,I.1,I.2,Y,Z,f4,C,f7,f8];apply rn;simp[O,I.1,I.2];refine V _ (by simp at hlen;omega) ⟨_,_,r++[z],f,rfl,by simp[t],by simp[u],by simp[v],by simp[E],by simp[w],by simp,by rw[G];simp,by simp at hlen;omega,by rw[p,H];simp,?_⟩
        rw[j];simp
      . have H:eM lt x (z::f)=x::z::f:=by rw[D];simp[eM,P]
        have o:g=σ.set b (.cells ((eV lt (l.take (i+1+1))).reverse.map int++((l.drop (i+1+1)).map int++rest))):=by rw[j,F,p,H];simp
        simp[w,P];refine⟨by omega,X _ (by omega) ⟨_,_,rfl,?_,?_,?_,?_,?_,o⟩⟩<;>simp[t,u,v,E]
 . have o:(eV lt (l.take (i+1))).reverse.map int++((l.drop (i+1)).map int++rest)=(eV lt l).reverse.map int++rest:=by
    rw[aaH (by omega),List.drop_of_length_le (by omega)];simp
   rw[o]at j;have g2:¬(i:Int)+1<l.length:=by omega
   apply rn;simp[v,w,g2];rw[j];exact .done h
theorem BI{y c In l b cap rest}(q:Dz m y c In)(g:∀x∈l,In x)(w:l.length<20)(hb:σ b=some (.cells (l.map int++rest)))
 (h:KF (.val (.cu [])) (σ.set b (.cells ((eV (λa b=>decide (c a b<0)) l).reverse.map int++rest)))):az prog m 206 [.gk b 0 l.length cap,int l.length,y] σ KF:=by
 refine fs [] Tryz.func206 rfl (by kernel_rfl) ?_;simp[Tryz.f206];have r:¬(20:Int)<=l.length:=by omega
 have t:¬(20:Int)<l.length:=by omega
 refine aa.loop 1 (λk s=>∃env,s=⟨env,σ,[],.no⟩/\env 0=.gk b 0 l.length cap/\env 1=int l.length/\env 2=y/\env 6=int 20/\env 7=int 0/\env 8=int 20) ⟨_,rfl,by simp⟩ ?_;rintro z k _ u ⟨env,rfl,j,e,n,f,o,p⟩ v;apply rn;simp[j,e,n,o,p,r];refine cf Tryz.func209 rfl (FC q g (by omega) hb ?_);apply rn;simp;refine aa.loop 1 (λk s=>∃env d,s=⟨env,d,[],.no⟩/\env 1=int l.length/\env 6=int 20/\d=σ.set b (.cells ((eV (λa b=>decide (c a b<0)) l).reverse.map int++rest))) ⟨_,_,rfl,by simp[e,f]⟩ ?_;clear j e n f o p;rintro A k _ u ⟨env,d,rfl,e,f,i⟩ v;apply rn;simp[e,f,t];rw[i];exact .done h
theorem sR{y c In l b cap rest}(e:Dz m y c In)(d:∀x∈l,In x)(f:l.length<20)(hb:σ b=some (.cells (l.map int++rest)))
 (h:KF (.val (.cu [])) (σ.set b (.cells ((eV (λa b=>decide (c a b<0)) l).reverse.map int++rest)))):az prog m 198 [.gk b 0 l.length cap,y] σ KF:=by
 refine fs [] Tryz.func198 rfl (by kernel_rfl) ?_;simp[Tryz.f198];refine cf Tryz.func206 rfl (BI e d f hb ?_);apply rn;simp;exact .done (by simpa using h)
theorem Pf{y c In l}(r:Dz m y c In)(f:∀x∈l,In x)(s:l.length<20)(g:l≠[])(i:y.cells=[y]/\y.flat=true)(h:KF (.val (ints (eV (λa b=>decide (c a b<0)) l).reverse)) σ):az prog m 177 [.agg [y],ints l] σ KF:=by
 refine fs [] Tryz.func177 rfl (by kernel_rfl) ?_;simp[Tryz.f177,i.2];refine cf Tryz.func80 rfl (IA g (by omega) λa j k=>?_)
 obtain⟨b,cap,rest,rfl,n,o,v,p,q⟩:∃b cap rest,a=.gk b 0 (l.map int).length cap/\σ b=none/\(l.map int).length<=cap/\(∀e∈l.map int,e.cells.length=1)/\j b=some (.cells (flatten (l.map int)++rest))/\rest.length=(cap-(l.map int).length)*1:=by
  rcases k.2 with⟨e,_⟩|h
  . simp_all
  . exact h
 have d:∀l:acy,flatten (l.map int)=l.map int:=λl=>by
  induction l with
  |nil=>rfl
  |cons a l t=>simp[flatten_cons,AV.cells,t]
 rw[d]at p;rw[ZZ]at o q ⊢;apply rn;simp;refine cf Tryz.func198 rfl (sR r f s p ?_);apply rn;simp;refine bx.thaw (σ0:=σ) (kk:=1) (es:=(eV (λa b=>decide (c a b<0)) l).reverse.map int) ⟨ab.ez k.1 n,.inr ⟨b,cap,rest,?_,n,?_,λe u=>?_,?_,?_⟩⟩ h
 . simp[lg]
 . simpa[lg]using o
 . obtain⟨x,_,rfl⟩:=aad.1 u;rfl
 . rw[d];simp
 . simpa[lg]using q
def ub(f:Fr)(a b:Int):Int:=BE (aX f a).hour (aX f b).hour
theorem Pg{b mb f x y}(d:0<=x/\x<f.aD.length)(e:0<=y/\y<f.aD.length)(h:KF (.val (int (ub f x y))) σ):az prog m 175 [int x,int y,.cp (lN b mb f 0) 0] σ KF:=by
 have a:x.toNat<f.aD.length:=by omega
 have c:y.toNat<f.aD.length:=by omega
 have ex:aX f x=f.aD[x.toNat]:=by simp[aX,zG,a]
 have g:aX f y=f.aD[y.toNat]:=by simp[aX,zG,c]
 unfold ub at h;rw[ex,g]at h;refine fs Uz Tryz.func175 rfl (by kernel_rfl) ?_;simp[Tryz.f175,a,c,d.1,e.1];refine cf Tryz.func176 rfl (Fw ?_);apply pg;simp;apply rn;simp;exact .done h
theorem LL{b mb f}:Dz m (.fn (.func 175) [] [.cp (lN b mb f 0) 0]) (ub f) (λn=>0<=n/\n<f.aD.length):=λx y σ KF a c h=>by refine dY Tryz.func175 rfl rfl rfl (Pg a c h)
structure N4(f:Fr)(l:acy):Prop where
 mem:∀n∈l,0<=n/\n<f.aD.length
 ne:l≠[]
 len:l.length<=1000000
def dW(f:Fr)(l:acy):Bool:=l.any λn=>decide ((aX f n).cR≠(aX f (l.getD 0 0)).cR)
theorem sS{f x}  h :aX f x=f.aD[x.toNat]:=by simp[aX,zG,h]
theorem FD{b mb f l}(u:N4 f l)(h:KF (.val (bool (dW f l))) σ):az prog m 250 [.agg [],lN b mb f 0,ints l] σ KF:=by
 obtain⟨i,g,hlen⟩:=u;have a:0<l.length:=List.length_pos_iff.2 g;obtain⟨v,A⟩:=i _ (zA a);have j:l[0].toNat<f.aD.length:=by omega
 have w:l.getD 0 0=l[0]:=by simp_all
 unfold dW at h;rw[w]at h;refine fs UJ Tryz.func250 rfl (by kernel_rfl) ?_;simp[Tryz.f250];refine aa.loop l.length (λk s=>∃env,s=⟨env,σ,[],.no⟩/\env 1=lN b mb f 0/\env 2=ints l/\env 9=ints l/\env 10=int l.length/\env 11=int k/\∀n∈l.take k,(aX f n).cR=(aX f l[0]).cR) ⟨_,rfl,by simp⟩ ?_;rintro B k _ C ⟨env,rfl,o,p,q,c,d,e⟩ x;rcases aap k l.length with g1|g1
 . obtain⟨y0,D⟩:=i _ (zA g1)
   have r:l[k].toNat<f.aD.length:=by omega
   have E:=sS r;have F:=sS j;apply rn;simp[o,p,q,c,d,g1,a,y0,r,v,j];apply rn;simp;by_cases t:f.aD[l[k].toNat].cR=f.aD[l[0].toNat].cR
   . simp[d,t]
     refine⟨by omega,x _ g1 ⟨_,rfl,by simp[o],by simp[p],by simp[q],by simp[c],by simp,λn y=>?_⟩⟩;rw[zD g1,ZQ,lb]at y
     grind
   . have z:(f.aD[l[k].toNat].cR !=f.aD[l[0].toNat].cR)=true:=by simp[t]
     have:l.any (λn=>decide ((aX f n).cR≠(aX f l[0]).cR))=true:=aar.2 ⟨_,zA g1,by simp_all⟩;rw[this]at h;simp[z];exact .done h
 . have:k=l.length:=by omega
   subst this;rw[ZY]at e;have:l.any (λn=>decide ((aX f n).cR≠(aX f l[0]).cR))=false:=by simp_all
   rw[this]at h;apply rn;simp[c,d];exact .done h
def cS(f:Fr)(l:acy):Bool:=decide (fX f l=[])
theorem FE{b mb f l}(g:f.Good)(c:N4 f l)(h:KF (.val (bool (cS f l))) σ):az prog m 251 [.agg [],lN b mb f 0,ints l] σ KF:=by
 refine fs [] Tryz.func251 rfl (by kernel_rfl) ?_;simp[Tryz.f251];refine cf Tryz.func252 rfl (Fy g c.ne c.len c.mem ?_);apply rn;simp;unfold cS at h;cases d:fX f l with
 |nil=>rw[d]at h;exact .done h
 | cons a r=>
   rw[d]at h;have e:((r.length:Int)+1==0)=false:=by grind
   refine .done ?_;simpa[e]using h
def gW(f:Fr)(x y:Int):Bool:=decide ((aX f y).hour-(aX f x).hour<rd f.roads (aX f x).place.toNat (aX f y).place.toNat+f.cL*bL (bf (aX f x).marks) (bf (aX f y).marks))
def dw(f:Fr)(l:acy):Bool:=(List.range (l.length-1)).any λi=>gW f (l.getD i 0) (l.getD (i+1) 0)
theorem qu:∀{l p},sN p l=0->∀n∈l,0<=n/\n<=4
 |[],_,_,n,hn=>by simp at hn
 | a::l,p,h,n,hn=>by
   unfold sN at h;split at h
   . cases h
   next b=>
   split at h
   . cases h
   next c=>
   rcases aae.1 hn with rfl|hn
   . simp[bu]at b;omega
   . exact qu h n hn
theorem IB:∀a:Fin 32,∀n:Fin 5,0<=bR (a.val:Int) (n.val:Int)/\bR (a.val:Int) (n.val:Int)<32:=by decide
theorem kg{l}(h:∀n∈l,0<=n/\n<=4):0<=bf l/\bf l<32:=by
 have key:∀(l:acy) (a:Int),(∀n∈l,0<=n/\n<=4)->0<=a/\a<32->0<=l.foldl bR a/\l.foldl bR a<32:=by
  intro l;induction l with
  |nil=>simp_all
  | cons x l c=>
    intro a b e;rw[aaB];refine c _ (λn d=>b n (aaQ _ d)) ?_;obtain⟨f,g⟩:=b x (abG ..);have:=IB ⟨a.toNat,by omega⟩ ⟨x.toNat,by omega⟩;have i:(a.toNat:Int)=a:=by omega
    have j:(x.toNat:Int)=x:=by omega
    simp_all
 exact key l 0 h (by omega)
theorem LM:∀a:Fin 32,∀b:Fin 32,sQ 8 (xQ (a.val:Int) (b.val:Int))=0/\0<=bL (a.val:Int) (b.val:Int)/\bL (a.val:Int) (b.val:Int)<=5:=by decide +kernel
theorem Hc{a b}(c:0<=a/\a<32)(hb:0<=b/\b<32):sQ 8 (xQ a b)=0/\0<=bL a b/\bL a b<=5:=by
 have:=LM ⟨a.toNat,by omega⟩ ⟨b.toNat,by omega⟩
 grind
theorem Fr.Good.row{f:Fr}(a:f.Good){i}(hi:i<f.roads.length):f.roads[i].length=f.roads.length/\∀x∈f.roads[i],0<=x/\x<=9:=by
 have h:=a.LH;unfold fS at h;split at h
 . cases h
 split at h
 . cases h
 split at h
 . omega
 next q=>
 obtain⟨b,c⟩:=kP (by simpa using q) _ (zA hi);exact⟨b,λx d=>dB (c x d)⟩
theorem FF{b mb f l}(j:f.Good)(hl:N4 f l)(h:KF (.val (bool (dw f l))) σ):az prog m 254 [.agg [],lN b mb f 0,ints l] σ KF:=by
 obtain⟨S,a7,hlen⟩:=hl;have p:=j.cL;unfold dw at h;refine fs UL Tryz.func254 rfl (by kernel_rfl) ?_
 simp[Tryz.f254];refine aa.loop (l.length-1) (λk s=>∃env a,s=⟨env,a,[],.no⟩/\σ.Le a/\env 1=lN b mb f 0/\env 2=ints l/\env 7=int ((k:Int)+1)/\∀i<k,gW f (l.getD i 0) (l.getD (i+1) 0)=false) ⟨_,_,rfl,ab.le_refl _,by simp⟩ ?_
 rintro c0 k _ hk ⟨env,a,rfl,q,r,w,x,T⟩ U
 rcases aap (k+1) l.length with g1|g1
 . have K:(k:Int)+1<l.length:=by omega
   have L:k<l.length:=by omega
   obtain⟨x0,x1⟩:=S _ (zA L);obtain⟨y0,y1⟩:=S _ (zA g1);have y:l[k].toNat<f.aD.length:=by omega
   have z:l[k+1].toNat<f.aD.length:=by omega
   have f1:-9223372036854775808<=(k:Int)/\(k:Int)<=9223372036854775807:=by omega
   have f2:((k:Int)+1).toNat=k+1:=by omega
   have f3:(0:Int)<=(k:Int)+1:=by omega
   obtain⟨A,C⟩:∃A,A=f.aD[l[k].toNat]:=⟨_,rfl⟩;obtain⟨B,D⟩:∃B,B=f.aD[l[k+1].toNat]:=⟨_,rfl⟩;have V:=sS y;have W:=sS z;rw[<-C]at V;rw[<-D]at W;have bA:=oR (j.u6 A (by grind))
   have bB:=oR (j.u6 B (by grind))
   apply rn;simp[r,w,x,K,L,g1,x0,y,y0,z,f1.1,f1.2,f2,f3,<-C,<-D];have e:=λ{c:Nat}(t:a c=none)=>q.none t
   have E:A.place.toNat<f.roads.length:=by omega
   obtain⟨r1,r2⟩:=j.row E;have F:B.place.toNat<f.roads[A.place.toNat].length:=by omega
   obtain⟨r3,r4⟩:=r2 _ (zA F);have M:rd f.roads A.place.toNat B.place.toNat=f.roads[A.place.toNat][B.place.toNat]:=nB E F;have N:=qu bA.2.2.2.2.2;have O:=qu bB.2.2.2.2.2;have lA:=kg N;have lB:=kg O;obtain⟨X,P,Y⟩:=Hc lA lB;obtain⟨ch,g⟩:∃ch,ch=bL (bf A.marks) (bf B.marks):=⟨_,rfl⟩;rw[<-g]at P Y
   have hmul:0<=f.cL*ch/\f.cL*ch<=30:=by
    constructor
    . exact Int.mul_nonneg (by omega) P
    . calc f.cL*ch<=6*5:=Int.mul_le_mul p.2 Y P (by omega)
       _=30:=by rfl
   have Z:gW f l[k] l[k+1]=decide (B.hour-A.hour<f.roads[A.place.toNat][B.place.toNat]+f.cL*ch):=by unfold gW;rw[V,W,M,g]
   have a8:l.getD k 0=l[k]:=by simp[zG,L]
   have a9:l.getD (k+1) 0=l[k+1]:=by simp[zG,g1]
   have G:-9223372036854775808<=B.hour-A.hour/\B.hour-A.hour<=9223372036854775807:=by omega
   have H:-9223372036854775808<=f.cL*ch/\f.cL*ch<=9223372036854775807:=by omega
   have I:-9223372036854775808<=f.roads[A.place.toNat][B.place.toNat]+f.cL*ch/\f.roads[A.place.toNat][B.place.toNat]+f.cL*ch<=9223372036854775807:=by omega
   refine⟨qA.intro λc t=>?_,qA.intro λc t=>?_⟩
   . simp
     refine qA.intro λd hd=>?_
     obtain⟨J,u,hd⟩:=ab.aM hd;have Q:=e t;have R:=e hd;simp[J,u,ab.ah];refine aa.bt 8 (b:=c) (bn A) (by simp[u,ab.ah]) (by simp) rfl ?_
     refine aa.bt 9 (b:=d) (bn B) (by simp[J,ab.del]) (by simp) rfl ?_
     apply rn;simp[r,G.1,G.2,E,F];refine⟨by omega,by omega,?_⟩
     refine cf Tryz.func255 rfl (ou (by have:=j.fits.marks A (by rw[C];exact zA y);omega) (λn o=>(N n o).1) ?_)
     apply pg;simp;refine cf Tryz.func255 rfl (ou (by have:=j.fits.marks B (by rw[D];exact zA z);omega) (λn o=>(O n o).1) ?_)
     apply pg;simp;refine cf Tryz.func256 rfl (xS X ?_);rw[<-g];apply pg;simp[H.1,H.2,I.1,I.2];apply rn;simp
     by_cases v:B.hour-A.hour<f.roads[A.place.toNat][B.place.toNat]+f.cL*ch
     . simp[v]
       have:(List.range (l.length-1)).any (λi=>gW f (l.getD i 0) (l.getD (i+1) 0))=true:=aar.2 ⟨k,ZN.2 (by omega),by grind⟩
       rw[this]at h;exact .less (by repeat (first|exact ab.le_refl _|assumption|refine ab.ez ?_ (by assumption)|refine ab.lx ?_ (by assumption))) (.done h)
     . simp[x,v]
       refine⟨by omega,U _ (by omega) ⟨_,_,rfl,(by repeat (first|exact ab.le_refl _|assumption|refine ab.ez ?_ (by assumption)|refine ab.lx ?_ (by assumption))),by simp[r],by simp[w],by simp,λi hi=>?_⟩⟩
       grind
   . simp
     refine qA.intro λd hd=>?_
     obtain⟨J,u,hd⟩:=ab.aM hd;have Q:=e t;have R:=e hd;simp[u,ab.ah];refine aa.bt 8 (b:=d) (bn A) (by simp[J,ab.ah]) (by simp) rfl ?_
     refine aa.bt 9 (b:=c) (bn B) (by simp[u,ab.del]) (by simp) rfl ?_
     apply rn;simp[r,G.1,G.2,E,F];refine⟨by omega,by omega,?_⟩
     refine cf Tryz.func255 rfl (ou (by have:=j.fits.marks A (by rw[C];exact zA y);omega) (λn o=>(N n o).1) ?_)
     apply pg;simp;refine cf Tryz.func255 rfl (ou (by have:=j.fits.marks B (by rw[D];exact zA z);omega) (λn o=>(O n o).1) ?_)
     apply pg;simp;refine cf Tryz.func256 rfl (xS X ?_);rw[<-g];apply pg;simp[H.1,H.2,I.1,I.2];apply rn;simp
     by_cases v:B.hour-A.hour<f.roads[A.place.toNat][B.place.toNat]+f.cL*ch
     . simp[v]
       have:(List.range (l.length-1)).any (λi=>gW f (l.getD i 0) (l.getD (i+1) 0))=true:=aar.2 ⟨k,ZN.2 (by omega),by grind⟩
       rw[this]at h;exact .less (by repeat (first|exact ab.le_refl _|assumption|refine ab.ez ?_ (by assumption)|refine ab.lx ?_ (by assumption))) (.done h)
     . simp[x,v]
       refine⟨by omega,U _ (by omega) ⟨_,_,rfl,(by repeat (first|exact ab.le_refl _|assumption|refine ab.ez ?_ (by assumption)|refine ab.lx ?_ (by assumption))),by simp[r],by simp[w],by simp,λi hi=>?_⟩⟩
       grind
 . have g2:¬(k:Int)+1<l.length:=by omega
   have:(List.range (l.length-1)).any (λi=>gW f (l.getD i 0) (l.getD (i+1) 0))=false:=by grind
   rw[this]at h;apply rn;simp[w,x,g2];exact .less q (.done h)
theorem UO:(((prog.info? 278).bind λi=>i.methods.find? (·.name==  "palfrey/mark.breaks")).map λmt=>(mt.path,mt.func))=some (#[],some (250,false)):=by kernel_rfl
theorem UQ:(((prog.info? 279).bind λi=>i.methods.find? (·.name==  "palfrey/mark.breaks")).map λmt=>(mt.path,mt.func))=some (#[],some (251,false)):=by kernel_rfl
theorem US:(((prog.info? 280).bind λi=>i.methods.find? (·.name==  "palfrey/mark.breaks")).map λmt=>(mt.path,mt.func))=some (#[],some (254,false)):=by kernel_rfl
theorem Rk{a}:nQ prog 278  "palfrey/mark.breaks" 250 a a:=by obtain⟨mt,b,e⟩:=ZW.1 UO;obtain⟨info,c,d⟩:=abl.1 b;obtain⟨f,g⟩:=Prod.mk.inj e;exact rz lay Us c d (by rw[f]) g rfl
theorem Rl{a}:nQ prog 279  "palfrey/mark.breaks" 251 a a:=by obtain⟨mt,b,e⟩:=ZW.1 UQ;obtain⟨info,c,d⟩:=abl.1 b;obtain⟨f,g⟩:=Prod.mk.inj e;exact rz lay Ut c d (by rw[f]) g rfl
theorem Rm{a}:nQ prog 280  "palfrey/mark.breaks" 254 a a:=by obtain⟨mt,b,e⟩:=ZW.1 US;obtain⟨info,c,d⟩:=abl.1 b;obtain⟨f,g⟩:=Prod.mk.inj e;exact rz lay Uu c d (by rw[f]) g rfl
def aY(f:Fr)(l:acy):acy:=(eV (λa b=>decide (ub f a b<0)) l).reverse
def lZ(f:Fr)(l:acy):Int:=if dW f (aY f l)then 1 else if cS f (aY f l)then 2 else if dw f (aY f l)then 3 else 0
abbrev UT(n:Int):AV:=if n=1 then .lT 278 (.agg [])else if n=2 then .lT 279 (.agg [])else if n=3 then .lT 280 (.agg [])else .lit .nilIface
theorem N4.sort{f l}(h:N4 f l):N4 f (aY f l):=
 ⟨fun n a=>h.mem n ((ua _ _ _).1 (by simpa[aY]using a)),λe=>h.ne (by
   have:(aY f l).length=l.length:=by simp[aY,lg]
   grind),by simp[aY,lg,h.len]⟩
theorem Rn{b mb f l}(y:f.Good)(v:N4 f l)(d:l.length<20)(h:KF (.val (UT (lZ f l))) σ):az prog m 144 [lN b mb f 0,ints l] σ KF:=by
 have t:=v.sort;refine fs [] Tryz.func144 rfl (by kernel_rfl) ?_;simp[Tryz.f144];refine bI.intro λc B=>?_
 simp;refine cf Tryz.func177 rfl (Pf LL v.mem d v.ne ⟨rfl,rfl⟩ ?_);obtain⟨S,z⟩:∃S,S=(eV (λa b=>decide (ub f a b<0)) l).reverse:=⟨_,rfl⟩;have r:aY f l=S:=z.symm;rw[r]at t;unfold lZ at h;rw[r]at h;rw[<-z];apply rn;simp;refine aa.loop 3 (λk s=>∃env j,s=⟨env,j,[],.no⟩/\σ.Le j/\env 1=ints S/\env 2=.cp (lN b mb f 0) 0/\env 19=.sl 1 [.lT 278 (.agg []),.lT 279 (.agg []),.lT 280 (.agg [])] .exact/\env 20=int 3/\env 21=int k/\(1<=k->dW f S=false)/\(2<=k->cS f S=false)/\(3<=k->dw f S=false)) ⟨_,_,rfl,ab.iN (ab.le_refl _) B,by simp⟩ ?_;rintro E k _ F ⟨env,j,rfl,e,o,p,i,d,g,w,A,C⟩ x;obtain rfl|rfl|rfl|rfl:k=0\/k=1\/k=2\/k=3:=by omega
 . apply rn
   simp[o,p,i,d,g];refine aa.invoke rfl rfl rfl (by simp) rfl Rk Tryz.func250 rfl rfl ?_;refine FD t ?_;apply rn;simp;cases hb:dW f S
   . simp[g]
     refine x _ (by omega) ⟨_,_,rfl,e,?_,?_,?_,?_,?_,λ_=>hb,λq=>(by omega),λq=>(by omega)⟩<;>simp[o,p,i,d]
   . simp
     simp[hb]at h;exact .less e (.done h)
 . have n:=w (by omega)
   apply rn;simp[o,p,i,d,g];refine aa.invoke rfl rfl rfl (by simp) rfl Rl Tryz.func251 rfl rfl ?_;refine FE y t ?_;apply rn;simp;cases hb:cS f S
   . simp[g]
     refine x _ (by omega) ⟨_,_,rfl,e,?_,?_,?_,?_,?_,λ_=>n,λ_=>hb,λq=>(by omega)⟩<;>simp[o,p,i,d]
   . simp
     simp[hb,n]at h;exact .less e (.done h)
 . have n:=w (by omega)
   have u:=A (by omega);apply rn;simp[o,p,i,d,g];refine aa.invoke rfl rfl rfl (by simp) rfl Rm Tryz.func254 rfl rfl ?_;refine FF y t ?_;apply rn;simp;cases hb:dw f S
   . simp[g]
     refine x _ (by omega) ⟨_,_,rfl,e,?_,?_,?_,?_,?_,λ_=>n,λ_=>u,λ_=>hb⟩<;>simp[o,p,i,d]
   . simp
     simp[hb,n,u]at h;exact .less e (.done h)
 . have n:=w (by omega)
   have u:=A (by omega);have D:=C (by omega);simp[n,u,D]at h;apply rn;simp[d,g];exact .less e (.done h)

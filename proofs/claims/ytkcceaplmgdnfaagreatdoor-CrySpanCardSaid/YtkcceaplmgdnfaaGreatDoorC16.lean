import Derived.Test.YtkcceaplmgdnfaaGreatDoorProg
import Derived.Test.YtkcceaplmgdnfaaGreatDoorC15
set_option linter.all false
set_option maxHeartbeats 1000000
set_option maxRecDepth 100000
namespace Go.Proofs.YtkcceaplmgdnfaaGreatDoor
open Go.Proofs.Tryz (prog)
section
open Go.cz
@[simp] def acy:TI:=⟨.func,1,8,.nilFunc,[]⟩
@[simp] def acC:TI:=⟨.int .i64,1,8,(.int .i64 0),[]⟩
@[simp] def acP:TI:=⟨.bool,1,1,(.bool false),[]⟩
@[simp] def acB:TI:=⟨.int .u8,1,1,(.int .u8 0),[]⟩
@[simp] def acH:TI:=⟨.struct,4,24,(.agg #[(.int .i64 0),(.int .i64 0),(.bool false),(.int .u8 0)]),[(0,1,2),(1,1,3),(2,1,4),(3,1,6)]⟩
@[simp] def acE:TI:=⟨.string,1,16,(.string ByteArray.empty),[]⟩
@[simp] def acD:TI:=⟨.int .u64,1,8,(.int .u64 0),[]⟩
@[simp] def acI:TI:=⟨.struct,2,24,(.agg #[(.string ByteArray.empty),(.int .u64 0)]),[(0,1,9),(1,1,12)]⟩
@[simp] def acQ:TI:=⟨.pointer 311,1,8,(.pointer none),[]⟩
@[simp] def acR:TI:=⟨.pointer 314,1,8,(.pointer none),[]⟩
@[simp] def acS:TI:=⟨.pointer 322,1,8,(.pointer none),[]⟩
@[simp] def acF:TI:=⟨.struct,1,8,(.agg #[(.pointer none)]),[(0,1,17)]⟩
@[simp] def acA:TI:=⟨.iface,1,16,.nilIface,[]⟩
@[simp] def acG:TI:=⟨.int .i32,1,4,(.int .i32 0),[]⟩
@[simp] def acT:TI:=⟨.slice 3,1,24,(.slice none 0 0),[]⟩
@[simp] def acU:TI:=⟨.slice 56,1,24,(.slice none 0 0),[]⟩
@[simp] def acV:TI:=⟨.slice 22,1,24,(.slice none 0 0),[]⟩
@[simp] def acJ:TI:=⟨.struct,2,16,(.agg #[(.int .i64 0),(.int .i64 0)]),[(0,1,3),(1,1,3)]⟩
@[simp] def acK:TI:=⟨.struct,6,80,(.agg #[(.slice none 0 0),(.slice none 0 0),(.int .i64 0),(.int .i64 0),(.int .i64 0),(.int .i64 0)]),[(0,1,23),(1,1,24),(2,2,26),(4,1,3),(5,1,3)]⟩
@[simp] def acW:TI:=⟨.slice 50,1,24,(.slice none 0 0),[]⟩
@[simp] def acX:TI:=⟨.slice 58,1,24,(.slice none 0 0),[]⟩
@[simp] def acL:TI:=⟨.struct,9,136,(.agg #[(.slice none 0 0),(.slice none 0 0),(.int .i64 0),(.int .i64 0),(.int .i64 0),(.int .i64 0),(.int .i64 0),(.slice none 0 0),(.slice none 0 0)]),[(0,6,28),(6,1,3),(7,1,29),(8,1,30)]⟩
@[simp] def acY:TI:=⟨.pointer 83,1,8,(.pointer none),[]⟩
@[simp] def acM:TI:=⟨.struct,5,40,(.agg #[(.int .i64 0),(.int .i64 0),(.int .i64 0),(.int .i64 0),(.int .i64 0)]),[(0,1,3),(1,1,3),(2,1,3),(3,2,26)]⟩
@[simp] def acZ:TI:=⟨.struct,6,64,(.agg #[(.int .i64 0),(.int .i64 0),(.int .i64 0),(.slice none 0 0),(.int .i64 0),(.int .i64 0)]),[(0,1,3),(1,1,3),(2,1,3),(3,1,22),(4,1,3),(5,1,3)]⟩
@[simp] def ada:TI:=⟨.struct,8,80,(.agg #[(.int .i64 0),(.int .i64 0),(.int .i64 0),(.slice none 0 0),(.int .i64 0),(.int .i64 0),(.int .i64 0),(.int .i64 0)]),[(0,6,56),(6,1,3),(7,1,3)]⟩
@[simp] def adb:TI:=⟨.slice 26,1,24,(.slice none 0 0),[]⟩
@[simp] def ade:TI:=⟨.slice 4,1,24,(.slice none 0 0),[]⟩
@[simp] def adf:TI:=⟨.struct,3,40,(.agg #[(.slice none 0 0),(.int .i64 0),(.int .u64 0)]),[(0,1,22),(1,1,3),(2,1,81)]⟩
@[simp] def adg:TI:=⟨.pointer 158,1,8,(.pointer none),[]⟩
@[simp] def adh:TI:=⟨.pointer 32,1,8,(.pointer none),[]⟩
@[simp] def adi:TI:=⟨.struct,1,8,(.agg #[.nilFunc]),[(0,1,45)]⟩
@[simp] def acz:TI:=⟨.struct,0,0,(.agg #[]),[]⟩
@[simp] def adj:TI:=⟨.struct,2,2,(.agg #[(.int .u8 0),(.int .u8 0)]),[(0,1,110),(1,1,110)]⟩
@[simp] def adk:TI:=⟨.array 2 3,2,16,(.agg #[(.int .i64 0),(.int .i64 0)]),[]⟩
@[simp] def acN:TI:=⟨.struct,1,8,(.agg #[.nilFunc]),[(0,1,51)]⟩
@[simp] def adl:TI:=⟨.int .u32,1,4,(.int .u32 0),[]⟩
@[simp] def adm:TI:=⟨.struct,2,8,(.agg #[(.int .i32 0),(.int .u32 0)]),[(0,1,21),(1,1,150)]⟩
@[simp] def adn:TI:=⟨.struct,2,8,(.agg #[(.int .i32 0),(.int .u32 0)]),[(0,0,149),(0,2,152)]⟩
@[simp] def ado:TI:=⟨.array 3 3,3,24,(.agg #[(.int .i64 0),(.int .i64 0),(.int .i64 0)]),[]⟩
@[simp] def adp:TI:=⟨.map 112 193,1,8,(.map none),[]⟩
@[simp] def adq:TI:=⟨.struct,15,176,(.agg #[(.slice none 0 0),(.slice none 0 0),(.int .i64 0),(.int .i64 0),(.int .i64 0),(.int .i64 0),(.int .i64 0),(.slice none 0 0),(.slice none 0 0),(.int .i32 0),(.int .u32 0),(.int .i64 0),(.int .i64 0),(.int .i64 0),(.map none)]),[(0,9,32),(9,2,154),(11,3,155),(14,1,156)]⟩
@[simp] def adr:TI:=⟨.struct,1,8,(.agg #[(.int .u64 0)]),[(0,0,159),(0,0,160),(0,1,81)]⟩
@[simp] def ads:TI:=⟨.struct,2,16,(.agg #[(.int .u64 0),(.int .u32 0)]),[(0,0,149),(0,1,162),(1,1,150)]⟩
@[simp] def adt:TI:=⟨.array 4 3,4,32,(.agg #[(.int .i64 0),(.int .i64 0),(.int .i64 0),(.int .i64 0)]),[]⟩
@[simp] def adu:TI:=⟨.array 3 110,3,3,(.agg #[(.int .u8 0),(.int .u8 0),(.int .u8 0)]),[]⟩
@[simp] def adv:TI:=⟨.array 3 124,3,48,(.agg #[.nilIface,.nilIface,.nilIface]),[]⟩
@[simp] def acO:TI:=⟨.struct,1,4,(.agg #[(.int .u32 0)]),[(0,0,159),(0,1,150)]⟩
@[simp] def adw:TI:=⟨.struct,3,12,(.agg #[(.int .u32 0),(.int .i32 0),(.int .u32 0)]),[(0,0,149),(0,1,187),(1,2,154)]⟩
@[simp] def adx:TI:=⟨.array 6 185,18,288,(.agg #[.nilIface,.nilIface,.nilIface,.nilIface,.nilIface,.nilIface,.nilIface,.nilIface,.nilIface,.nilIface,.nilIface,.nilIface,.nilIface,.nilIface,.nilIface,.nilIface,.nilIface,.nilIface]),[]⟩
@[simp] def ady:TI:=⟨.struct,21,304,(.agg #[(.int .u32 0),(.int .i32 0),(.int .u32 0),.nilIface,.nilIface,.nilIface,.nilIface,.nilIface,.nilIface,.nilIface,.nilIface,.nilIface,.nilIface,.nilIface,.nilIface,.nilIface,.nilIface,.nilIface,.nilIface,.nilIface,.nilIface]),[(0,3,189),(3,18,190)]⟩
@[simp] def adz:TI:=⟨.pointer 192,1,8,(.pointer none),[]⟩
@[simp] def adA:TI:=⟨.struct,1,8,(.agg #[(.int .i64 0)]),[(0,1,37)]⟩
@[simp] def adB:TI:=⟨.pointer 197,1,8,(.pointer none),[]⟩
@[simp] def adC:TI:=⟨.pointer 257,1,8,(.pointer none),[]⟩
@[simp] def adD:TI:=⟨.pointer 164,1,8,(.pointer none),[]⟩
@[simp] def adE:TI:=⟨.pointer 150,1,8,(.pointer none),[]⟩
@[simp] def adF:TI:=⟨.pointer 154,1,8,(.pointer none),[]⟩
@[simp] def adG:TI:=⟨.slice 100,1,24,(.slice none 0 0),[]⟩
@[simp] def adH:TI:=⟨.struct,3,24,(.agg #[(.pointer none),(.pointer none),(.int .u64 0)]),[(0,1,17),(1,1,210),(2,1,243)]⟩
@[simp] def adI:TI:=⟨.map 291 4,1,8,(.map none),[]⟩
@[simp] def adJ:TI:=⟨.struct,9,96,(.agg #[(.slice none 0 0),(.slice none 0 0),(.int .i64 0),(.int .i64 0),(.int .i64 0),(.int .i64 0),(.int .i32 0),(.int .u32 0),(.map none)]),[(0,6,28),(6,2,154),(8,1,255)]⟩
@[simp] def adK:TI:=⟨.chan 3,1,8,(.chan none),[]⟩
@[simp] def adL:TI:=⟨.struct,1,8,(.agg #[.nilFunc]),[(0,1,48)]⟩
@[simp] def adM:TI:=⟨.slice 239,1,24,(.slice none 0 0),[]⟩
@[simp] def adN:TI:=⟨.pointer 189,1,8,(.pointer none),[]⟩
@[simp] def adO:TI:=⟨.struct,1,1,(.agg #[(.int .u8 0)]),[(0,1,5)]⟩
@[simp] def adP:TI:=⟨.array 6 291,6,6,(.agg #[(.int .u8 0),(.int .u8 0),(.int .u8 0),(.int .u8 0),(.int .u8 0),(.int .u8 0)]),[]⟩
@[simp] def adQ:TI:=⟨.pointer 187,1,8,(.pointer none),[]⟩
@[simp] def adR:TI:=⟨.struct,4,40,(.agg #[(.pointer none),(.pointer none),(.pointer none),(.string ByteArray.empty)]),[(0,1,17),(1,1,17),(2,1,17),(3,1,9)]⟩
@[simp] def adS:TI:=⟨.array 0 16,0,0,(.agg #[]),[]⟩
@[simp] def adT:TI:=⟨.struct,0,0,(.agg #[]),[(0,0,312)]⟩
@[simp] def adU:TI:=⟨.pointer 5,1,8,(.pointer none),[]⟩
@[simp] def adV:TI:=⟨.struct,11,48,(.agg #[(.int .u64 0),(.int .u64 0),(.int .u32 0),(.int .u8 0),(.int .u8 0),(.int .u8 0),(.int .u8 0),.nilFunc,(.pointer none),(.int .i32 0),(.int .i32 0)]),[(0,1,12),(1,1,12),(2,1,150),(3,1,316),(4,1,5),(5,1,5),(6,1,248),(7,1,317),(8,1,318),(9,1,319),(10,1,320)]⟩
def Lq:List (Nat × TI):=[
 (1,acy),
 (2,acC),
 (3,acC),
 (4,acP),
 (5,acB),
 (6,acB),
 (7,acH),
 (8,acH),
 (9,acE),
 (10,acE),
 (11,acE),
 (12,acD),
 (13,acI),
 (14,acI),
 (15,acQ),
 (16,acR),
 (17,acS),
 (18,acF),
 (19,acF),
 (20,acA),
 (21,acG),
 (22,acT),
 (23,acU),
 (24,acV),
 (25,acJ),
 (26,acJ),
 (27,acK),
 (28,acK),
 (29,acW),
 (30,acX),
 (31,acL),
 (32,acL),
 (34,acy),
 (35,acY),
 (37,acC),
 (40,acy),
 (43,acy),
 (44,acy),
 (45,acy),
 (46,acy),
 (48,acy),
 (49,acM),
 (50,acM),
 (51,acy),
 (56,acZ),
 (58,ada),
 (59,adb),
 (62,ade),
 (67,acy),
 (72,acy),
 (73,acy),
 (81,acD),
 (83,adf),
 (84,adg),
 (87,acy),
 (88,acy),
 (90,adh),
 (93,adi),
 (99,acA),
 (100,acA),
 (102,acy),
 (105,acz),
 (108,acy),
 (110,acB),
 (112,adj),
 (114,acy),
 (115,acy),
 (121,acy),
 (124,acA),
 (125,acz),
 (145,adk),
 (147,acN),
 (148,acN),
 (149,acz),
 (150,adl),
 (152,adm),
 (154,adn),
 (155,ado),
 (156,adp),
 (158,adq),
 (159,acz),
 (160,acz),
 (162,adr),
 (164,ads),
 (167,adt),
 (170,acD),
 (172,acA),
 (175,acy),
 (176,acy),
 (177,adu),
 (184,acy),
 (185,adv),
 (186,acO),
 (187,acO),
 (189,adw),
 (190,adx),
 (192,ady),
 (193,adz),
 (195,acz),
 (197,adA),
 (199,adB),
 (201,adC),
 (204,acy),
 (208,adD),
 (211,acC),
 (215,adE),
 (219,adF),
 (224,acF),
 (226,acA),
 (229,acA),
 (231,acA),
 (232,adG),
 (239,acA),
 (243,acD),
 (245,adH),
 (248,acB),
 (255,adI),
 (257,adJ),
 (258,adK),
 (277,adL),
 (278,acz),
 (279,acz),
 (280,acz),
 (281,adM),
 (283,adN),
 (284,acz),
 (291,adO),
 (292,adP),
 (295,acy),
 (298,adQ),
 (311,adR),
 (312,adS),
 (314,adT),
 (316,acB),
 (317,acy),
 (318,adU),
 (319,acG),
 (320,acG),
 (322,adV),
 (328,acB)]
theorem Io:(Lq.all λx=>x.2.check Tryz.prog x.1)=true:=by kernel_rfl
def Bv(t:Nat):Option TI:=(Lq.find? λx=>x.1==t).map (·.2)
theorem Ff(t:Nat)(i:TI)(h:Bv t=some i):i.check Tryz.prog t=true:=by unfold Bv at h;obtain⟨x,a,rfl⟩:=ZJ.1 h;have c:=List.find?_some a;have b:=ZF.1 Io x (List.mem_of_find?_eq_some a);rw[aaG.1 c]at b;exact b
def lay:iW Tryz.prog:=⟨Bv,Ff,by kernel_rfl⟩
theorem rn{m:Mo}{fid n:Nat}{ro:ace}{hold:acb}{s:St}{K:cz.Exit->St->Prop}{todo:aci}(h:bx lay m fid n ro [] hold 1000 todo s K):aa Tryz.prog m fid n ro hold todo s K:=aa.run lay [] h
theorem pg{m:Mo}{ops:acd}{n:Nat}{Kp:abV}{R:abU}{p:nQ}{env:Env}{σ:ab}(h:gZ lay m [] ops n Kp p env σ R):aM Tryz.prog m ops n Kp p env σ R:=aM.go lay [] h
theorem cf{m:Mo}{f:FuncId}{fn:Func}{args:acs}{σ:ab}{KF:abW}(a:Tryz.prog.funcs[f]?=some fn)(hb:(fn.body.isSome && !(fn.name== "runtime.NumGoroutine"))=true)(h:az Tryz.prog m f args σ KF):bY Tryz.prog m (.fn (.func f) [] []) args σ KF:=by
 simp only[za,abd]at hb;exact ar a hb.1 hb.2 h
theorem fs{m:Mo}{f:FuncId}{fn:Func}{args:acs}{σ:ab}{KF:abW}{body:Code}(hold:acb)(b:Tryz.prog.funcs[f]?=some fn)(hb:fn.body=some body)(c:(nR fn args.length&&kG hold body)=true)(h:bx lay m f fn.ntmps none [] hold 1000 [.code body] ⟨di args,σ,[],.no⟩ (RD lay m fn.results.toList (nk KF))):az Tryz.prog m f args σ KF:=by simp only[za]at c;exact az.start lay [] hold _ b hb rfl c.1 c.2 h
@[simp] theorem Zt:lay.tt 1=some acy:=rfl
@[simp] theorem Zu:lay.tt 2=some acC:=rfl
@[simp] theorem rS:lay.tt 3=some acC:=rfl
@[simp] theorem Xm:lay.tt 4=some acP:=rfl
@[simp] theorem Xn:lay.tt 5=some acB:=rfl
@[simp] theorem Zv:lay.tt 6=some acB:=rfl
@[simp] theorem Zw:lay.tt 7=some acH:=rfl
@[simp] theorem Zx:lay.tt 8=some acH:=rfl
@[simp] theorem Zy:lay.tt 9=some acE:=rfl
@[simp] theorem YN:lay.tt 10=some acE:=rfl
@[simp] theorem YO:lay.tt 11=some acE:=rfl
@[simp] theorem YP:lay.tt 12=some acD:=rfl
@[simp] theorem YQ:lay.tt 13=some acI:=rfl
@[simp] theorem YR:lay.tt 14=some acI:=rfl
@[simp] theorem YS:lay.tt 15=some acQ:=rfl
@[simp] theorem YT:lay.tt 16=some acR:=rfl
@[simp] theorem YU:lay.tt 17=some acS:=rfl
@[simp] theorem YV:lay.tt 18=some acF:=rfl
@[simp] theorem YW:lay.tt 19=some acF:=rfl
@[simp] theorem YX:lay.tt 20=some acA:=rfl
@[simp] theorem YY:lay.tt 21=some acG:=rfl
@[simp] theorem dM:lay.tt 22=some acT:=rfl
@[simp] theorem mW:lay.tt 23=some acU:=rfl
@[simp] theorem oy:lay.tt 24=some acV:=rfl
@[simp] theorem YZ:lay.tt 25=some acJ:=rfl
@[simp] theorem V4:lay.tt 26=some acJ:=rfl
@[simp] theorem Y0:lay.tt 27=some acK:=rfl
@[simp] theorem Y1:lay.tt 28=some acK:=rfl
@[simp] theorem Q8:lay.tt 29=some acW:=rfl
@[simp] theorem OY:lay.tt 30=some acX:=rfl
@[simp] theorem Y2:lay.tt 31=some acL:=rfl
@[simp] theorem Y3:lay.tt 32=some acL:=rfl
@[simp] theorem Y4:lay.tt 34=some acy:=rfl
@[simp] theorem Y5:lay.tt 35=some acY:=rfl
@[simp] theorem Y6:lay.tt 37=some acC:=rfl
@[simp] theorem Y7:lay.tt 40=some acy:=rfl
@[simp] theorem Y8:lay.tt 43=some acy:=rfl
@[simp] theorem Y9:lay.tt 44=some acy:=rfl
@[simp] theorem Y':lay.tt 45=some acy:=rfl
@[simp] theorem Za:lay.tt 46=some acy:=rfl
@[simp] theorem Zb:lay.tt 48=some acy:=rfl
@[simp] theorem Zc:lay.tt 49=some acM:=rfl
@[simp] theorem Uc:lay.tt 50=some acM:=rfl
@[simp] theorem Zd:lay.tt 51=some acy:=rfl
@[simp] theorem yP:lay.tt 56=some acZ:=rfl
@[simp] theorem Ud:lay.tt 58=some ada:=rfl
@[simp] theorem Ue:lay.tt 59=some adb:=rfl
@[simp] theorem V5:lay.tt 62=some ade:=rfl
@[simp] theorem Ze:lay.tt 67=some acy:=rfl
@[simp] theorem Zf:lay.tt 72=some acy:=rfl
@[simp] theorem Zg:lay.tt 73=some acy:=rfl
@[simp] theorem Zh:lay.tt 81=some acD:=rfl
@[simp] theorem Zi:lay.tt 83=some adf:=rfl
@[simp] theorem Zj:lay.tt 84=some adg:=rfl
@[simp] theorem Zk:lay.tt 87=some acy:=rfl
@[simp] theorem Zl:lay.tt 88=some acy:=rfl
@[simp] theorem Zm:lay.tt 90=some adh:=rfl
@[simp] theorem Zn:lay.tt 93=some adi:=rfl
@[simp] theorem Zo:lay.tt 99=some acA:=rfl
@[simp] theorem GY:lay.tt 100=some acA:=rfl
@[simp] theorem Xo:lay.tt 102=some acy:=rfl
@[simp] theorem Xp:lay.tt 105=some acz:=rfl
@[simp] theorem Xq:lay.tt 108=some acy:=rfl
@[simp] theorem Lr:lay.tt 110=some acB:=rfl
@[simp] theorem Xr:lay.tt 112=some adj:=rfl
@[simp] theorem Xs:lay.tt 114=some acy:=rfl
@[simp] theorem Xt:lay.tt 115=some acy:=rfl
@[simp] theorem Xu:lay.tt 121=some acy:=rfl
@[simp] theorem Qa:lay.tt 124=some acA:=rfl
@[simp] theorem Xv:lay.tt 125=some acz:=rfl
@[simp] theorem Qb:lay.tt 145=some adk:=rfl
@[simp] theorem Xw:lay.tt 147=some acN:=rfl
@[simp] theorem Xx:lay.tt 148=some acN:=rfl
@[simp] theorem Xy:lay.tt 149=some acz:=rfl
@[simp] theorem Xz:lay.tt 150=some adl:=rfl
@[simp] theorem XA:lay.tt 152=some adm:=rfl
@[simp] theorem XB:lay.tt 154=some adn:=rfl
@[simp] theorem XC:lay.tt 155=some ado:=rfl
@[simp] theorem XD:lay.tt 156=some adp:=rfl
@[simp] theorem XE:lay.tt 158=some adq:=rfl
@[simp] theorem XF:lay.tt 159=some acz:=rfl
@[simp] theorem XG:lay.tt 160=some acz:=rfl
@[simp] theorem XH:lay.tt 162=some adr:=rfl
@[simp] theorem XI:lay.tt 164=some ads:=rfl
@[simp] theorem XJ:lay.tt 167=some adt:=rfl
@[simp] theorem XK:lay.tt 170=some acD:=rfl
@[simp] theorem XL:lay.tt 172=some acA:=rfl
@[simp] theorem XN:lay.tt 175=some acy:=rfl
@[simp] theorem XO:lay.tt 176=some acy:=rfl
@[simp] theorem Uf:lay.tt 177=some adu:=rfl
@[simp] theorem XP:lay.tt 184=some acy:=rfl
@[simp] theorem XQ:lay.tt 185=some adv:=rfl
@[simp] theorem XR:lay.tt 186=some acO:=rfl
@[simp] theorem XS:lay.tt 187=some acO:=rfl
@[simp] theorem XT:lay.tt 189=some adw:=rfl
@[simp] theorem XU:lay.tt 190=some adx:=rfl
@[simp] theorem XV:lay.tt 192=some ady:=rfl
@[simp] theorem Ug:lay.tt 193=some adz:=rfl
@[simp] theorem XW:lay.tt 195=some acz:=rfl
@[simp] theorem XX:lay.tt 197=some adA:=rfl
@[simp] theorem XY:lay.tt 199=some adB:=rfl
@[simp] theorem XZ:lay.tt 201=some adC:=rfl
@[simp] theorem X1:lay.tt 204=some acy:=rfl
@[simp] theorem X2:lay.tt 208=some adD:=rfl
@[simp] theorem X3:lay.tt 211=some acC:=rfl
@[simp] theorem X4:lay.tt 215=some adE:=rfl
@[simp] theorem X5:lay.tt 219=some adF:=rfl
@[simp] theorem X6:lay.tt 224=some acF:=rfl
@[simp] theorem X7:lay.tt 226=some acA:=rfl
@[simp] theorem X8:lay.tt 229=some acA:=rfl
@[simp] theorem X9:lay.tt 231=some acA:=rfl
@[simp] theorem Ya:lay.tt 232=some adG:=rfl
@[simp] theorem Uh:lay.tt 239=some acA:=rfl
@[simp] theorem Yb:lay.tt 243=some acD:=rfl
@[simp] theorem Yc:lay.tt 245=some adH:=rfl
@[simp] theorem Yd:lay.tt 248=some acB:=rfl
@[simp] theorem Ye:lay.tt 255=some adI:=rfl
@[simp] theorem Yf:lay.tt 257=some adJ:=rfl
@[simp] theorem GZ:lay.tt 258=some adK:=rfl
@[simp] theorem Yg:lay.tt 277=some adL:=rfl
@[simp] theorem Ui:lay.tt 278=some acz:=rfl
@[simp] theorem Uj:lay.tt 279=some acz:=rfl
@[simp] theorem Uk:lay.tt 280=some acz:=rfl
@[simp] theorem Yh:lay.tt 281=some adM:=rfl
@[simp] theorem Yi:lay.tt 283=some adN:=rfl
@[simp] theorem Yj:lay.tt 284=some acz:=rfl
@[simp] theorem Yk:lay.tt 291=some adO:=rfl
@[simp] theorem Yl:lay.tt 292=some adP:=rfl
@[simp] theorem Ym:lay.tt 295=some acy:=rfl
@[simp] theorem Yn:lay.tt 298=some adQ:=rfl
@[simp] theorem Yo:lay.tt 311=some adR:=rfl
@[simp] theorem Yp:lay.tt 312=some adS:=rfl
@[simp] theorem Yq:lay.tt 314=some adT:=rfl
@[simp] theorem Yr:lay.tt 316=some acB:=rfl
@[simp] theorem Ys:lay.tt 317=some acy:=rfl
@[simp] theorem Yt:lay.tt 318=some adU:=rfl
@[simp] theorem Yu:lay.tt 319=some acG:=rfl
@[simp] theorem Yv:lay.tt 320=some acG:=rfl
@[simp] theorem Yw:lay.tt 322=some adV:=rfl
@[simp] theorem Yx:lay.tt 328=some acB:=rfl
abbrev V6:acb:=[⟨4,.take [0,1,2,3,4,5,6,7,8] true (.done)⟩]
abbrev V7:acb:=[⟨3,.take [0,1,2] false (.both 3 (.one 4 (.one 5 (.one 6 (.one 7 (.one 8 (.one 9 (.done))))))) (.one 4 (.both 3 (.one 5 (.one 6 (.one 7 (.one 8 (.one 9 (.done)))))) (.one 5 (.both 3 (.one 6 (.one 7 (.one 8 (.one 9 (.done))))) (.one 6 (.both 3 (.one 7 (.one 8 (.one 9 (.done)))) (.one 7 (.one 3 (.one 8 (.one 9 (.done))))))))))))⟩]
abbrev V8:acb:=[⟨26,.take [0,1,2,3] false (.one 4 (.one 5 (.one 6 (.take [7,8,9,10,11] true (.done)))))⟩]
abbrev V9:acb:=[⟨19,.take [0,2,3,4,6,7,11] false (.both 1 (.both 5 (.one 8 (.one 9 (.take [10] true (.one 12 (.done))))) (.one 8 (.one 5 (.one 9 (.take [10] true (.one 12 (.done))))))) (.both 5 (.both 1 (.one 8 (.one 9 (.take [10] true (.one 12 (.done))))) (.one 8 (.both 1 (.one 9 (.take [10] true (.one 12 (.done)))) (.one 9 (.take [1,10] true (.one 12 (.done))))))) (.one 8 (.both 1 (.one 5 (.one 9 (.take [10] true (.one 12 (.done))))) (.one 5 (.both 1 (.one 9 (.take [10] true (.one 12 (.done)))) (.one 9 (.take [1,10] true (.one 12 (.done))))))))))⟩]
abbrev V':acb:=[⟨6,.take [0,1,2,3,4,5,6,7,8] true (.done)⟩]
abbrev Wa:acb:=[⟨3,.take [0,1,2,3,4,5,6,7,8,9] true (.done)⟩,⟨4,.take [0,1,2,3,4,5,6,7,8,9,10,11,12,13,14] true (.take [15] true (.done))⟩,⟨6,.take [0,1,2,3,5,6,7,11,12] false (.take [4,8,9,10] true (.one 13 (.done)))⟩]
abbrev Wb:acb:=[⟨7,.take [0,2,6] false (.both 1 (.one 3 (.one 4 (.one 5 (.one 7 (.done))))) (.one 3 (.both 1 (.one 4 (.one 5 (.one 7 (.done)))) (.one 4 (.take [1] true (.one 5 (.one 7 (.done))))))))⟩,⟨15,.take [0,2,5,6,8,11,12,13] false (.both 1 (.take [3,4,14] false (.one 7 (.take [9,10,16] false (.one 15 (.one 17 (.done)))))) (.one 7 (.take [9,10,16] false (.take [1,3,4,14] true (.one 15 (.one 17 (.done)))))))⟩,⟨21,.take [0,2,3,7] false (.both 1 (.one 4 (.one 5 (.one 6 (.one 8 (.done))))) (.one 4 (.both 1 (.one 5 (.one 6 (.one 8 (.done)))) (.one 5 (.take [1] true (.one 6 (.one 8 (.done))))))))⟩]
abbrev Ul:acb:=[⟨4,.take [0,1,2,3,4,5] false (.one 6 (.done))⟩]
abbrev Wc:acb:=[⟨16,.take [0,1,2,4,5,6,8,9,12] false (.both 3 (.one 7 (.one 10 (.one 11 (.one 13 (.done))))) (.one 7 (.both 3 (.one 10 (.one 11 (.one 13 (.done)))) (.one 10 (.take [3] true (.one 11 (.one 13 (.done))))))))⟩]
abbrev Um:acb:=[⟨1,.take [0,1,2,3,4] false (.both 5 (.one 6 (.one 7 (.done))) (.one 6 (.one 5 (.one 7 (.done)))))⟩,⟨4,.take [0,1,2,3,4,5] true (.one 6 (.done))⟩]
abbrev Uo:acb:=[⟨0,.take [0,1,3,4,6,7] false (.both 2 (.both 5 (.take [11] false (.both 8 (.take [12] false (.one 9 (.one 10 (.done)))) (.one 9 (.one 8 (.take [12] false (.one 10 (.done))))))) (.one 9 (.one 5 (.take [11] false (.one 8 (.take [12] false (.one 10 (.done)))))))) (.one 9 (.one 2 (.one 5 (.take [11] false (.one 8 (.take [12] false (.one 10 (.done)))))))))⟩,⟨8,.take [0,1,2,3,5,6,7,8] false (.one 4 (.one 9 (.done)))⟩]
abbrev Up:acb:=[⟨24,.take [0,1,2,3,4,5,6,7,8,9,10,11,12,13,14,15,16,17,18,19,20,21,22,23,24] true (.done)⟩,⟨29,.take [0,1,2,3,4,5,6,7,8,9,10,11,12,13,14,15,16,17,18,19,20,21,22] true (.done)⟩]
abbrev Uq:acb:=[⟨1,.take [0,1,2,3,4,5,6,7,8,9,10,11,12,13,14,15,16,17] false (.one 18 (.take [19] true (.done)))⟩]
abbrev Ur:acb:=[⟨4,.take [0,2,4] false (.take [1] true (.one 3 (.one 5 (.done))))⟩,⟨5,.take [0,1,2] false (.one 3 (.one 4 (.take [5,6,8,9,10,12,15,16,17] false (.both 7 (.both 11 (.both 13 (.both 14 (.one 18 (.one 19 (.take [20,21] true (.done)))) (.one 18 (.one 14 (.one 19 (.take [20,21] true (.done)))))) (.one 18 (.one 13 (.one 14 (.one 19 (.take [20,21] true (.done))))))) (.both 13 (.both 11 (.both 14 (.one 18 (.one 19 (.take [20,21] true (.done)))) (.one 18 (.one 14 (.one 19 (.take [20,21] true (.done)))))) (.one 18 (.one 11 (.one 14 (.one 19 (.take [20,21] true (.done))))))) (.one 18 (.both 11 (.one 13 (.one 14 (.one 19 (.take [20,21] true (.done))))) (.one 13 (.one 11 (.one 14 (.one 19 (.take [20,21] true (.done)))))))))) (.both 11 (.both 7 (.both 13 (.both 14 (.one 18 (.one 19 (.take [20,21] true (.done)))) (.one 18 (.one 14 (.one 19 (.take [20,21] true (.done)))))) (.one 18 (.one 13 (.one 14 (.one 19 (.take [20,21] true (.done))))))) (.both 13 (.both 7 (.both 14 (.one 18 (.one 19 (.take [20,21] true (.done)))) (.one 18 (.one 14 (.one 19 (.take [20,21] true (.done)))))) (.both 14 (.both 7 (.one 18 (.one 19 (.take [20,21] true (.done)))) (.one 18 (.one 7 (.one 19 (.take [20,21] true (.done)))))) (.one 18 (.both 7 (.one 14 (.one 19 (.take [20,21] true (.done)))) (.one 14 (.one 7 (.one 19 (.take [20,21] true (.done))))))))) (.one 18 (.both 7 (.one 13 (.one 14 (.one 19 (.take [20,21] true (.done))))) (.one 13 (.both 7 (.one 14 (.one 19 (.take [20,21] true (.done)))) (.one 14 (.one 7 (.one 19 (.take [20,21] true (.done))))))))))) (.both 13 (.both 7 (.both 11 (.both 14 (.one 18 (.one 19 (.take [20,21] true (.done)))) (.one 18 (.one 14 (.one 19 (.take [20,21] true (.done)))))) (.one 18 (.one 11 (.one 14 (.one 19 (.take [20,21] true (.done))))))) (.both 11 (.both 7 (.both 14 (.one 18 (.one 19 (.take [20,21] true (.done)))) (.one 18 (.one 14 (.one 19 (.take [20,21] true (.done)))))) (.both 14 (.both 7 (.one 18 (.one 19 (.take [20,21] true (.done)))) (.one 18 (.one 7 (.one 19 (.take [20,21] true (.done)))))) (.one 18 (.both 7 (.one 14 (.one 19 (.take [20,21] true (.done)))) (.one 14 (.one 7 (.one 19 (.take [20,21] true (.done))))))))) (.one 18 (.both 7 (.one 11 (.one 14 (.one 19 (.take [20,21] true (.done))))) (.one 11 (.both 7 (.one 14 (.one 19 (.take [20,21] true (.done)))) (.one 14 (.one 7 (.one 19 (.take [20,21] true (.done))))))))))) (.one 18 (.both 7 (.both 11 (.one 13 (.one 14 (.one 19 (.take [20,21] true (.done))))) (.one 13 (.one 11 (.one 14 (.one 19 (.take [20,21] true (.done))))))) (.both 11 (.both 7 (.one 13 (.one 14 (.one 19 (.take [20,21] true (.done))))) (.one 13 (.both 7 (.one 14 (.one 19 (.take [20,21] true (.done)))) (.one 14 (.one 7 (.one 19 (.take [20,21] true (.done)))))))) (.one 13 (.both 7 (.one 11 (.one 14 (.one 19 (.take [20,21] true (.done))))) (.one 11 (.both 7 (.one 14 (.one 19 (.take [20,21] true (.done)))) (.one 14 (.one 7 (.one 19 (.take [20,21] true (.done))))))))))))))))))⟩]
abbrev Us:acb:=[⟨1,.take [0,1,2,3,4,5] true (.one 6 (.done))⟩]
abbrev Ut:acb:=[⟨3,.take [0,1,2,3] false (.one 4 (.one 5 (.take [6,7,8,9,10] true (.done))))⟩,⟨6,.take [0,1,2,3,4,5] true (.one 6 (.done))⟩]
abbrev Uu:acb:=[⟨0,.take [0,1,2,3] false (.one 4 (.one 5 (.done)))⟩]
abbrev Qc:acb:=[⟨7,.take [0,1,2,3] true (.done)⟩]
abbrev Uv:acb:=[⟨1,.take [0,1,2,3,4,5,6,7,8,9] true (.done)⟩]
abbrev Uw:acb:=[⟨4,.take [0,1,2,3,4,5,6,7,9,10,11,12] false (.both 8 (.one 13 (.one 14 (.take [15,16] true (.done)))) (.one 13 (.one 8 (.one 14 (.take [15,16] true (.done))))))⟩,⟨6,.take [0,1,2,3,4,5,6,7,8,10,11,12,14,16] false (.take [9,13] true (.one 15 (.one 17 (.done))))⟩]
abbrev Ux:acb:=[⟨4,.take [0,1,2,3,4,5,6,7,8,9,10,11,12,13,14,15,16,17,18,19,20] true (.done)⟩]
abbrev Uy:acb:=[⟨8,.take [0,1,2,3,4,5,6,7,8,9,10,11,12,13,14] true (.done)⟩,⟨11,.take [0,1,3,4,5,6,7,8,10] false (.one 2 (.take [9,11] false (.one 12 (.one 13 (.take [14] true (.done))))))⟩,⟨17,.take [0,1,2,3] false (.one 4 (.one 5 (.take [6] true (.done))))⟩]
abbrev Uz:acb:=[⟨4,.take [0,1,2,3,4,5,6,7,8,9,10,11,12,13,14,15,16,17,18,19,20,21,22] false (.both 23 (.one 24 (.one 25 (.one 26 (.done)))) (.one 24 (.one 23 (.one 25 (.one 26 (.done))))))⟩,⟨5,.take [0,1,2,3,4,5,6,7,8,9,10,11,12,13,14,15,16,17,18,19,20,21,22,23,24,26,27] false (.one 25 (.one 28 (.one 29 (.take [30,31,32] true (.done)))))⟩]
attribute [simp] NX
abbrev int(n:Int):AV:=.lit (.int .i64 n)
abbrev u8(n:Int):AV:=.lit (.int .u8 n)
abbrev bool(b:Bool):AV:=.lit (.bool b)
abbrev ints(l:acm):AV:=.sl 1 (l.map int) .any
abbrev rows(l:abQ):AV:=.sl 1 (l.map ints) .any
structure xH where
 hour:Int
 place:Int
 cR:Int
 marks:acm
 bt:Int
 jw:Int
 deriving DecidableEq
structure Fr where
 aB:List xH
 roads:abQ
 aQ:Int
 eP:Int
 cM:Int
 aW:Int
 deriving DecidableEq
abbrev bu(e:xH):AV:=.agg [int e.hour,int e.place,int e.cR,ints e.marks,int e.bt,int e.jw]
abbrev jm(l:List xH):AV:=.sl 6 (l.map bu) .any
abbrev G1(f:Fr):acs:=[jm f.aB,rows f.roads,int f.aQ,int f.eP,int f.cM,int f.aW]
abbrev dz(f:Fr):AV:=.agg (G1 f)
abbrev lK(b mb:Nat)(f:Fr)(o:Nat):AV:=.kp b [jm f.aB,rows f.roads,int f.aQ,int f.eP,int f.cM,int f.aW,.lit (.int .i32 0),.lit (.int .u32 0),.map mb] [6,7] o
def bI(a lo hi:Int):Bool:=decide (lo<=a) && decide (a<=hi)
def G2:Option Int->Int->Bool
 |some q,h=>decide (h<=q)
 |none,_=>false
def sW:Option Int->acm->Int
 |_,[]=>0
 |p,h::l=>if bI h 0 4=false then 3 else if G2 p h=true then 5 else sW (some h) l
def cJ(places:Int)(e:xH):Int:=
 if bI e.hour 0 72=false then 1 else if bI e.place 0 (places-1)=false then 3 else if bI e.cR 0 5=false then 1 else if sW none e.marks≠0 then sW none e.marks
 else if bI e.bt 0 30=false then 1 else if bI e.jw 0 2=false then 8 else 0
def fM(f:xH->Int):List xH->Int
 |[]=>0
 |d::l=>if f d=0 then fM f l else f d
theorem OZ(l:acm)  i   h   p :sW p (l.drop i)=if bI l[i] 0 4=false then 3 else if G2 p l[i]=true then 5 else sW (some l[i]) (l.drop (i+1)):=by rw[aah h,sW]
theorem De  f  (l:List xH)  i   h :fM f (l.drop i)=if f l[i]=0 then fM f (l.drop (i+1))else f l[i]:=by rw[aah h,fM]
theorem Bw{α:Type}{l a:List α}{k}  g  (g':k<a.length) (h:l.take k=a.take k) (e:l[k]=a[k]):l.take (k+1)=a.take (k+1):=by rw[zA g,zA g',h,e]
def rd(r:abQ)(i j:Nat):Int:=(r.getD i []).getD j 0
def dN(r:abQ)(i j:Nat):Bool:=rd r i i !=0||rd r i j !=rd r j i||(List.range r.length).any λk=>decide (rd r i j>rd r i k+rd r k j)
def lL(n:Nat)(l:acm):Int:=if l.length≠n then 9 else if l.all (bI · 0 9)then 0 else 1
def gS(n:Nat):abQ->Int
 |[]=>0
 |l::r=>if lL n l=0 then gS n r else lL n l
def fN(r:abQ):Int:=
 if r.length<1 then 7 else if 3<r.length then 6 else if gS r.length r≠0 then gS r.length r
 else if(List.range r.length).any (λi=>(List.range r.length).any λj=>dN r i j)then 9 else 0
def check(f:Fr):Int:=
 if fN f.roads≠0 then fN f.roads else if(bI f.aQ 0 3 && bI f.eP 0 3)=false then 1 else if f.eP<f.aQ then 5
 else if(bI f.cM 1 6 && bI f.aW 1 6)=false then 1 else if(6:Int)<f.aB.length then 6 else fM (cJ f.roads.length) f.aB
theorem Fg  n  (l:abQ)  i   h :gS n (l.drop i)=if lL n l[i]=0 then gS n (l.drop (i+1))else lL n l[i]:=by rw[aah h,gS]
structure Fr.Fits(f:Fr):Prop where
 aB:f.aB.length<1152921504606846976
 roads:f.roads.length<1152921504606846976
 row:∀r∈f.roads,r.length<1152921504606846976
 marks:∀e∈f.aB,e.marks.length<1152921504606846976
def jo(i:Int):acm->Int->Int
 |[],_=>-1
 |x::l,v=>if x=v then i else jo (i+1) l v
def pK(l:acm)(v:Int):Int:=jo 0 l v
theorem zT(l:acm)  v   i   h   c :jo c (l.drop i) v=if l[i]=v then c else jo (c+1) (l.drop (i+1)) v:=by rw[aah h,jo]
theorem xI  v :∀  l   i ,0<=i->(0<=jo i l v↔v∈l)
 |[],i,h=>by simp[jo]
 | x::l,i,h=>by
   unfold jo;split
   . simp_all
   . next e=>rw[xI v l (i+1) (by omega)];grind
theorem jW  l   v :0<=pK l v↔v∈l:=xI v l 0 (Int.le_refl _)
def iR(f:Fr)(e:xH):acm:=if e.jw≠0 then(List.range (f.eP-f.aQ+1).toNat).map λi:Nat=>e.bt-f.eP+(i:Int)else[]
def bT(f:Fr)(e:xH):acm:=if e.jw≠1/\e.bt∉iR f e then iR f e++[e.bt]else iR f e
def iD(first:acm)(others:abQ):acm:=first.filter λx=>others.all λl=>decide (x∈l)
def aR(f:Fr)(i:Int):xH:=f.aB.getD i.toNat ⟨0,0,0,[],0,0⟩
def fT(f:Fr)(l:acm):acm:=match l.map λi=>bT f (aR f i)with|[]=>[]|a::r=>iD a r
def UA(a b:Int):Int:=IntKind.u8.wrap (((BitVec.ofInt 8 a|||BitVec.ofInt 8 b).toNat:Nat):Int)
def Df(a b:Int):Int:=IntKind.u8.wrap (((BitVec.ofInt 8 a &&& BitVec.ofInt 8 b).toNat:Nat):Int)
def xJ(a b:Int):Int:=IntKind.u8.wrap (((BitVec.ofInt 8 a ^^^ BitVec.ofInt 8 b).toNat:Nat):Int)
def Qd(a b:Int):Int:=IntKind.u8.wrap (a-b)
theorem sX  a b :oV .or .u8 a b=some (.int .u8 (UA a b)):=rfl
theorem uk  a b :oV .and .u8 a b=some (.int .u8 (Df a b)):=rfl
theorem Ip  a b :oV .xor .u8 a b=some (.int .u8 (xJ a b)):=rfl
theorem Iq  a b :oV .sub .u8 a b=some (.int .u8 (Qd a b)):=rfl
def bS(m n:Int):Int:=UA m (IntKind.u8.wrap (2 ^ min n.toNat IntKind.u8.bits))
def fH(m n:Int):Bool:=Df (m.fdiv (2 ^ min n.toNat IntKind.u8.bits)) 1==1
def aA(m:Int):acm:=((List.range 6).map λn:Nat=>(n:Int)).filter λn=>fH m n
def aX(l:acm):Int:=l.foldl bS 0
end
section
open Go.cz Go.Conc
variable{m:Mo}{σ:ab}{KF:abW}
theorem ew{a lo hi}(h:KF (.val (bool (bI a lo hi))) σ):az prog m 155 [int a,int lo,int hi] σ KF:=by
 unfold bI at h;refine fs [] Tryz.func155 rfl (by kernel_rfl) ?_;simp[Tryz.f155];refine tJ.intro (λb=>?_) (λb=>?_)<;>simp[b]
 . exact .done (by simp_all)
 . exact .done (by simp_all)
theorem Ls{l v}(j:l.length<1152921504606846976)(h:KF (.val (int (pK l v))) σ):az prog m 63 [ints l,int v] σ KF:=by
 refine fs [] Tryz.func63 rfl (by kernel_rfl) ?_;simp[Tryz.f63];refine aa.loop l.length (λk s=>∃env,s=⟨env,σ,[],.no⟩/\env 0=ints l/\env 1=int v/\env 7=int l.length/\env 8=int k/\jo 0 l v=jo k (l.drop k) v) ⟨_,rfl,by simp⟩ ?_;rintro n k _ o ⟨env,rfl,e,f,g,d,a⟩ i;apply rn;simp[g,d];apply aG.intro<;>intro c<;>simp at c<;>simp[e,f,d,c]
 . rw[zT l v k c]at a
   refine aG.intro (λb=>?_) (λb=>?_)<;>(try simp at b)<;>(try simp[b]at a)<;>(try simp[d,b])<;>(try exact .done a)
   . subst b
     unfold pK at h;rw[a]at h;exact .done h
   . refine⟨by omega,i _ c ⟨_,rfl,?_,?_,?_,?_,by grind⟩⟩<;>simp[e,f,g]
 . have:k=l.length:=by omega
   subst this;unfold pK at h;rw[a]at h;simp[jo]at h;exact .done h
theorem mI{l v}(a:l.length<1152921504606846976)(h:KF (.val (bool (decide (v∈l)))) σ):az prog m 66 [ints l,int v] σ KF:=by
 refine fs [] Tryz.func66 rfl (by kernel_rfl) ?_;simp[Tryz.f66];refine cf Tryz.func63 rfl (Ls a ?_);apply rn;simp;rw[<-decide_eq_decide.2 (jW l v)]at h;exact .done h
theorem pL{l v}(i:l.length<1152921504606846976)(h:KF (.val (int (pK l v))) σ):az prog m 24 [ints l,int v] σ KF:=by
 refine fs [] Tryz.func24 rfl (by kernel_rfl) ?_;simp[Tryz.f24];refine aa.loop l.length (λk s=>∃env,s=⟨env,σ,[],.no⟩/\env 0=ints l/\env 1=int v/\env 5=int k/\jo 0 l v=jo k (l.drop k) v) ⟨_,rfl,by simp⟩ ?_;rintro j k _ n ⟨env,rfl,d,f,e,a⟩ g;apply rn;simp[d,e];apply aG.intro<;>intro c<;>simp at c<;>simp[d,f,e,c]
 . rw[zT l v k c]at a
   refine aG.intro (λb=>?_) (λb=>?_)<;>(try simp at b)<;>(try simp[b]at a)<;>(try simp[e,b])<;>(try exact .done a)
   . subst b
     unfold pK at h;rw[a]at h;exact .done h
   . refine⟨by omega,g _ c ⟨_,rfl,?_,?_,?_,by grind⟩⟩<;>simp[d,f]
 . have:k=l.length:=by omega
   subst this;unfold pK at h;rw[a]at h;simp[jo]at h;exact .done h
theorem pM{a b}(r:a.length<1152921504606846976)(hb:b.length<1152921504606846976)(h:KF (.val (bool (decide (a=b)))) σ):az prog m 15 [ints a,ints b] σ KF:=by
 refine fs V6 Tryz.func15 rfl (by kernel_rfl) ?_;simp[Tryz.f15];refine aa.loop a.length (λk s=>∃env,s=⟨env,σ,[],.no⟩/\env 0=ints a/\env 1=ints b/\env 5=int k/\k<=b.length/\a.take k=b.take k) ⟨_,rfl,by simp⟩ ?_;rintro t k _ u ⟨env,rfl,d,i,f,o,n⟩ p;apply rn;simp[d,f];refine tJ.intro (λc=>?_) (λc=>?_)<;>(try simp[-Nat.not_lt,-Nat.not_le]at c)<;>(try simp[d,i,f,c])
 . refine aG.intro (λg=>?_) (λg=>?_)<;>(try simp[-Nat.not_lt,-Nat.not_le]at g)<;>(try simp[d,i,f,g,c])
   . apply rn
     simp;apply aG.intro<;>intro j<;>simp at j<;>simp[f,j]
     . have:a≠b:=λe=>by simp_all
       simp[this]at h;exact .done h
     . refine⟨by omega,p _ c ⟨_,rfl,?_,?_,?_,by omega,Bw c g n j⟩⟩<;>simp[d,i]
   . have:a≠b:=λe=>by simp_all
     have l:((a.length:Int)==b.length)=false:=by grind
     rw[l];exact .done (by simp_all)
 . have:k=a.length:=by omega
   subst this;rw[ZL]at n;by_cases e:a.length=b.length
   . have:a=b:=by grind
     exact .done (by grind)
   . have:a≠b:=λq=>e (by rw[q])
     have l:((a.length:Int)==b.length)=false:=by grind
     rw[l];exact .done (by grind)
theorem Dg{n}(h:KF (.val (bool false)) σ):az prog m 197 [int n] σ KF:=by
 refine fs [] Tryz.func197 rfl (by kernel_rfl) ?_;simp[Tryz.f197];exact .done h
def Bx(x y:Int):Int:=if x<y then -1 else if y<x then 1 else 0
theorem Fh{x y}(h:KF (.val (int (Bx x y))) σ):az prog m 176 [int x,int y] σ KF:=by
 unfold Bx at h;refine fs [] Tryz.func176 rfl (by kernel_rfl) ?_;simp[Tryz.f176];refine cf Tryz.func197 rfl (Dg ?_);apply rn;simp;refine cf Tryz.func197 rfl (Dg ?_);apply rn;simp;refine aG.intro (λa=>?_) (λa=>?_)<;>(try simp[-Int.not_lt,-Int.not_le]at a)<;>(try simp[a]at h)<;>(try simp[a])<;>(try exact .done h);refine aG.intro (λb=>?_) (λb=>?_)<;>(try simp[-Int.not_lt,-Int.not_le]at b)<;>(try simp[b]at h)<;>(try simp[b])<;>(try exact .done h)
theorem yQ{e places}(w:0<=places/\places<1152921504606846976)(x:e.marks.length<1152921504606846976)(h:KF (.val (int (cJ places e))) σ):az prog m 156 [bu e,int places] σ KF:=by
 unfold cJ at h;refine fs [] Tryz.func156 rfl (by kernel_rfl) ?_;simp[Tryz.f156];refine cf Tryz.func155 rfl (ew ?_);apply rn;simp;refine aG.intro (λi=>?_) (λi=>?_)<;>(try simp at i)<;>(try simp[i]at h)<;>(try simp[i])<;>(try exact .done h);refine⟨by omega,?_⟩;refine cf Tryz.func155 rfl (ew ?_);apply rn;simp;refine aG.intro (λj=>?_) (λj=>?_)<;>(try simp at j)<;>(try simp[j]at h)<;>(try simp[j])<;>(try exact .done h);refine cf Tryz.func155 rfl (ew ?_);apply rn;simp;refine aG.intro (λl=>?_) (λl=>?_)<;>(try simp at l)<;>(try simp[l]at h)<;>(try simp[l])<;>(try exact .done h);refine aa.loop e.marks.length (λk s=>∃env,s=⟨env,σ,[],.no⟩/\env 2=.cp (bu e) 0/\env 22=ints e.marks/\env 23=int e.marks.length/\env 24=int k/\sW none e.marks=sW (if k=0 then none else e.marks[k-1]?) (e.marks.drop k)) ⟨_,rfl,by simp⟩ ?_
 rintro y k _ z ⟨env,rfl,n,f,g,b,a⟩ r;apply rn;simp[g,b];apply aG.intro<;>intro o<;>simp at o<;>simp[n,f,b,o]
 . rw [OZ _ k o]at a
   refine cf Tryz.func155 rfl (ew ?_);apply rn;simp;refine aG.intro (λc=>?_) (λc=>?_)<;>(try simp at c)<;>(try simp[c]at a)<;>(try simp[c])<;>(try exact .done a)
   . refine tJ.intro (λd=>?_) (λd=>?_)<;>(try simp at d)<;>(try simp[d]at a)<;>(try simp[n,b,d])<;>(try exact .done a)
     . have t:(k:Int)-1=((k-1:Nat):Int):=by omega
       have q:k-1<e.marks.length:=by omega
       have u:¬k=0:=by omega
       simp[t,q];repeat refine⟨by omega,?_⟩
       try simp[q,u,G2]at a
       refine aG.intro (λp=>?_) (λp=>?_)<;>(try simp at p)<;>(try simp[p]at a)<;>(try simp[b,p])<;>(try exact .done a)
       . simp[a]at h
         exact .done h
       . refine⟨by omega,r _ o ⟨_,rfl,by simp[n],by simp[f],by simp[g],by simp,?_⟩⟩
         grind
     . have v:k=0:=by omega
       subst v;simp[G2]at a
       simp_all
   . simp[a]at h
     exact .done h
 . have:k=e.marks.length:=by omega
   subst this;simp[sW]at a;simp[a]at h;refine cf Tryz.func155 rfl (ew ?_);apply rn;simp;refine aG.intro (λc=>?_) (λc=>?_)<;>(try simp at c)<;>(try simp[c]at h)<;>(try simp[n,c])<;>(try exact .done h);refine cf Tryz.func155 rfl (ew ?_);apply rn;simp;refine aG.intro (λd=>?_) (λd=>?_)<;>(try simp at d)<;>(try simp[d]at h)<;>(try simp[d])<;>(try exact .done h)
theorem kK{n}:∀{r},gS n r=0->∀l∈r,l.length=n/\∀x∈l,bI x 0 9=true
 |[],_,l,b=>by simp at b
 | a :: r,h,l,b=>by
   unfold gS at h;split at h
   . next c=>
     rcases ZW.1 b with rfl|b
     . unfold lL at c
       grind
     . exact kK h l b
   omega
theorem nF{r i j}  hi  (hj:j<r[i].length):rd r i j=r[i][j]:=by simp[rd,zH,hi,hj]
theorem dA{a lo hi}(h:bI a lo hi=true):lo<=a/\a<=hi:=by simpa[bI]using h
theorem yR{r}(hr:r.length<1152921504606846976)(hl:∀l∈r,l.length<1152921504606846976)(h:KF (.val (int (fN r))) σ):az prog m 154 [rows r] σ KF:=by
 unfold fN at h;refine fs Up Tryz.func154 rfl (by kernel_rfl) ?_
 simp[Tryz.f154];refine aG.intro (λV=>?_) (λV=>?_)<;>simp at V<;>simp[V]
 . rw[ZG (show r.length<1 by omega)]at h
   exact .done h
 refine aG.intro (λW=>?_) (λW=>?_)<;>simp at W<;>simp[W]
 . have X:¬r.length<1:=by omega
   have P:3<r.length:=by omega
   rw[ZB (show ¬r.length<1 by omega),ZG P]at h
   exact .done h
 have X:¬r.length<1:=by omega
 have P:¬3<r.length:=by omega
 rw[ZB X,ZB P]at h;refine aa.loop r.length (λk s=>∃env,s=⟨env,σ,[],.no⟩/\env 0=rows r/\env 19=rows r/\env 20=int r.length/\env 21=int k/\gS r.length r=gS r.length (r.drop k)) ⟨_,rfl,by simp⟩ ?_
 rintro c0 k _ hk ⟨env,rfl,a,n,o,g,v⟩ Q
 apply rn;simp[o,g];apply aG.intro<;>intro H<;>simp at H<;>simp[a,n,g,H]
 . rw [Fg _ _ k H]at v
   obtain⟨l,I⟩:∃l,l=r[k]:=⟨_,rfl⟩;simp only[<-I]at v ⊢;have av:l.length<1152921504606846976:=hl l (by rw[I];exact zD H)
   refine aG.intro (λb=>?_) (λb=>?_)<;>simp at b<;>simp[b]
   . have w:l.length≠r.length:=λe=>b (by rw[e])
     simp[lL,w]at v;simp[v]at h;exact .done h
   have w:l.length=r.length:=by omega
   refine aa.loop l.length (λj s=>∃env,s=⟨env,σ,[],.no⟩/\env 0=rows r/\env 19=rows r/\env 20=int r.length/\env 21=int k/\env 30=ints l/\env 31=int l.length/\env 32=int j/\(l.take j).all (bI · 0 9)=true) ⟨_,rfl,by simp[a,n,o,g,w]⟩ ?_
   clear a n o g
   rintro c1 j _ R ⟨env,rfl,a,n,o,g,J,K,B,x⟩ C
   apply rn;simp[K,B];apply aG.intro<;>intro p<;>simp at p<;>simp[g,J,B,p]
   . refine cf Tryz.func155 rfl (ew ?_)
     apply rn;simp;refine aG.intro (λu=>?_) (λu=>?_)<;>(try simp at u)<;>(try simp[B,u])
     . refine⟨by omega,C _ p ⟨_,rfl,by simp[a],by simp[n],by simp[o],by simp[g],by simp[J],by simp[K],by simp,?_⟩⟩
       rw[zA p,List.all_append,x];simp[u]
     . have:l.all (bI · 0 9)=false:=by
        rw[List.all_eq_false];exact⟨_,zD p,by simp[u]⟩
       simp[lL,w,this]at v;simp[v]at h;exact .done h
   . have:j=l.length:=by omega
     subst this;rw[ZL]at x;have Y:lL r.length l=0:=by unfold lL;rw[ZB (by simp[w]),ZG x]
     rw[ZG Y]at v;refine⟨by omega,Q _ H ⟨_,rfl,?_,?_,?_,?_,v⟩⟩<;>simp[a,n,o]
 have:k=r.length:=by omega
 subst this;simp[gS]at v;rw[ZB (by omega)]at h
 clear Q;have al:∀(i:Nat) (F:i<r.length),r[i].length=r.length:=λi F=>(kK v _ (zD F)).1
 have L:∀(i:Nat) (F:i<r.length) (j:Nat) (R:j<r[i].length),0<=r[i][j]/\r[i][j]<=9:=λi F j R=>dA ((kK v _ (zD F)).2 _ (zD R))
 refine aa.loop r.length (λi s=>∃env,s=⟨env,σ,[],.no⟩/\env 0=rows r/\env 41=rows r/\env 42=int r.length/\env 43=int i/\∀i'<i,∀j<r.length,dN r i' j=false) ⟨_,rfl,by simp[a]⟩ ?_
 clear a n o g
 rintro c1 i _ F ⟨env,rfl,a,f,d,c,Z⟩ Q
 apply rn;simp[d,c];apply aG.intro<;>intro b<;>simp at b<;>simp[a,c,b]
 . refine aa.loop r.length (λj s=>∃env,s=⟨env,σ,[],.no⟩/\env 0=rows r/\env 41=rows r/\env 42=int r.length/\env 43=int i/\env 8=int i/\env 46=rows r/\env 47=int r.length/\env 48=int j/\∀D<j,dN r i D=false) ⟨_,rfl,by simp[a,f,d,c]⟩ ?_
   clear a f d c
   rintro c2 j _ R ⟨env,rfl,a,f,d,c,z,y,t,q,ax⟩ C
   apply rn;simp[t,q];apply aG.intro<;>intro p<;>simp at p<;>simp[a,c,z,q,p]
   . have q1 : i<r[i].length:=by grind
     have G:j<r[i].length:=by grind
     have q3:i<r[j].length:=by grind
     simp[z,b,q1];refine NN.intro (λu=>?_) (λu=>?_)<;>(try simp at u)<;>(try simp[a,z,u,b,p,G,q3])
     . apply rn
       simp;apply aG.intro<;>intro S<;>simp at S<;>simp[a,S]
       ·
        have hb:dN r i j=true:=by unfold dN;rw[nF b G,nF p q3];simp[S]
        have:((List.range r.length).any λi=>(List.range r.length).any λj=>dN r i j)=true:=aac.2 ⟨i,ZE.2 b,aac.2 ⟨j,ZE.2 p,hb⟩⟩
        rw[ZG this]at h;exact .done h
       . refine aa.loop r.length (λk s=>∃env,s=⟨env,σ,[],.no⟩/\env 0=rows r/\env 41=rows r/\env 42=int r.length/\env 43=int i/\env 8=int i/\env 46=rows r/\env 47=int r.length/\env 48=int j/\env 9=int j/\env 76=rows r/\env 77=int r.length/\env 78=int k/\∀M<k,¬rd r i j>rd r i M+rd r M j) ⟨_,rfl,by simp[a,f,d,c,z,y,t,q]⟩ ?_
         clear a f d c z y t q
         rintro c3 k _ hk ⟨env,rfl,a,f,d,c,z,y,t,q,h9,a7,N,E,a8⟩ a9
         apply rn;simp[N,E];apply aG.intro<;>intro A<;>simp at A<;>simp[a,z,q,E,A]
         . have T:k<r[i].length:=by grind
           have U:j<r[k].length:=by grind
           have b1:=L i b k T;have b2:=L k A j U;have f1:-9223372036854775808<=r[i][k]+r[k][j]:=by omega
           have f2:r[i][k]+r[k][j]<=9223372036854775807:=by omega
           simp[a,z,h9,b,A,G,T,U,f1,f2];apply rn;simp;apply aG.intro<;>intro O<;>simp at O<;>simp[E,O]
           . have hb:dN r i j=true:=by
              unfold dN;have:((List.range r.length).any λk=>decide (rd r i j>rd r i k+rd r k j))=true:=aac.2 ⟨k,ZE.2 A,by rw[nF b G,nF b T,nF A U];grind⟩
              grind
             have:((List.range r.length).any λi=>(List.range r.length).any λj=>dN r i j)=true:=aac.2 ⟨i,ZE.2 b,aac.2 ⟨j,ZE.2 p,hb⟩⟩
             rw[ZG this]at h;exact .done h
           . refine⟨by omega,a9 _ A ⟨_,rfl,by simp[a],by simp[f],by simp[d],by simp[c],by simp[z],by simp[y],by simp[t],by simp[q],by simp[h9],by simp[a7],by simp[N],by simp,λM ay=>?_⟩⟩
             by_cases e:M=k
             . subst e
               rw[nF b G,nF b T,nF A U];omega
             . exact a8 M (by omega)
         . have:k=r.length:=by omega
           subst this;refine⟨by omega,C _ p ⟨_,rfl,by simp[a],by simp[f],by simp[d],by simp[c],by simp[z],by simp[y],by simp[t],by simp,λD ad=>?_⟩⟩
           by_cases e:D=j
           . subst e
             unfold dN
             have X:((List.range r.length).any λk=>decide (rd r i D>rd r i k+rd r k D))=false:=by
              rw[aaO]
              grind
             have P:rd r i i=0:=by rw[nF b q1];exact u
             have e3:rd r i D=rd r D i:=by rw[nF b G,nF p q3];exact S
             grind
           grind
     . have e:(r[i][i] !=0)=true:=by simp[u]
       simp[e];apply rn;simp
       have hb:dN r i j=true:=by unfold dN;rw[nF b q1];simp[u]
       have:((List.range r.length).any λi=>(List.range r.length).any λj=>dN r i j)=true:=aac.2 ⟨i,ZE.2 b,aac.2 ⟨j,ZE.2 p,hb⟩⟩
       rw[ZG this]at h;exact .done h
   . have:j=r.length:=by omega
     subst this;refine⟨by omega,Q _ b ⟨_,rfl,by simp[a],by simp[f],by simp[d],by simp,λi' aC j ad=>?_⟩⟩
     grind
 . have:i=r.length:=by omega
   subst this
   have:((List.range r.length).any λi=>(List.range r.length).any λj=>dN r i j)=false:=by grind
   rw[this]at h;exact .done (by grind)
theorem Dh{f}(g:f.Fits)(h:KF (.val (int (check f))) σ):az prog m 112 [dz f] σ KF:=by
 unfold check at h;have z:=g.roads;have x:=g.aB;refine fs [] Tryz.func112 rfl (by kernel_rfl) ?_;simp[Tryz.f112];refine cf Tryz.func154 rfl (yR g.roads g.row ?_);apply rn;simp;refine aG.intro (λn=>?_) (λn=>?_)<;>(try simp at n)<;>(try simp[n]at h)<;>(try simp[n])<;>(try exact .done h);refine cf Tryz.func155 rfl (ew ?_);apply rn;simp;refine tJ.intro (λo=>?_) (λo=>?_)<;>(try simp at o)<;>(try simp[o]at h)<;>(try simp[o])<;>(try exact .done h);refine cf Tryz.func155 rfl (ew ?_);apply rn;simp;refine aG.intro (λp=>?_) (λp=>?_)<;>(try simp at p)<;>(try simp[p]at h)<;>(try simp[p])<;>(try exact .done h);refine aG.intro (λq=>?_) (λq=>?_)<;>(try simp[-Int.not_lt,-Int.not_le]at q)<;>(try simp[q]at h)<;>(try simp[q])<;>(try exact .done h)
 refine cf Tryz.func155 rfl (ew ?_);apply rn;simp;refine tJ.intro (λr=>?_) (λr=>?_)<;>(try simp at r)<;>(try simp[r]at h)<;>(try simp[r])<;>(try exact .done h);refine cf Tryz.func155 rfl (ew ?_);apply rn;simp;refine aG.intro (λt=>?_) (λt=>?_)<;>(try simp at t)<;>(try simp[t]at h)<;>(try simp[t])<;>(try exact .done h);refine aG.intro (λu=>?_) (λu=>?_)<;>(try simp[-Int.not_lt,-Int.not_le]at u)<;>(try simp[u]at h)<;>(try simp[u])<;>(try exact .done h);refine aa.loop f.aB.length (λk s=>∃env a,s=⟨env,a,[],.no⟩/\σ.Le a/\env 1=.cp (dz f) 0/\env 47=jm f.aB/\env 48=int f.aB.length/\env 49=int k/\fM (cJ f.roads.length) f.aB=fM (cJ f.roads.length) (f.aB.drop k)) ⟨_,_,rfl,ab.le_refl _,by simp⟩ ?_;rintro A k _ B ⟨env,a,rfl,c,w,i,j,d,e⟩ y;apply rn;simp[j,d];apply aG.intro<;>intro l<;>simp at l<;>simp[i,d,l]
 . rw[De _ _ k l]at e
   refine bV.intro λb hb=>?_
   simp[w];refine cf Tryz.func156 rfl (yQ ⟨by omega,by omega⟩ (g.marks _ (zD l)) ?_);apply rn;simp;refine aG.intro (λv=>?_) (λv=>?_)<;>(try simp at v)<;>(try simp[v]at e)<;>(try simp[d,v])<;>(try exact .done e)
   . rw[e]at h
     exact .less (ab.rz c hb) (.done h)
   . refine⟨by omega,y _ l ⟨_,_,rfl,ab.rz c hb,?_,?_,?_,?_,e⟩⟩<;>simp[w,i,j]
 . have:k=f.aB.length:=by omega
   subst this;simp[fM]at e;rw[e]at h;exact .less c (.done h)
structure vL(σ:ab)  b mb   σ' :Prop where
 hb:σ b=none
 BV:σ mb=none
 ne:b≠mb
 eq:σ'=(σ.set mb (mapA .u8 [])).set b (.part (bH 6))
def Lt(f:Fr)(σ:ab):abW:=λr a=>∃b mb,r=.val (.ref b 0)/\σ b=none/\σ mb=none/\b≠mb/\a=(σ.set mb (mapA .u8 [])).set b (.cells [jm f.aB,rows f.roads,int f.aQ,int f.eP,int f.cM,int f.aW,.lit (.int .i32 0),.lit (.int .u32 0),.map mb])
theorem Fi{f}(h:∀b mb σ',vL σ b mb σ'->KF (.val (lK b mb f 0)) σ'):az prog m 157 [dz f] σ KF:=by
 refine az.share (KF0:=Lt f σ) ?_ ?_
 . refine az.start lay [6] [] 1 Tryz.func157 rfl rfl (by rfl) (by kernel_rfl) ?_
   simp[Tryz.f157];refine uR (HA .u8) rfl λmb BV=>?_
   refine aa.run lay [6] ?_;simp[aJ];refine bV.intro λb hb=>?_
   obtain⟨d,e,hb⟩:=ab.aP hb;simp;exact .done ⟨b,mb,rfl,hb,BV,d,rfl⟩
 . rintro r σ' ⟨b,mb,rfl,hb,BV,a,rfl⟩
   refine .inr ⟨b,_,[6,7],bH 6,rfl,ab.ai _ _ _,λi v c=>?_,λi=>?_,?_⟩
   . unfold bH at c
     split at c
     . simp_all
     simp_all
   . unfold bH
     grind
   . exact h b mb _ ⟨hb,BV,a,by simp⟩
def gT(f:Fr)(l:acm):Int:=if check f≠0 then check f else if l.all (bI · 0 (f.aB.length-1))then 0 else 3
theorem G3{f l}(o:f.Fits)(v:l.length<1152921504606846976)(h:gT f l≠0->KF (.val (.ck [.lit (.pointer none),int (gT f l)])) σ)
 (q:gT f l=0->∀b mb σ',vL σ b mb σ'->KF (.val (.ck [lK b mb f 0,int 0])) σ'):az prog m 113 [dz f,ints l] σ KF:=by
 have r:=o.aB;refine fs [] Tryz.func113 rfl (by kernel_rfl) ?_
 simp[Tryz.f113];refine cf Tryz.func112 rfl (Dh o ?_);apply rn;simp;refine aG.intro (λi=>?_) (λi=>?_)<;>simp at i<;>simp[i]
 . have:gT f l=check f:=by unfold gT;omega
   rw[this]at h;exact .done (h i)
 refine aa.loop l.length (λk s=>∃env,s=⟨env,σ,[],.no⟩/\env 2=.cp (dz f) 0/\env 14=ints l/\env 15=int l.length/\env 16=int k/\(l.take k).all (bI · 0 (f.aB.length-1))=true) ⟨_,rfl,by simp⟩ ?_
 rintro w k _ x ⟨env,rfl,p,d,g,c,a⟩ t
 apply rn;simp[g,c];apply aG.intro<;>intro j<;>simp at j<;>simp[p,d,c,j]
 . refine⟨by omega,?_⟩
   refine cf Tryz.func155 rfl (ew ?_);apply rn;simp;refine aG.intro (λn=>?_) (λn=>?_)<;>(try simp at n)<;>(try simp[c,n])
   . refine⟨by omega,t _ j ⟨_,rfl,by simp[p],by simp[d],by simp[g],by simp,?_⟩⟩
     rw[zA j,List.all_append,a];simp[n]
   . have e:l.all (bI · 0 (f.aB.length-1))=false:=by
      grind
     have:gT f l=3:=by unfold gT;simp_all
     rw[this]at h;exact .done (h (by simp))
 . have:k=l.length:=by omega
   subst this;rw[ZL]at a;have:gT f l=0:=by unfold gT;simp_all
   refine cf Tryz.func157 rfl (Fi λb mb σ' u=>?_)
   apply rn;simp;exact .done (q this b mb σ' u)
theorem UB{a}(h:KF (.val (bool false)) σ):az prog m 111 [.lit .nilIface,a] σ KF:=by
 refine fs [] Tryz.func111 rfl (by kernel_rfl) ?_;simp[Tryz.f111];refine gq lay rfl GY rfl (.inl ⟨rfl,rfl⟩) (.inl ⟨rfl,rfl⟩) ?_;apply rn;simp;exact .done h
end
section
open Go.cz Go.Conc
set_option maxRecDepth 4000
variable{m:Mo}{σ:ab}{KF:abW}
theorem qW(first:acm)  others   k   h :iD (first.take (k+1)) others=iD (first.take k) others++if others.all (λl=>decide (first[k]∈l))then[first[k]]else[]:=by
 unfold iD;rw[zA h,aaF]
 grind
theorem By  first   others :(iD first others).length<=first.length:=aaH _ _
theorem Ir{first others sp f}(B:first.length<=1000000000)(C:others.length<1152921504606846976)(u:∀l∈others,l.length<1152921504606846976)(h:KF (.val (ints (iD first others))) σ):az prog m 253 [.sl 1 (first.map int) sp,.sl 1 (others.map ints) f] σ KF:=by
 refine fs [] Tryz.func253 rfl (by kernel_rfl) ?_;simp[Tryz.f253];refine aa.loop first.length (λk s=>∃env e,s=⟨env,e,[],.no⟩/\env 0=.sl 1 (first.map int) sp/\env 1=.sl 1 (others.map ints) f/\env 10=.sl 1 (first.map int) sp/\env 11=int first.length/\env 12=int k/\Tok σ e (env 5) 1 ((iD (first.take k) others).map int)) ⟨_,_,rfl,by simp,by simp,by simp,by simp,by simp,.nil σ 1⟩ ?_
 rintro D k _ E ⟨env,e,rfl,n,g,c,d,b,a⟩ x;apply rn;simp[d,b];have hlen:=By (first.take k) others;rw[aaB]at hlen;apply aG.intro<;>intro o<;>simp at o<;>simp[g,c,b,o]
 . refine aa.loop others.length (λj s=>∃env,s=⟨env,e,[],.no⟩/\env 0=.sl 1 (first.map int) sp/\env 1=.sl 1 (others.map ints) f/\env 10=.sl 1 (first.map int) sp/\env 11=int first.length/\env 12=int k/\Tok σ e (env 5) 1 ((iD (first.take k) others).map int)/\env 7=int first[k]/\env 16=.sl 1 (others.map ints) f/\env 17=int others.length/\env 18=int j/\∀l∈others.take j,first[k]∈l) ⟨_,rfl,by simp[n,g,c,d,b,a]⟩ ?_
   clear n g c d b a;rintro F j _ G ⟨env,rfl,n,g,c,d,b,a,y,p,q,i,r⟩ v;apply rn;simp[q,i];apply aG.intro<;>intro t<;>simp at t<;>simp[y,p,i,t]
   . refine cf Tryz.func66 rfl (mI (u _ (zD t)) ?_)
     apply rn;simp;apply aG.intro<;>intro z<;>simp at z<;>simp[b,i,z]
     . refine⟨by omega,v _ t ⟨_,rfl,by simp[n],by simp[g],by simp[c],by simp[d],by simp[b],by simpa using a,by simp[y],by simp[p],by simp[q],by simp,λl u=>?_⟩⟩
       rw[zA t,ZA,lb]at u
       grind
     . refine⟨by omega,x _ o ⟨_,_,rfl,by simp[n],by simp[g],by simp[c],by simp[d],by simp,?_⟩⟩
       have:others.all (λl=>decide (first[k]∈l))=false:=by grind
       rw[qW _ _ _ o,this];simpa using a
   . have:j=others.length:=by omega
     subst this;rw[ZL]at r;refine aK lay rfl rfl rfl dM rfl dM rfl rS (by decide) (by simp;omega) (σ0:=σ) (es:=(iD (first.take k) others).map int) (xs:=[int first[k]]) (by simpa using a) (.inr ⟨_,rfl⟩) λH A w=>?_
     apply rn;simp[b];refine⟨by omega,x _ o ⟨_,_,rfl,by simp[n],by simp[g],by simp[c],by simp[d],by simp,?_⟩⟩;have:others.all (λl=>decide (first[k]∈l))=true:=by grind
     rw[qW _ _ _ o,this];simpa using w
 . have:k=first.length:=by omega
   subst this;rw[ZL]at a;exact .oW a.W (.less a.1 (.done h))
structure Fr.Good(f:Fr):Prop where
 fits:f.Fits
 fr:0<=f.aQ/\f.aQ<=3
 to:0<=f.eP/\f.eP<=3
 le:f.aQ<=f.eP
 cM:1<=f.cM/\f.cM<=6
 aW:1<=f.aW/\f.aW<=6
 qH:f.aB.length<=6
 tz:∀e∈f.aB,cJ f.roads.length e=0
 JB:fN f.roads=0
theorem qX  g :∀{l},fM g l=0->∀e∈l,g e=0
 |[],_,e,he=>by simp at he
 | a ::l,h,e,he=>by
   unfold fM at h;split at h
   . next b=>
     rcases ZW.1 he with rfl|he
     . exact b
     . exact qX g h e he
   omega
theorem Fr.qI{f}(c:f.Fits)(h:check f=0):f.Good:=by
 unfold check at h;split at h
 . omega
 next d=>
 split at h
 . cases h
 next a=>
 split at h
 . cases h
 next e=>
 split at h
 . cases h
 next b=>
 split at h
 . cases h
 next g=>
 simp only[Bool.not_eq_false,za]at a b;exact⟨c,dA a.1,dA a.2,by omega,dA b.1,dA b.2,by omega,qX _ h,by omega⟩
theorem oT{p e}(h:cJ p e=0):(0<=e.hour/\e.hour<=72)/\(0<=e.place/\e.place<=p-1)/\(0<=e.cR/\e.cR<=5)/\(0<=e.bt/\e.bt<=30)/\(0<=e.jw/\e.jw<=2)/\sW none e.marks=0:=by
 unfold cJ at h;split at h
 . cases h
 next a=>
 split at h
 . cases h
 next b=>
 split at h
 . cases h
 next c=>
 split at h
 . omega
 next g=>
 split at h
 . cases h
 next d=>
 split at h
 . cases h
 next f=>
 simp only[Bool.not_eq_false]at a b c d f;exact⟨dA a,dA b,dA c,dA d,dA f,by omega⟩
theorem zV{f}(a:f.Good)  e :(iR f e).length<=4:=by
 unfold iR;have:=a.fr;have:=a.to
 grind
theorem zW{f}(a:f.Good)  e :(bT f e).length<=5:=by
 unfold bT;have:=zV a e
 grind
theorem Lu{f e}(h:e.jw≠0):iR f e=(List.range (f.eP-f.aQ+1).toNat).map λi:Nat=>e.bt-f.eP+(i:Int):=ZG h
theorem Fj{b mb f l}(H:f.Good)(Y:l≠[])(hl:l.length<=1000000)(hb:∀n∈l,0<=n/\n<f.aB.length)(h:KF (.val (ints (fT f l))) σ):az prog m 252 [lK b mb f 0,ints l] σ KF:=by
 have h6:=H.qH;have al:=H.fr;have av:=H.to;have ax:=H.le;refine fs Uy Tryz.func252 rfl (by kernel_rfl) ?_
 simp[Tryz.f252];refine aa.loop l.length (λk s=>∃env A,s=⟨env,A,[],.no⟩/\env 0=lK b mb f 0/\env 11=ints l/\env 12=int l.length/\env 13=int k/\Tok σ A (env 5) 1 ((l.take k).map λn=>ints (bT f (aR f n)))) ⟨_,_,rfl,by simp,by simp,by simp,by simp,.nil σ 1⟩ ?_
 rintro c0 k _ hk ⟨env,A,rfl,C,p,g,o,d⟩ S
 rcases aag k l.length with g1|g1
 . obtain ⟨L,n1⟩:=hb _ (zD g1)
   have n2:l[k].toNat<f.aB.length:=by omega
   obtain⟨e,he⟩:∃e,e=f.aB[l[k].toNat]:=⟨_,rfl⟩;have Z:aR f l[k]=e:=by simp[aR,zH,n2,he]
   have ay:=oT (H.tz e (by simp_all))
   have t:(l.take (k+1)).map (λn=>ints (bT f (aR f n)))=(l.take k).map (λn=>ints (bT f (aR f n)))++[ints (bT f e)]:=by rw[zA g1,ZO];simp[Z]
   apply rn;simp[C,p,g,o,g1,L,n2,<-he];refine bV.intro λc hc=>?_
   simp
   have a7:σ c=none:=by
    cases q:σ c with
    |none=>rfl
    |some x=>rw[d.1 c x q]at hc;cases hc
   have B:Tok σ (A.set c (.cells [int e.hour,int e.place,int e.cR,ints e.marks,int e.bt,int e.jw])) (env 5) 1 ((l.take k).map λn=>ints (bT f (aR f n))):=d.beside a7 (λq=>by obtain⟨_,x,hx⟩:=d.aV q;grind)
   have G:(A.set c (.cells [int e.hour,int e.place,int e.cR,ints e.marks,int e.bt,int e.jw])) c=some (.cells [int e.hour,int e.place,int e.cR,ints e.marks,int e.bt,int e.jw]):=ab.ai _ _ _;generalize A.set c (.cells [int e.hour,int e.place,int e.cR,ints e.marks,int e.bt,int e.jw])=D at B G;refine aG.intro (λM=>?_) (λM=>?_)<;>simp at M<;>simp[M]
   . have f1:-9223372036854775808<=f.eP-f.aQ/\f.eP-f.aQ<=9223372036854775807:=by omega
     have f2:-9223372036854775808<=f.eP-f.aQ+1/\f.eP-f.aQ+1<=9223372036854775807:=by omega
     simp[C,f1.1,f1.2,f2.1,f2.2];apply rn;simp;obtain⟨a5,I⟩:∃a,a=env 5:=⟨_,rfl⟩;rw[<-I]at B;obtain⟨cnt,O⟩:∃cnt:Nat,(cnt:Int)=f.eP-f.aQ+1:=⟨(f.eP-f.aQ+1).toNat,by omega⟩
     have aC:cnt<=4:=by omega
     have a8:iR f e=(List.range cnt).map λi:Nat=>e.bt-f.eP+(i:Int):=by rw[Lu M];grind
     refine aa.loop cnt (λj s=>∃env J,s=⟨env,J,[],.no⟩/\env 0=lK b mb f 0/\env 11=ints l/\env 12=int l.length/\env 13=int k/\env 5=a5/\env 8=.ref c 0/\env 41=int cnt/\env 42=int j/\Tok D J (env 9) 1 (((List.range j).map λi:Nat=>e.bt-f.eP+(i:Int)).map int)) ⟨_,_,rfl,by simp[C,p,g,o,<-I,O,Tok.nil]⟩ ?_
     clear C p g o d I
     rintro c1 j _ hj ⟨env,J,rfl,C,p,g,o,T,N,E,F,u⟩ a9
     have v:=u.1 _ _ G
     rcases aag j cnt with g3|g3
     . have f3:-9223372036854775808<=e.bt-f.eP/\e.bt-f.eP<=9223372036854775807:=by omega
       have f4:-9223372036854775808<=e.bt-f.eP+j/\e.bt-f.eP+j<=9223372036854775807:=by omega
       apply rn;simp[C,N,E,F,g3,v,f3.1,f3.2,f4.1,f4.2];refine aK lay rfl rfl rfl dM rfl dM rfl rS (by decide) (by simp only[ZT,aaJ,aaa,aaz];omega) (σ0:=D) (es:=((List.range j).map λi:Nat=>e.bt-f.eP+(i:Int)).map int) (xs:=[int (e.bt-f.eP+j)]) (by simpa using u) (.inr ⟨_,rfl⟩) λa' P w=>?_
       apply pg;simp;apply rn;simp[F];refine⟨by omega,a9 _ g3 ⟨_,_,rfl,by simp[C],by simp[p],by simp[g],by simp[o],by simp[T],by simp[N],by simp[E],by simp,?_⟩⟩
       rw[ZQ,ZO,ZO];simpa using w
     . have:j=cnt:=by omega
       subst this;rw[<-a8]at u;have aE:=zV H e;have U:Wl [env 9,int e.bt] [ints (iR f e),int e.bt]:=.cons u.W (.cons (.refl _) .nil)
       by_cases V:e.jw=1
       . refine aa.Ii 9 u.W ?_
         have y:bT f e=iR f e:=ZB λq=>q.1 V
         apply rn;simp[T,N,E,F,v,V];refine aK lay rfl rfl rfl oy rfl oy rfl dM (by decide) (by simp;omega) (σ0:=σ) (es:=(l.take k).map λn=>ints (bT f (aR f n))) (xs:=[ints (bT f e)]) (by simpa using B.up u.1) (.inr ⟨_,by rw[y];simp;rfl⟩) λa4 K z=>?_
         apply rn;simp[o];refine⟨by omega,S _ g1 ⟨_,_,rfl,by simp[C],by simp[p],by simp[g],by simp,?_⟩⟩
         rw[t];simpa using z
       . have Q:(e.jw !=1)=true:=by simp[V]
         by_cases X:e.bt∈iR f e
         . have y:bT f e=iR f e:=ZB λq=>q.2 X
           apply rn;simp[N,E,F,v,Q];refine cd Tryz.func66 rfl rfl U (mI (by omega) ?_)
           refine aa.Ii 9 (a':=ints (iR f e)) (by simpa using u.W) ?_
           apply rn;simp[T,X];refine aK lay rfl rfl rfl oy rfl oy rfl dM (by decide) (by simp;omega) (σ0:=σ) (es:=(l.take k).map λn=>ints (bT f (aR f n))) (xs:=[ints (bT f e)]) (by simpa using B.up u.1) (.inr ⟨_,by rw[y];simp;rfl⟩) λa4 K z=>?_
           apply rn;simp[o];refine⟨by omega,S _ g1 ⟨_,_,rfl,by simp[C],by simp[p],by simp[g],by simp,?_⟩⟩
           rw[t];simpa using z
         . have y:bT f e=iR f e++[e.bt]:=ZG ⟨V,X⟩
           apply rn;simp[N,E,F,v,Q];refine cd Tryz.func66 rfl rfl U (mI (by omega) ?_)
           apply rn;simp[N,X,v];refine aK lay rfl rfl rfl dM rfl dM rfl rS (by decide) (by simp;omega) (σ0:=D) (es:=(iR f e).map int) (xs:=[int e.bt]) (by simpa using u) (.inr ⟨_,rfl⟩) λa' P w=>?_
           refine aa.Ii 74 (a':=AV.sl 1 ((iR f e).map int++[int e.bt]) .any) (by simpa using w.W) ?_
           apply rn;simp[T];refine aK lay rfl rfl rfl oy rfl oy rfl dM (by decide) (by simp;omega) (σ0:=σ) (es:=(l.take k).map λn=>ints (bT f (aR f n))) (xs:=[ints (bT f e)]) (by simpa using B.up w.1) (.inr ⟨_,by rw[y];simp;rfl⟩) λa4 K z=>?_
           apply rn;simp[o];refine⟨by omega,S _ g1 ⟨_,_,rfl,by simp[C],by simp[p],by simp[g],by simp,?_⟩⟩
           rw[t];simpa using z
   . have y:bT f e=[e.bt]:=by
      simp[bT,iR,M]
     simp[G,M];have U:Wl [AV.lit (.slice none 0 0),int e.bt] [ints [],int e.bt]:=.cons (fq 1) (.cons (.refl _) .nil);refine cd Tryz.func66 rfl rfl U (mI (by simp) ?_)
     apply rn;simp[G];refine aK lay rfl rfl rfl dM rfl dM rfl rS (by decide) (by simp) (σ0:=D) (es:=[]) (xs:=[int e.bt]) (by simpa using Tok.nil D 1) (.inr ⟨_,rfl⟩) λa' P w=>?_
     refine aa.Ii 74 (a':=AV.sl 1 [int e.bt] .any) (by simpa using w.W) ?_
     apply rn;simp;refine aK lay rfl rfl rfl oy rfl oy rfl dM (by decide) (by simp;omega) (σ0:=σ) (es:=(l.take k).map λn=>ints (bT f (aR f n))) (xs:=[ints (bT f e)]) (by simpa using B.up w.1) (.inr ⟨_,by rw[y];simp;rfl⟩) λa4 K z=>?_
     apply rn;simp[o];refine⟨by omega,S _ g1 ⟨_,_,rfl,by simp[C],by simp[p],by simp[g],by simp,?_⟩⟩
     rw[t];simpa using z
 . have:k=l.length:=by omega
   subst this;rw[ZL]at d;refine aa.Ii 5 d.W ?_;have R:0<l.length:=List.length_pos_iff.2 Y;apply rn;simp[g,o,R];refine wC lay rfl oy rfl dM (es:=l.map λn=>ints (bT f (aR f n))) (sp:=.any) (l:=1) (h:=l.length) ?_ (λcap ad=>⟨rfl,⟨rfl,by simp⟩,⟨_,rfl⟩,by omega⟩) (by simp) ?_
   . simp
   obtain⟨L,r,rfl⟩:∃L r,l=L::r:=by
    cases l with
    |nil=>simp_all
    |cons a r=>simp_all
   apply pg;simp
   have e:List.take r.length (List.map (λn=>ints (bT f (aR f n))) r)=(r.map λn=>bT f (aR f n)).map ints:=by
    rw[aan (by simp)]
    simp
   rw[e];have hlen:=zW H (aR f L);refine cf Tryz.func253 rfl (Ir (first:=bT f (aR f L)) (others:=r.map λn=>bT f (aR f n)) (by omega) (by grind) (λx hx=>?_) ?_)
   . obtain⟨n,_,rfl⟩:=ZU.1 hx
     have:=zW H (aR f n);omega
   apply pg;simp;apply rn;simp;refine .less d.1 (.done ?_);simpa[fT]using h
theorem Di{f}(h:check f=0):gT f []=0:=by unfold gT;simp_all
theorem Fo{f}{l:acm}(h:check f=0)(a:∀n∈l,0<=n/\n<f.aB.length):gT f l=0:=by
 unfold gT;rw[ZB (by simp[h]),ZG];rw[ZF];intro n b;have:=a n b;simp[bI];omega
theorem vL.le{σ σ' b mb}(h:vL σ b mb σ'):σ.Le σ':=by rw[h.eq];exact ab.rz (ab.rz (ab.le_refl _) h.BV) (by rw[ab.ah _ _ h.ne];exact h.hb)
theorem Bz{a n}(b:0<=n)(h:KF (.val (u8 (bS a n))) σ):az prog m 257 [u8 a,int n] σ KF:=by
 refine fs [] Tryz.func257 rfl (by kernel_rfl) ?_;simp[Tryz.f257];refine⟨b,?_⟩;simp[sX];exact .done h
theorem oz{l}(o:l.length<1152921504606846976)(f:∀n∈l,0<=n)(h:KF (.val (u8 (aX l))) σ):az prog m 255 [ints l] σ KF:=by
 refine fs [] Tryz.func255 rfl (by kernel_rfl) ?_;simp[Tryz.f255];refine aa.loop l.length (λk s=>∃env,s=⟨env,σ,[],.no⟩/\env 3=u8 (aX (l.take k))/\env 4=.fn (.func 257) [u8 (aX (l.take k))] []/\env 9=ints l/\env 10=int l.length/\env 11=int k) ⟨_,rfl,by simp[aX]⟩ ?_;rintro p k _ q ⟨env,rfl,g,i,d,b,a⟩ j;apply rn;simp[b,a];apply aG.intro<;>intro c<;>simp at c<;>simp[g,i,d,a,c]
 . have e:aX (l.take (k+1))=bS (aX (l.take k)) l[k]:=by
    unfold aX;rw[zA c,aak];rfl
   refine dY Tryz.func257 rfl rfl rfl (Bz (f _ (zD c)) ?_);rw[<-e];apply rn;simp[a];exact⟨by omega,j _ c ⟨_,rfl,by simp[d,b]⟩⟩
 . have:k=l.length:=by omega
   subst this;rw[ZL];exact .done h
def BA(x:Int):Int:=Df x (Qd x 1)
def sY:Nat->Int->Int
 |0,x=>x
 |n+1,x=>BA (sY n x)
def Is:Nat->Int->Int
 |0,_=>0
 |n+1,x=>if x=0 then 0 else 1+Is n (BA x)
def bN(a b:Int):Int:=Is 8 (xJ a b)
theorem xK{a b}(l:sY 8 (xJ a b)=0)(h:KF (.val (int (bN a b))) σ):az prog m 256 [u8 a,u8 b] σ KF:=by
 refine fs [] Tryz.func256 rfl (by kernel_rfl) ?_
 simp[Tryz.f256,Ip];refine aa.loop 8 (λk s=>∃env,s=⟨env,σ,[],.no⟩/\env 5=int k/\env 6=u8 (sY k (xJ a b))/\bN a b=k+Is (8-k) (sY k (xJ a b))) ⟨_,rfl,by simp,by simp;rfl,by simp[sY,bN]⟩ ?_
 rintro n k _ o ⟨env,rfl,g,f,c⟩ i
 apply rn;simp[f];apply aG.intro<;>intro d<;>simp at d<;>simp[g,f,d]
 . have j:k<8:=by
    grind
   refine⟨by omega,?_⟩
   simp[uk,Iq];refine i _ j ⟨_,rfl,by simp,by simp[sY,BA],?_⟩
   have e:8-k=(8-(k+1))+1:=by omega
   rw[e,Is,ZB d]at c;rw[c];simp only[sY];omega
 . rw[d]at c
   have e:Is (8-k) 0=0:=by cases 8-k<;>simp[Is]
   rw[e]at c;rw[c]at h;exact .done (by grind)
abbrev xL(x:Int):AV:=.agg [u8 x]
theorem O0{x n}(a:0<=n)(h:KF (.val (xL (bS x n))) σ):az prog m 187 [xL x,int n] σ KF:=by
 refine az.start lay [2] Us 2 Tryz.func187 rfl rfl (by rfl) (by kernel_rfl) ?_;simp[Tryz.f187];refine bV.intro λc f=>?_
 simp;refine bV.intro λd hd=>?_
 obtain⟨b,e,hd⟩:=ab.aP hd;simp[e,ab.ah,sX,a];refine aa.run lay [2] ?_;simp[b,ab.ah];exact .less (by repeat (first|exact ab.le_refl _|assumption|refine ab.fa ?_ (by assumption)|refine ab.lq ?_ (by assumption))) (.done h)
theorem Lv{x}(h:KF (.val (ints (aA x))) σ):az prog m 205 [xL x] σ KF:=by
 refine fs [] Tryz.func205 rfl (by kernel_rfl) ?_;simp[Tryz.f205];refine aa.loop 6 (λk s=>∃env b,s=⟨env,b,[],.no⟩/\env 1=.cp (xL x) 0/\env 5=int k/\Tok σ b (env 3) 1 ((((List.range k).map λn:Nat=>(n:Int)).filter λn=>fH x n).map int)) ⟨_,_,rfl,by simp,by simp,.nil σ 1⟩ ?_;rintro l k _ o ⟨env,b,rfl,d,c,a⟩ f;rcases aag k 6 with g1|g1
 . have e:(k:Int)<6:=by omega
   have p:(((List.range k).map λn:Nat=>(n:Int)).filter λn=>fH x n).length<=k:=by grind
   have q:(((List.range (k+1)).map λn:Nat=>(n:Int)).filter λn=>fH x n)=(((List.range k).map λn:Nat=>(n:Int)).filter λn=>fH x n)++if fH x k then[(k:Int)]else[]:=by
    rw[ZQ,ZO,aaF]
    grind
   apply rn;simp[d,c,e,uk];have g:fH x k=(Df (x.fdiv (2 ^ min k IntKind.u8.bits)) 1==1):=by simp[fH]
   rw[<-g];cases hb:fH x k
   . simp[c]
     refine⟨by omega,f _ g1 ⟨_,_,rfl,by simp[d],by simp,?_⟩⟩
     simp_all
   . simp
     refine aK lay rfl rfl rfl dM rfl dM rfl rS (by decide) (by grind) (σ0:=σ) (es:=(((List.range k).map λn:Nat=>(n:Int)).filter λn=>fH x n).map int) (xs:=[int k]) (by simp_all) (.inr ⟨_,rfl⟩) λr i j=>?_
     apply rn;simp[c];refine⟨by omega,f _ g1 ⟨_,_,rfl,by simp[d],by simp,?_⟩⟩
     simp_all
 . have:k=6:=by omega
   subst this;apply rn;simp[c];exact .oW a.W (.less a.1 (.done h))
def kW(a b:Int):Int:=if 0<a/\a<b then 3 else if a=b then 1 else 2
theorem Fp{a b}(h:KF (.val (int (kW a b))) σ):az prog m 202 [int a,int b] σ KF:=by
 unfold kW at h;refine fs [] Tryz.func202 rfl (by kernel_rfl) ?_;simp[Tryz.f202];refine tJ.intro (λd=>?_) (λd=>?_)<;>(try simp[-Int.not_lt,-Int.not_le]at d)<;>(try simp[d]at h)<;>(try simp[d])<;>(try exact .done h)
 . refine aG.intro (λe=>?_) (λe=>?_)<;>(try simp[-Int.not_lt,-Int.not_le]at e)<;>(try simp[e]at h)<;>(try simp[e])<;>(try exact .done h)
   . have:a≠b:=by omega
     apply aG.intro<;>intro c<;>simp at c<;>simp[c]
     . omega
     . exact .done h
   . refine aG.intro (λc=>?_) (λc=>?_)<;>(try simp at c)<;>(try simp[c]at h)<;>(try simp[c])<;>(try exact .done h)
 . refine aG.intro (λc=>?_) (λc=>?_)<;>(try simp at c)<;>(try simp[c]at h)<;>(try simp[c])<;>(try exact .done h)
theorem It{l}(b:l≠[])(c:l.length<=1000000000)(h:∀a σ',cH σ σ' a 1 (l.map int)->KF (.val a) σ'):az prog m 80 [ints l] σ KF:=by
 refine fs [] Tryz.func80 rfl (by kernel_rfl) ?_;simp[Tryz.f80];refine B5 lay rfl dM rfl rfl (.inr (.inl ⟨rfl,by simp_all,rfl⟩)) (.inl ⟨rfl,rfl⟩) ?_;apply rn;simp;refine sc lay rfl rfl rfl dM rfl dM rfl rS (by decide) (by simp;omega) (σ0:=σ) (es:=[]) (xs:=l.map int) (.empty σ 1) (.inl (.inr ⟨_,rfl⟩)) (by simp) λd σ' e=>?_
 apply rn;simp;exact .done (h _ _ (by simp_all))
def eE(lt:Int->Int->Bool)(x:Int):acm->acm
 |[]=>[x]
 |y::r=>if lt x y then y::eE lt x r else x::y::r
def eQ(lt:Int->Int->Bool)(l:acm):acm:=l.foldl (λr x=>eE lt x r) []
theorem Dj  lt   x :∀r,(eE lt x r).length=r.length+1
 |[]=>rfl
 |y::r=>by unfold eE;split<;>simp[Dj lt x r]
theorem kX  lt   l :(eQ lt l).length=l.length:=by
 have key:∀(l r:acm),(l.foldl (λr x=>eE lt x r) r).length=r.length+l.length:=by
  intro l;induction l with
  |nil=>intro r;rfl
  |cons a l b=>intro r;rw[aay,b,Dj];simp;omega
 rw[eQ,key];simp
theorem Dk  lt   x :∀  r   y ,y∈eE lt x r↔y=x\/y∈r
 |[],y=>by simp[eE]
 | z ::r,y=>by
   unfold eE;split
   . rw[ZW,Dk lt x r y,ZW]
     grind
   . simp
theorem um  lt   l   y :y∈eQ lt l↔y∈l:=by
 have key:∀(l r:acm),y∈l.foldl (λr x=>eE lt x r) r↔y∈r\/y∈l:=by
  intro l;induction l with
  |nil=>grind
  | cons a l b=>
    intro r;rw[aay,b,Dk,ZW]
    grind
 rw[eQ,key];simp
def Dl(m:Mo)(y:AV)(c:Int->Int->Int)(In:Int->Prop):Prop:=∀(a b:Int) (σ:ab) (KF:abW),In a->In b->KF (.val (int (c a b))) σ->bY prog m y [int a,int b] σ KF
theorem We{α:Type}{A B}{x y:α}{n}(a:A.length=n):(A++y::x::B)[n]?=some y/\(A++y::x::B)[n+1]?=some x/\((A++y::x::B).set n x).set (n+1) y=A++x::y::B/\((A++y::x::B).set (n+1) y).set n x=A++x::y::B:=by simp_all
theorem Fq{y c In l b cap rest}(W:Dl m y c In)(J:∀x∈l,In x)(hl:l.length<=1000000)(hb:σ b=some (.cells (l.map int++rest)))
 (h:KF (.val (.ck [])) (σ.set b (.cells ((eQ (λa b=>decide (c a b<0)) l).reverse.map int++rest)))):az prog m 209 [.gh b 0 l.length cap,int 0,int l.length,y] σ KF:=by
 refine fs Uw Tryz.func209 rfl (by kernel_rfl) ?_
 simp[Tryz.f209];obtain⟨lt,D⟩:∃lt,lt=λa b=>decide (c a b<0):=⟨_,rfl⟩
 rw[<-D]at h;refine aa.loop l.length (λi s=>∃env g,s=⟨env,g,[],.no⟩/\env 0=.gh b 0 l.length cap/\env 1=int 0/\env 2=int l.length/\env 3=y/\env 8=int ((i:Int)+1)/\g=σ.set b (.cells ((eQ lt (l.take (i+1))).reverse.map int++((l.drop (i+1)).map int++rest)))) ⟨_,_,rfl,by simp,by simp,by simp,by simp,by simp,?_⟩ ?_
 . have e:(eQ lt (l.take 1)).reverse.map int++((l.drop 1).map int++rest)=l.map int++rest:=by
    cases l with
    |nil=>simp[eQ]
    |cons a l=>simp[eQ,eE]
   rw[e]
   funext d
   by_cases q:d=b
   . simp_all
   . rw[ab.ah _ _ q]
 rintro c0 i _ hi ⟨env,g,rfl,t,u,v,E,w,j⟩ X
 rcases aag (i+1) l.length with g1|g1
 . have Q:(i:Int)+1<l.length:=by omega
   obtain⟨S,M⟩:∃S,S=eQ lt (l.take (i+1)):=⟨_,rfl⟩;have R:S.length=i+1:=by rw[M,kX,aaB];omega
   have T:∀x∈S,In x:=λx N=>J x (abl ((um lt _ x).1 (M ▸ N)))
   have F:eQ lt (l.take (i+1+1))=eE lt l[i+1] S:=by rw[M,eQ,zA g1,aak];rfl
   obtain⟨x,N⟩:∃x,x=l[i+1]:=⟨_,rfl⟩;have K:In x:=J x (by simp_all)
   have U:l.drop (i+1)=x::l.drop (i+2):=by rw[N];exact aah g1
   rw[<-M,U]at j;rw[<-N]at F;apply rn;simp[v,w,Q]
   refine aa.loop (i+1) (λk s=>∃env g r f,s=⟨env,g,[],.no⟩/\env 0=.gh b 0 l.length cap/\env 1=int 0/\env 2=int l.length/\env 3=y/\env 8=int ((i:Int)+1)/\env 9=int f.length/\S=r++f/\f.length+k=i+1/\eE lt x S=r++eE lt x f/\
    g=σ.set b (.cells ((f.reverse.map int)++int x::(r.reverse.map int++((l.drop (i+2)).map int++rest))))) ⟨_,_,[],S,rfl,by simp[t],by simp[u],by simp[v],by simp[E],by simp[w],by simp[R],rfl,by omega,rfl,by grind⟩ ?_
   clear t u v E w j
   rintro c1 k _ hk ⟨env,g,r,f,rfl,t,u,v,E,w,O,G,hlen,p,j⟩ V
   cases f with
   | nil=>
     simp only[aaz,aaK]at hlen;simp only[aao]at G;subst G
     have o:g=σ.set b (.cells ((eQ lt (l.take (i+1+1))).reverse.map int++((l.drop (i+1+1)).map int++rest))):=by rw[j,F,p];simp[eE]
     apply rn;simp[u,O];refine⟨?_,?_⟩
     all_goals
      apply rn;simp[w];refine⟨by omega,X _ (by omega) ⟨_,_,rfl,?_,?_,?_,?_,?_,o⟩⟩<;>simp[t,u,v,E]
   | cons z f=>
     obtain⟨e1,e2,e3,e4⟩:=We (A:=f.reverse.map int) (B:=r.reverse.map int++((l.drop (i+2)).map int++rest)) (x:=int x) (y:=int z) (n:=f.length) (by simp)
     have C:g b=some (.cells (f.reverse.map int++int z::int x::(r.reverse.map int++((l.drop (i+2)).map int++rest)))):=by rw[j,ab.ai];simp
     have L:In z:=T z (by grind)
     have f1:(0:Int)<(f.length:Int)+1:=by omega
     have Y:(f.length:Int)+1<l.length:=by grind
     have Z:(f.length:Int)<l.length:=by omega
     have f4:(0:Int)<=(f.length:Int)+1:=by omega
     have f5:((f.length:Int)+1).toNat=f.length+1:=by omega
     have I:-9223372036854775808<=(f.length:Int)/\(f.length:Int)<=9223372036854775807:=by omega
     apply rn;simp[t,u,E,O,f1,Y,Z,f4,f5,I.1,I.2,C];refine⟨W _ _ _ _ K L ?_,W _ _ _ _ K L ?_⟩
     all_goals
      apply pg;simp;apply rn;simp
      by_cases P:c x z<0
      . have f7:f.length+1+1<=f.length+(r.length+(l.length-(i+2)+rest.length)+1+1):=by omega
        have f8:f.length+1<=f.length+(r.length+(l.length-(i+2)+rest.length)+1+1):=by omega
        have H:eE lt x (z::f)=z::eE lt x f:=by rw[D];simp[eE,P]
        simp[t,O,P,f5,I.1,I.2,Y,Z,f4,C,f7,f8];apply rn;simp[O,I.1,I.2];refine V _ (by simp at hlen;omega) ⟨_,_,r++[z],f,rfl,by simp[t],by simp[u],by simp[v],by simp[E],by simp[w],by simp,by rw[G];simp,by simp at hlen;omega,by rw[p,H];simp,?_⟩
        rw[j];simp
      . have H:eE lt x (z::f)=x::z::f:=by rw[D];simp[eE,P]
        have o:g=σ.set b (.cells ((eQ lt (l.take (i+1+1))).reverse.map int++((l.drop (i+1+1)).map int++rest))):=by rw[j,F,p,H];simp
        simp[w,P];refine⟨by omega,X _ (by omega) ⟨_,_,rfl,?_,?_,?_,?_,?_,o⟩⟩<;>simp[t,u,v,E]
 . have o:(eQ lt (l.take (i+1))).reverse.map int++((l.drop (i+1)).map int++rest)=(eQ lt l).reverse.map int++rest:=by
    rw[aan (by omega),List.drop_of_length_le (by omega)];simp
   rw[o]at j;have g2:¬(i:Int)+1<l.length:=by omega
   apply rn;simp[v,w,g2];rw[j];exact .done h
theorem BB{y c In l b cap rest}(q:Dl m y c In)(g:∀x∈l,In x)(w:l.length<20)(hb:σ b=some (.cells (l.map int++rest)))
 (h:KF (.val (.ck [])) (σ.set b (.cells ((eQ (λa b=>decide (c a b<0)) l).reverse.map int++rest)))):az prog m 206 [.gh b 0 l.length cap,int l.length,y] σ KF:=by
 refine fs [] Tryz.func206 rfl (by kernel_rfl) ?_;simp[Tryz.f206];have r:¬(20:Int)<=l.length:=by omega
 have t:¬(20:Int)<l.length:=by omega
 refine aa.loop 1 (λk s=>∃env,s=⟨env,σ,[],.no⟩/\env 0=.gh b 0 l.length cap/\env 1=int l.length/\env 2=y/\env 6=int 20/\env 7=int 0/\env 8=int 20) ⟨_,rfl,by simp⟩ ?_;rintro z k _ u ⟨env,rfl,j,e,n,f,o,p⟩ v;apply rn;simp[j,e,n,o,p,r];refine cf Tryz.func209 rfl (Fq q g (by omega) hb ?_);apply rn;simp;refine aa.loop 1 (λk s=>∃env d,s=⟨env,d,[],.no⟩/\env 1=int l.length/\env 6=int 20/\d=σ.set b (.cells ((eQ (λa b=>decide (c a b<0)) l).reverse.map int++rest))) ⟨_,_,rfl,by simp[e,f]⟩ ?_;clear j e n f o p;rintro A k _ u ⟨env,d,rfl,e,f,i⟩ v;apply rn;simp[e,f,t];rw[i];exact .done h
theorem sZ{y c In l b cap rest}(e:Dl m y c In)(d:∀x∈l,In x)(f:l.length<20)(hb:σ b=some (.cells (l.map int++rest)))
 (h:KF (.val (.ck [])) (σ.set b (.cells ((eQ (λa b=>decide (c a b<0)) l).reverse.map int++rest)))):az prog m 198 [.gh b 0 l.length cap,y] σ KF:=by
 refine fs [] Tryz.func198 rfl (by kernel_rfl) ?_;simp[Tryz.f198];refine cf Tryz.func206 rfl (BB e d f hb ?_);apply rn;simp;exact .done (by simpa using h)
theorem O3{y c In l}(r:Dl m y c In)(f:∀x∈l,In x)(s:l.length<20)(g:l≠[])(i:y.cells=[y]/\y.flat=true)(h:KF (.val (ints (eQ (λa b=>decide (c a b<0)) l).reverse)) σ):az prog m 177 [.agg [y],ints l] σ KF:=by
 refine fs [] Tryz.func177 rfl (by kernel_rfl) ?_;simp[Tryz.f177,i.2];refine cf Tryz.func80 rfl (It g (by omega) λa j k=>?_)
 obtain⟨b,cap,rest,rfl,n,o,v,p,q⟩:∃b cap rest,a=.gh b 0 (l.map int).length cap/\σ b=none/\(l.map int).length<=cap/\(∀e∈l.map int,e.cells.length=1)/\j b=some (.cells (flatten (l.map int)++rest))/\rest.length=(cap-(l.map int).length)*1:=by
  rcases k.2 with⟨e,_⟩|h
  . simp_all
  . exact h
 have d:∀l:acm,flatten (l.map int)=l.map int:=λl=>by
  induction l with
  |nil=>rfl
  |cons a l t=>simp[flatten_cons,AV.cells,t]
 rw[d]at p;rw[ZT]at o q ⊢;apply rn;simp;refine cf Tryz.func198 rfl (sZ r f s p ?_);apply rn;simp;refine cH.thaw (σ0:=σ) (kk:=1) (es:=(eQ (λa b=>decide (c a b<0)) l).reverse.map int) ⟨ab.fa k.1 n,.inr ⟨b,cap,rest,?_,n,?_,λe u=>?_,?_,?_⟩⟩ h
 . simp[kX]
 . simpa[kX]using o
 . obtain⟨x,_,rfl⟩:=ZU.1 u;rfl
 . rw[d];simp
 . simpa[kX]using q
def uo(f:Fr)(a b:Int):Int:=Bx (aR f a).hour (aR f b).hour
theorem O4{b mb f x y}(d:0<=x/\x<f.aB.length)(e:0<=y/\y<f.aB.length)(h:KF (.val (int (uo f x y))) σ):az prog m 175 [int x,int y,.cp (lK b mb f 0) 0] σ KF:=by
 have a:x.toNat<f.aB.length:=by omega
 have c:y.toNat<f.aB.length:=by omega
 have ex:aR f x=f.aB[x.toNat]:=by simp[aR,zH,a]
 have g:aR f y=f.aB[y.toNat]:=by simp[aR,zH,c]
 unfold uo at h;rw[ex,g]at h;refine fs Uq Tryz.func175 rfl (by kernel_rfl) ?_;simp[Tryz.f175,a,c,d.1,e.1];refine cf Tryz.func176 rfl (Fh ?_);apply pg;simp;apply rn;simp;exact .done h
theorem Lw{b mb f}:Dl m (.fn (.func 175) [] [.cp (lK b mb f 0) 0]) (uo f) (λn=>0<=n/\n<f.aB.length):=λx y σ KF a c h=>by refine dY Tryz.func175 rfl rfl rfl (O4 a c h)
structure NT(f:Fr)(l:acm):Prop where
 mem:∀n∈l,0<=n/\n<f.aB.length
 ne:l≠[]
 len:l.length<=1000000
def dV(f:Fr)(l:acm):Bool:=l.any λn=>decide ((aR f n).cR≠(aR f (l.getD 0 0)).cR)
theorem s8{f x}  h :aR f x=f.aB[x.toNat]:=by simp[aR,zH,h]
theorem Fs{b mb f l}(u:NT f l)(h:KF (.val (bool (dV f l))) σ):az prog m 250 [.agg [],lK b mb f 0,ints l] σ KF:=by
 obtain⟨i,g,hlen⟩:=u;have a:0<l.length:=List.length_pos_iff.2 g;obtain⟨v,A⟩:=i _ (zD a);have j:l[0].toNat<f.aB.length:=by omega
 have w:l.getD 0 0=l[0]:=by simp_all
 unfold dV at h;rw[w]at h;refine fs Ux Tryz.func250 rfl (by kernel_rfl) ?_;simp[Tryz.f250];refine aa.loop l.length (λk s=>∃env,s=⟨env,σ,[],.no⟩/\env 1=lK b mb f 0/\env 2=ints l/\env 9=ints l/\env 10=int l.length/\env 11=int k/\∀n∈l.take k,(aR f n).cR=(aR f l[0]).cR) ⟨_,rfl,by simp⟩ ?_;rintro B k _ C ⟨env,rfl,o,p,q,c,d,e⟩ x;rcases aag k l.length with g1|g1
 . obtain⟨y0,D⟩:=i _ (zD g1)
   have r:l[k].toNat<f.aB.length:=by omega
   have E:=s8 r;have F:=s8 j;apply rn;simp[o,p,q,c,d,g1,a,y0,r,v,j];apply rn;simp;by_cases t:f.aB[l[k].toNat].cR=f.aB[l[0].toNat].cR
   . simp[d,t]
     refine⟨by omega,x _ g1 ⟨_,rfl,by simp[o],by simp[p],by simp[q],by simp[c],by simp,λn y=>?_⟩⟩;rw[zA g1,ZA,lb]at y
     grind
   . have z:(f.aB[l[k].toNat].cR !=f.aB[l[0].toNat].cR)=true:=by simp[t]
     have:l.any (λn=>decide ((aR f n).cR≠(aR f l[0]).cR))=true:=aac.2 ⟨_,zD g1,by simp_all⟩;rw[this]at h;simp[z];exact .done h
 . have:k=l.length:=by omega
   subst this;rw[ZL]at e;have:l.any (λn=>decide ((aR f n).cR≠(aR f l[0]).cR))=false:=by simp_all
   rw[this]at h;apply rn;simp[c,d];exact .done h
def cS(f:Fr)(l:acm):Bool:=decide (fT f l=[])
theorem Ft{b mb f l}(g:f.Good)(c:NT f l)(h:KF (.val (bool (cS f l))) σ):az prog m 251 [.agg [],lK b mb f 0,ints l] σ KF:=by
 refine fs [] Tryz.func251 rfl (by kernel_rfl) ?_;simp[Tryz.f251];refine cf Tryz.func252 rfl (Fj g c.ne c.len c.mem ?_);apply rn;simp;unfold cS at h;cases d:fT f l with
 |nil=>rw[d]at h;exact .done h
 | cons a r=>
   rw[d]at h;have e:((r.length:Int)+1==0)=false:=by grind
   refine .done ?_;simpa[e]using h
def gJ(f:Fr)(x y:Int):Bool:=decide ((aR f y).hour-(aR f x).hour<rd f.roads (aR f x).place.toNat (aR f y).place.toNat+f.cM*bN (aX (aR f x).marks) (aX (aR f y).marks))
def dt(f:Fr)(l:acm):Bool:=(List.range (l.length-1)).any λi=>gJ f (l.getD i 0) (l.getD (i+1) 0)
theorem qz:∀{l p},sW p l=0->∀n∈l,0<=n/\n<=4
 |[],_,_,n,hn=>by simp at hn
 | a::l,p,h,n,hn=>by
   unfold sW at h;split at h
   . cases h
   next b=>
   split at h
   . cases h
   next c=>
   rcases ZW.1 hn with rfl|hn
   . simp[bI]at b;omega
   . exact qz h n hn
theorem Iu:∀a:Fin 32,∀n:Fin 5,0<=bS (a.val:Int) (n.val:Int)/\bS (a.val:Int) (n.val:Int)<32:=by decide
theorem jX{l}(h:∀n∈l,0<=n/\n<=4):0<=aX l/\aX l<32:=by
 have key:∀(l:acm) (a:Int),(∀n∈l,0<=n/\n<=4)->0<=a/\a<32->0<=l.foldl bS a/\l.foldl bS a<32:=by
  intro l;induction l with
  |nil=>simp_all
  | cons x l c=>
    intro a b e;rw[aay];refine c _ (λn d=>b n (aaC _ d)) ?_;obtain⟨f,g⟩:=b x (abw ..);have:=Iu ⟨a.toNat,by omega⟩ ⟨x.toNat,by omega⟩;have i:(a.toNat:Int)=a:=by omega
    have j:(x.toNat:Int)=x:=by omega
    simp_all
 exact key l 0 h (by omega)
theorem Lx:∀a:Fin 32,∀b:Fin 32,sY 8 (xJ (a.val:Int) (b.val:Int))=0/\0<=bN (a.val:Int) (b.val:Int)/\bN (a.val:Int) (b.val:Int)<=5:=by decide +kernel
theorem G4{a b}(c:0<=a/\a<32)(hb:0<=b/\b<32):sY 8 (xJ a b)=0/\0<=bN a b/\bN a b<=5:=by
 have:=Lx ⟨a.toNat,by omega⟩ ⟨b.toNat,by omega⟩
 grind
theorem Fr.Good.row{f:Fr}(a:f.Good){i}(hi:i<f.roads.length):f.roads[i].length=f.roads.length/\∀x∈f.roads[i],0<=x/\x<=9:=by
 have h:=a.JB;unfold fN at h;split at h
 . cases h
 split at h
 . cases h
 split at h
 . omega
 next q=>
 obtain⟨b,c⟩:=kK (by simpa using q) _ (zD hi);exact⟨b,λx d=>dA (c x d)⟩
theorem Fu{b mb f l}(j:f.Good)(hl:NT f l)(h:KF (.val (bool (dt f l))) σ):az prog m 254 [.agg [],lK b mb f 0,ints l] σ KF:=by
 obtain⟨S,a7,hlen⟩:=hl;have p:=j.cM;unfold dt at h;refine fs Uz Tryz.func254 rfl (by kernel_rfl) ?_
 simp[Tryz.f254];refine aa.loop (l.length-1) (λk s=>∃env a,s=⟨env,a,[],.no⟩/\σ.Le a/\env 1=lK b mb f 0/\env 2=ints l/\env 7=int ((k:Int)+1)/\∀i<k,gJ f (l.getD i 0) (l.getD (i+1) 0)=false) ⟨_,_,rfl,ab.le_refl _,by simp⟩ ?_
 rintro c0 k _ hk ⟨env,a,rfl,q,r,w,x,T⟩ U
 rcases aag (k+1) l.length with g1|g1
 . have K:(k:Int)+1<l.length:=by omega
   have L:k<l.length:=by omega
   obtain⟨x0,x1⟩:=S _ (zD L);obtain⟨y0,y1⟩:=S _ (zD g1);have y:l[k].toNat<f.aB.length:=by omega
   have z:l[k+1].toNat<f.aB.length:=by omega
   have f1:-9223372036854775808<=(k:Int)/\(k:Int)<=9223372036854775807:=by omega
   have f2:((k:Int)+1).toNat=k+1:=by omega
   have f3:(0:Int)<=(k:Int)+1:=by omega
   obtain⟨A,C⟩:∃A,A=f.aB[l[k].toNat]:=⟨_,rfl⟩;obtain⟨B,D⟩:∃B,B=f.aB[l[k+1].toNat]:=⟨_,rfl⟩;have V:=s8 y;have W:=s8 z;rw[<-C]at V;rw[<-D]at W;have bA:=oT (j.tz A (by grind))
   have bB:=oT (j.tz B (by grind))
   apply rn;simp[r,w,x,K,L,g1,x0,y,y0,z,f1.1,f1.2,f2,f3,<-C,<-D];have e:=λ{c:Nat}(t:a c=none)=>q.none t
   have E:A.place.toNat<f.roads.length:=by omega
   obtain⟨r1,r2⟩:=j.row E;have F:B.place.toNat<f.roads[A.place.toNat].length:=by omega
   obtain⟨r3,r4⟩:=r2 _ (zD F);have M:rd f.roads A.place.toNat B.place.toNat=f.roads[A.place.toNat][B.place.toNat]:=nF E F;have N:=qz bA.2.2.2.2.2;have O:=qz bB.2.2.2.2.2;have lA:=jX N;have lB:=jX O;obtain⟨X,P,Y⟩:=G4 lA lB;obtain⟨ch,g⟩:∃ch,ch=bN (aX A.marks) (aX B.marks):=⟨_,rfl⟩;rw[<-g]at P Y
   have hmul:0<=f.cM*ch/\f.cM*ch<=30:=by
    constructor
    . exact Int.mul_nonneg (by omega) P
    . calc f.cM*ch<=6*5:=Int.mul_le_mul p.2 Y P (by omega)
       _=30:=by rfl
   have Z:gJ f l[k] l[k+1]=decide (B.hour-A.hour<f.roads[A.place.toNat][B.place.toNat]+f.cM*ch):=by unfold gJ;rw[V,W,M,g]
   have a8:l.getD k 0=l[k]:=by simp[zH,L]
   have a9:l.getD (k+1) 0=l[k+1]:=by simp[zH,g1]
   have G:-9223372036854775808<=B.hour-A.hour/\B.hour-A.hour<=9223372036854775807:=by omega
   have H:-9223372036854775808<=f.cM*ch/\f.cM*ch<=9223372036854775807:=by omega
   have I:-9223372036854775808<=f.roads[A.place.toNat][B.place.toNat]+f.cM*ch/\f.roads[A.place.toNat][B.place.toNat]+f.cM*ch<=9223372036854775807:=by omega
   refine⟨vo.intro λc t=>?_,vo.intro λc t=>?_⟩
   . simp
     refine vo.intro λd hd=>?_
     obtain⟨J,u,hd⟩:=ab.aP hd;have Q:=e t;have R:=e hd;simp[J,u,ab.ah];refine aa.bD 8 (b:=c) (bu A) (by simp[u,ab.ah]) (by simp) rfl ?_
     refine aa.bD 9 (b:=d) (bu B) (by simp[J,ab.del]) (by simp) rfl ?_
     apply rn;simp[r,G.1,G.2,E,F];refine⟨by omega,by omega,?_⟩
     refine cf Tryz.func255 rfl (oz (by have:=j.fits.marks A (by rw[C];exact zD y);omega) (λn o=>(N n o).1) ?_)
     apply pg;simp;refine cf Tryz.func255 rfl (oz (by have:=j.fits.marks B (by rw[D];exact zD z);omega) (λn o=>(O n o).1) ?_)
     apply pg;simp;refine cf Tryz.func256 rfl (xK X ?_);rw[<-g];apply pg;simp[H.1,H.2,I.1,I.2];apply rn;simp
     by_cases v:B.hour-A.hour<f.roads[A.place.toNat][B.place.toNat]+f.cM*ch
     . simp[v]
       have:(List.range (l.length-1)).any (λi=>gJ f (l.getD i 0) (l.getD (i+1) 0))=true:=aac.2 ⟨k,ZE.2 (by omega),by grind⟩
       rw[this]at h;exact .less (by repeat (first|exact ab.le_refl _|assumption|refine ab.fa ?_ (by assumption)|refine ab.lq ?_ (by assumption))) (.done h)
     . simp[x,v]
       refine⟨by omega,U _ (by omega) ⟨_,_,rfl,(by repeat (first|exact ab.le_refl _|assumption|refine ab.fa ?_ (by assumption)|refine ab.lq ?_ (by assumption))),by simp[r],by simp[w],by simp,λi hi=>?_⟩⟩
       grind
   . simp
     refine vo.intro λd hd=>?_
     obtain⟨J,u,hd⟩:=ab.aP hd;have Q:=e t;have R:=e hd;simp[u,ab.ah];refine aa.bD 8 (b:=d) (bu A) (by simp[J,ab.ah]) (by simp) rfl ?_
     refine aa.bD 9 (b:=c) (bu B) (by simp[u,ab.del]) (by simp) rfl ?_
     apply rn;simp[r,G.1,G.2,E,F];refine⟨by omega,by omega,?_⟩
     refine cf Tryz.func255 rfl (oz (by have:=j.fits.marks A (by rw[C];exact zD y);omega) (λn o=>(N n o).1) ?_)
     apply pg;simp;refine cf Tryz.func255 rfl (oz (by have:=j.fits.marks B (by rw[D];exact zD z);omega) (λn o=>(O n o).1) ?_)
     apply pg;simp;refine cf Tryz.func256 rfl (xK X ?_);rw[<-g];apply pg;simp[H.1,H.2,I.1,I.2];apply rn;simp
     by_cases v:B.hour-A.hour<f.roads[A.place.toNat][B.place.toNat]+f.cM*ch
     . simp[v]
       have:(List.range (l.length-1)).any (λi=>gJ f (l.getD i 0) (l.getD (i+1) 0))=true:=aac.2 ⟨k,ZE.2 (by omega),by grind⟩
       rw[this]at h;exact .less (by repeat (first|exact ab.le_refl _|assumption|refine ab.fa ?_ (by assumption)|refine ab.lq ?_ (by assumption))) (.done h)
     . simp[x,v]
       refine⟨by omega,U _ (by omega) ⟨_,_,rfl,(by repeat (first|exact ab.le_refl _|assumption|refine ab.fa ?_ (by assumption)|refine ab.lq ?_ (by assumption))),by simp[r],by simp[w],by simp,λi hi=>?_⟩⟩
       grind
 . have g2:¬(k:Int)+1<l.length:=by omega
   have:(List.range (l.length-1)).any (λi=>gJ f (l.getD i 0) (l.getD (i+1) 0))=false:=by grind
   rw[this]at h;apply rn;simp[w,x,g2];exact .less q (.done h)
theorem UF:(((prog.info? 278).bind λi=>i.methods.find? (·.name==  "palfrey/mark.breaks")).map λmt=>(mt.path,mt.func))=some (#[],some (250,false)):=by kernel_rfl
theorem UG:(((prog.info? 279).bind λi=>i.methods.find? (·.name==  "palfrey/mark.breaks")).map λmt=>(mt.path,mt.func))=some (#[],some (251,false)):=by kernel_rfl
theorem UH:(((prog.info? 280).bind λi=>i.methods.find? (·.name==  "palfrey/mark.breaks")).map λmt=>(mt.path,mt.func))=some (#[],some (254,false)):=by kernel_rfl
theorem Q9{a}:nW prog 278  "palfrey/mark.breaks" 250 a a:=by obtain⟨mt,b,e⟩:=ZJ.1 UF;obtain⟨info,c,d⟩:=abb.1 b;obtain⟨f,g⟩:=Prod.mk.inj e;exact rI lay Ui c d (by rw[f]) g rfl
theorem Q'{a}:nW prog 279  "palfrey/mark.breaks" 251 a a:=by obtain⟨mt,b,e⟩:=ZJ.1 UG;obtain⟨info,c,d⟩:=abb.1 b;obtain⟨f,g⟩:=Prod.mk.inj e;exact rI lay Uj c d (by rw[f]) g rfl
theorem Ra{a}:nW prog 280  "palfrey/mark.breaks" 254 a a:=by obtain⟨mt,b,e⟩:=ZJ.1 UH;obtain⟨info,c,d⟩:=abb.1 b;obtain⟨f,g⟩:=Prod.mk.inj e;exact rI lay Uk c d (by rw[f]) g rfl
def aY(f:Fr)(l:acm):acm:=(eQ (λa b=>decide (uo f a b<0)) l).reverse
def lZ(f:Fr)(l:acm):Int:=if dV f (aY f l)then 1 else if cS f (aY f l)then 2 else if dt f (aY f l)then 3 else 0
abbrev UI(n:Int):AV:=if n=1 then .lS 278 (.agg [])else if n=2 then .lS 279 (.agg [])else if n=3 then .lS 280 (.agg [])else .lit .nilIface
theorem NT.sort{f l}(h:NT f l):NT f (aY f l):=
 ⟨fun n a=>h.mem n ((um _ _ _).1 (by simpa[aY]using a)),λe=>h.ne (by
   have:(aY f l).length=l.length:=by simp[aY,kX]
   grind),by simp[aY,kX,h.len]⟩
theorem Rb{b mb f l}(y:f.Good)(v:NT f l)(d:l.length<20)(h:KF (.val (UI (lZ f l))) σ):az prog m 144 [lK b mb f 0,ints l] σ KF:=by
 have t:=v.sort;refine fs [] Tryz.func144 rfl (by kernel_rfl) ?_;simp[Tryz.f144];refine bV.intro λc B=>?_
 simp;refine cf Tryz.func177 rfl (O3 Lw v.mem d v.ne ⟨rfl,rfl⟩ ?_);obtain⟨S,z⟩:∃S,S=(eQ (λa b=>decide (uo f a b<0)) l).reverse:=⟨_,rfl⟩;have r:aY f l=S:=z.symm;rw[r]at t;unfold lZ at h;rw[r]at h;rw[<-z];apply rn;simp;refine aa.loop 3 (λk s=>∃env j,s=⟨env,j,[],.no⟩/\σ.Le j/\env 1=ints S/\env 2=.cp (lK b mb f 0) 0/\env 19=.sl 1 [.lS 278 (.agg []),.lS 279 (.agg []),.lS 280 (.agg [])] .exact/\env 20=int 3/\env 21=int k/\(1<=k->dV f S=false)/\(2<=k->cS f S=false)/\(3<=k->dt f S=false)) ⟨_,_,rfl,ab.rz (ab.le_refl _) B,by simp⟩ ?_;rintro E k _ F ⟨env,j,rfl,e,o,p,i,d,g,w,A,C⟩ x;obtain rfl|rfl|rfl|rfl:k=0\/k=1\/k=2\/k=3:=by omega
 . apply rn
   simp[o,p,i,d,g];refine aa.invoke rfl rfl rfl (by simp) rfl Q9 Tryz.func250 rfl rfl ?_;refine Fs t ?_;apply rn;simp;cases hb:dV f S
   . simp[g]
     refine x _ (by omega) ⟨_,_,rfl,e,?_,?_,?_,?_,?_,λ_=>hb,λq=>(by omega),λq=>(by omega)⟩<;>simp[o,p,i,d]
   . simp
     simp[hb]at h;exact .less e (.done h)
 . have n:=w (by omega)
   apply rn;simp[o,p,i,d,g];refine aa.invoke rfl rfl rfl (by simp) rfl Q' Tryz.func251 rfl rfl ?_;refine Ft y t ?_;apply rn;simp;cases hb:cS f S
   . simp[g]
     refine x _ (by omega) ⟨_,_,rfl,e,?_,?_,?_,?_,?_,λ_=>n,λ_=>hb,λq=>(by omega)⟩<;>simp[o,p,i,d]
   . simp
     simp[hb,n]at h;exact .less e (.done h)
 . have n:=w (by omega)
   have u:=A (by omega);apply rn;simp[o,p,i,d,g];refine aa.invoke rfl rfl rfl (by simp) rfl Ra Tryz.func254 rfl rfl ?_;refine Fu y t ?_;apply rn;simp;cases hb:dt f S
   . simp[g]
     refine x _ (by omega) ⟨_,_,rfl,e,?_,?_,?_,?_,?_,λ_=>n,λ_=>u,λ_=>hb⟩<;>simp[o,p,i,d]
   . simp
     simp[hb,n,u]at h;exact .less e (.done h)
 . have n:=w (by omega)
   have u:=A (by omega);have D:=C (by omega);simp[n,u,D]at h;apply rn;simp[d,g];exact .less e (.done h)
end
open Go Go.cz
abbrev nn:Co:=⟨93,94,131,132,166,168,119,120,133,118,165,167,190,191,193,194,196,265,210,21⟩
theorem Ly:∀(a:Fl) b o kind,aN prog a [0,5] (LD prog nn b o kind) un=some (tR prog nn b o kind):=by intro a b o kind;kernel_rfl
theorem Lz:∀(a:Fl) b o kind,aN prog a [0] (tR prog nn b o kind) tt=some (PM prog nn b o kind):=by intro a b o kind;kernel_rfl
theorem LA:∀(a:Fl) b o kind,aN prog a [0,2,3,4,5,12] (tR prog nn b o kind) ff=some (Vb prog nn b o kind):=by intro a b o kind;kernel_rfl
theorem LB:∀(a:Fl) b o kind,aN prog a [8] (PM prog nn b o kind) un=some (Sd prog nn b o kind):=by intro a b o kind;kernel_rfl
theorem LC:∀(a:Fl) b o kind,aN prog a [9] (Sd prog nn b o kind) (pt b o)=some (PN prog nn b o kind):=by intro a b o kind;kernel_rfl
theorem LF:∀(a:Fl) b o kind,aN prog a [] (PN prog nn b o kind) un=some (BK nn kind):=by intro a b o kind;kernel_rfl
theorem Iv:∀(a:Fl) b o kind L K S aw sv it,py prog a [0,2,3,4,5,6] (QL prog nn b o kind aw sv it) (.word L K S 0)=some (HD prog nn b o kind L K S aw sv it):=by intro a b o kind L K S aw sv it;kernel_rfl
theorem Iw:∀(a:Fl) b o kind L K S aw sv it,py prog a [0,2,3,4,5,6] (Gl prog nn b o kind aw sv it) (.word L K S 0)=some (HD prog nn b o kind L K S aw sv it):=by intro a b o kind L K S aw sv it;kernel_rfl
theorem Ix:∀(a:Fl) b o kind L K S aw sv it,py prog a [0,2,3,4,5,6] (QM prog nn b o kind aw sv it) (.word L K S 0)=some (HD prog nn b o kind L K S aw sv it):=by intro a b o kind L K S aw sv it;kernel_rfl
theorem LG:∀(a:Fl) b o kind K aw sv it,Td prog a [0,2,3,4,5,6,17,18] (HD prog nn b o kind true K false aw sv it)=SQ prog nn b o kind K aw sv it:=by intro a b o kind K aw sv it;cases K<;>cases aw<;>cases sv<;>kernel_rfl
theorem LH:∀(a:Fl) b o kind L K S aw sv it,(L && !S)=false->(aw && !K)=false->Td prog a [0,2,3,4,5,6,77,78,79] (HD prog nn b o kind L K S aw sv it)=Cq prog nn b o kind L K S aw sv it:=by intro a b o kind L K S aw sv it c d;cases L<;>cases K<;>cases S<;>cases aw<;>cases sv<;>first|exact absurd c (by decide)|exact absurd d (by decide)|kernel_rfl
theorem Iy:∀(a:Fl) b o kind it,aN prog {a with n0:=false} [0,2,3,4,5,33,36,37,39] (SQ prog nn b o kind false false false it) tt=some (SW prog nn b o kind it):=by intro a b o kind it;kernel_rfl
theorem Fv:∀(a:Fl) b o kind n0 K aw sv it,(!aw && !K && !n0)=false->aN prog {a with n0:=n0} [0,2,3,4,5] (SQ prog nn b o kind K aw sv it) tt=some (DS prog nn b o kind aw sv it):=by intro a b o kind n0 K aw sv it h;cases n0<;>cases K<;>cases aw<;>cases sv<;>first|exact absurd h (by decide)|kernel_rfl
theorem Iz:∀(a:Fl) b o kind K aw sv it,(aw && !K)=false->aN prog a [0,2,3,4,5,6,77,78,79] (SQ prog nn b o kind K aw sv it) ff=some (Cq prog nn b o kind true K false aw sv it):=by intro a b o kind K aw sv it h;cases K<;>cases aw<;>cases sv<;>first|exact absurd h (by decide)|kernel_rfl
theorem IA:∀(a:Fl) b o kind r it,aN prog a [0,2,3,4,5] (SW prog nn b o kind it) (bl r)=some (DS prog nn b o kind r false it):=by intro a b o kind r it;cases r<;>kernel_rfl
theorem Fw:∀(a:Fl) b o kind aw sv,aN prog a [0,2,3,4,5,47] (DS prog nn b o kind aw sv 0) un=some (Gl prog nn b o kind aw sv 1):=by intro a b o kind aw sv;kernel_rfl
theorem Fx:∀(a:Fl) b o kind aw sv,aN prog a [0,2,3,4,5,47] (DS prog nn b o kind aw sv 1) un=some (Gl prog nn b o kind aw sv 2):=by intro a b o kind aw sv;kernel_rfl
theorem Fy:∀(a:Fl) b o kind aw sv,aN prog a [0,2,3,4,5,47] (DS prog nn b o kind aw sv 2) un=some (Gl prog nn b o kind aw sv 3):=by intro a b o kind aw sv;kernel_rfl
theorem FA:∀(a:Fl) b o kind aw sv,aN prog a [0,2,3,4,5,47] (DS prog nn b o kind aw sv 3) un=some (Gl prog nn b o kind aw sv 4):=by intro a b o kind aw sv;kernel_rfl
theorem IB:∀(a:Fl) b o kind K aw sv it,aN prog a [0] (Cq prog nn b o kind false K false aw sv it) tt=some (NO prog nn b o kind):=by intro a b o kind K aw sv it;cases K<;>kernel_rfl
theorem FB:∀(a:Fl) b o kind L K S aw sv it,(L||S)=true->aN prog {a with wz:=true} [0,3] (Cq prog nn b o kind L K S aw sv it) tt=some (T1 prog nn b o kind sv):=by intro a b o kind L K S aw sv it h;cases L<;>cases K<;>cases S<;>first|exact absurd h (by decide)|kernel_rfl
theorem FC:∀(a:Fl) b o kind L K S aw sv it,(L||S)=true->aN prog {a with wz:=false} [0,2,3,91] (Cq prog nn b o kind L K S aw sv it) tt=some (PK prog nn b o kind sv):=by intro a b o kind L K S aw sv it h;cases L<;>cases K<;>cases S<;>first|exact absurd h (by decide)|kernel_rfl
theorem IC:∀(a:Fl) b o kind L K S aw sv it,aN prog a [0,2,3,4,5,133] (Cq prog nn b o kind L K S aw sv it) ff=some (QM prog nn b o kind aw sv it):=by intro a b o kind L K S aw sv it;kernel_rfl
theorem ID:∀(a:Fl) b o kind sv,aN prog a [0,2,3,91] (T1 prog nn b o kind sv) .HF=some (PK prog nn b o kind sv):=by intro a b o kind sv;kernel_rfl
theorem FD:∀(a:Fl) b o kind,aN prog a [0,2,3,103] (PK prog nn b o kind true) un=some (UP prog nn b o kind true):=by intro a b o kind;kernel_rfl
theorem FE:∀(a:Fl) b o kind,aN prog a [0,2,95] (PK prog nn b o kind false) un=some (TQ prog nn b o kind):=by intro a b o kind;kernel_rfl
theorem IE:∀(a:Fl) b o kind x,aN prog {a with tb:=x} [0,2,3,103] (TQ prog nn b o kind) .now=some (UP prog nn b o kind x):=by intro a b o kind x;cases x<;>kernel_rfl
theorem IF:∀(a:Fl) b o kind sv n1,aN prog {a with n0:=false,n1:=n1} [0,128,129] (UP prog nn b o kind sv) (.word false false true 0)=some (AD prog nn b o kind (if !sv||n1 then -11 else -7)):=by intro a b o kind sv n1;cases sv<;>cases n1<;>kernel_rfl
theorem IG:∀(a:Fl) b o kind L K sv,py prog a [0,2,3,4,5,6] (UP prog nn b o kind sv) (.word L K false 0)=some (HD prog nn b o kind L K false true sv 0):=by intro a b o kind L K sv;cases L<;>cases K<;>kernel_rfl
theorem IH:∀(a:Fl) b o kind d,aN prog a [0] (AD prog nn b o kind d) .cA=some (NO prog nn b o kind):=by intro a b o kind d;kernel_rfl
theorem II:∀(a:Fl) b o kind,aN prog a [136] (NO prog nn b o kind) un=some (Se prog nn b o kind):=by intro a b o kind;kernel_rfl
theorem IJ:∀(a:Fl) b o kind,aN prog a [137] (Se prog nn b o kind) (pt b o)=some (PQ prog nn b o kind):=by intro a b o kind;kernel_rfl
theorem IK:∀(a:Fl) b o kind,aN prog a [] (PQ prog nn b o kind) un=some (BK nn kind):=by intro a b o kind;kernel_rfl
theorem LI:∀(a:Fl) b o kind,aN prog a [0,7] (U0 prog nn b o kind) .cA=some (Sf prog nn b o kind):=by intro a b o kind;kernel_rfl
theorem LJ:∀(a:Fl) b o kind,aN prog a [0,8] (Sf prog nn b o kind) (pt b o)=some (UR prog nn b o kind):=by intro a b o kind;kernel_rfl
theorem LL:∀(a:Fl) b o kind,aN prog a [0] (UR prog nn b o kind) un=some (UD prog nn b o kind):=by intro a b o kind;kernel_rfl
theorem LM:∀(a:Fl) b o kind,aN prog a [0,13] (UD prog nn b o kind) un=some (rB prog nn b o kind):=by intro a b o kind;kernel_rfl
theorem LN:∀(a:Fl) b o kind n0 K,(n0||K)=true->aN prog {a with n0:=n0} [] (rB prog nn b o kind) (.word false K false 0)=some (UE prog nn b o kind):=by intro a b o kind n0 K h;cases n0<;>cases K<;>first|exact absurd h (by decide)|kernel_rfl
theorem IL:∀(a:Fl) b o kind n0 K,aN prog {a with n0:=n0} [41] (rB prog nn b o kind) (.word false K true 0)=some (G9 prog nn b o kind):=by intro a b o kind n0 K;cases n0<;>cases K<;>kernel_rfl
theorem IM:∀(a:Fl) b o kind,aN prog {a with n0:=false} [0,27,28,29] (rB prog nn b o kind) (.word false false false 0)=some (UC prog nn b o kind):=by intro a b o kind;kernel_rfl
theorem IN:∀(a:Fl) b o kind,aN prog a [33] (UC prog nn b o kind) tt=some (G7 prog nn b o kind):=by intro a b o kind;kernel_rfl
theorem IP:∀(a:Fl) b o kind,aN prog a [0,37] (UC prog nn b o kind) ff=some (NP prog nn b o kind):=by intro a b o kind;kernel_rfl
theorem LO:∀(a:Fl) b o kind n0 L K S,(n0||L||K||S)=true->aN prog {a with n0:=n0} [] (NP prog nn b o kind) (.word L K S 0)=some (UE prog nn b o kind):=by intro a b o kind n0 L K S h;cases n0<;>cases L<;>cases K<;>cases S<;>first|exact absurd h (by decide)|kernel_rfl
theorem IQ:∀(a:Fl) b o kind,aN prog {a with n0:=false} [0,27,28,29] (NP prog nn b o kind) (.word false false false 0)=some (UC prog nn b o kind):=by intro a b o kind;kernel_rfl
theorem LP:∀(a:Fl) b o kind,aN prog a [] (G7 prog nn b o kind) un=some (UE prog nn b o kind):=by intro a b o kind;kernel_rfl
theorem LQ:∀(a:Fl) b o kind,aN prog a [] (G9 prog nn b o kind) un=some (UE prog nn b o kind):=by intro a b o kind;kernel_rfl
theorem IS:∀(a:Fl) b o kind,aN prog a [] (UE prog nn b o kind) un=some (Tn nn kind):=by intro a b o kind;kernel_rfl
theorem LR:∀b o kind,aZ (LD prog nn b o kind).1=some (nn.je,[])/\(LD prog nn b o kind).1.kind=.normal:=by intro b o kind;exact⟨by kernel_rfl,by kernel_rfl⟩
theorem LS:∀b o kind,aZ (tR prog nn b o kind).1=some (nn.jZ,[pt b o,i32 0,i32 1]):=by intro b o kind;kernel_rfl
theorem LU:∀b o kind,aZ (PM prog nn b o kind).1=some (nn.en,[]):=by intro b o kind;kernel_rfl
theorem LV:∀b o kind,j9 (Sd prog nn b o kind).1=some (nn.tM,nn.tU,pt b o):=by intro b o kind;kernel_rfl
theorem LW:∀b o kind,aZ (PN prog nn b o kind).1=some (nn.acq,[pt b o]):=by intro b o kind;kernel_rfl
theorem IT:∀b o kind aw sv it,qG (QL prog nn b o kind aw sv it).1=some (nn.tI,pt b o):=by intro b o kind aw sv it;kernel_rfl
theorem IU:∀b o kind aw sv it,qG (Gl prog nn b o kind aw sv it).1=some (nn.tI,pt b o):=by intro b o kind aw sv it;kernel_rfl
theorem IV:∀b o kind aw sv it,qG (QM prog nn b o kind aw sv it).1=some (nn.tI,pt b o):=by intro b o kind aw sv it;kernel_rfl
theorem LX:∀b o kind K aw sv it,aZ (SQ prog nn b o kind K aw sv it).1=some (nn.HH,[i64 it]):=by intro b o kind K aw sv it;kernel_rfl
theorem LY:∀b o kind it,aZ (SW prog nn b o kind it).1=some (nn.jZ,[pt b o,.word true false false 0,.word true true false 0]):=by intro b o kind it;kernel_rfl
theorem LZ:∀b o kind aw sv it,aZ (DS prog nn b o kind aw sv it).1=some (nn.tQ,[]):=by intro b o kind aw sv it;kernel_rfl
theorem IW:∀b o kind L K S aw sv it,aZ (Cq prog nn b o kind L K S aw sv it).1=some (nn.jZ,[pt b o,.word L K S 0,Od L K S aw sv]):=by intro b o kind L K S aw sv it;kernel_rfl
theorem IX:∀b o kind sv,aZ (T1 prog nn b o kind sv).1=some (nn.nano,[]):=by intro b o kind sv;kernel_rfl
theorem IY:∀b o kind sv,aZ (PK prog nn b o kind sv).1=some (nn.EG,[pt b (o+1),.cA,i64 2]):=by intro b o kind sv;kernel_rfl
theorem IZ:∀b o kind,aZ (TQ prog nn b o kind).1=some (nn.nano,[]):=by intro b o kind;kernel_rfl
theorem I0:∀b o kind sv,qG (UP prog nn b o kind sv).1=some (nn.tI,pt b o):=by intro b o kind sv;kernel_rfl
theorem I1:∀b o kind d,aZ (AD prog nn b o kind d).1=some (nn.add,[pt b o,i32 d]):=by intro b o kind d;kernel_rfl
theorem I2:∀b o kind,aZ (NO prog nn b o kind).1=some (nn.en,[]):=by intro b o kind;kernel_rfl
theorem I3:∀b o kind,j9 (Se prog nn b o kind).1=some (nn.tM,nn.tU,pt b o):=by intro b o kind;kernel_rfl
theorem I4:∀b o kind,aZ (PQ prog nn b o kind).1=some (nn.acq,[pt b o]):=by intro b o kind;kernel_rfl
theorem I5:∀b o kind,qG (U0 prog nn b o kind).1=some (nn.tI,pt b o)/\(U0 prog nn b o kind).1.kind=.normal/\(U0 prog nn b o kind).1.fn=nn.vC:=by intro b o kind;exact⟨by kernel_rfl,by kernel_rfl,by kernel_rfl⟩
theorem I6:∀b o kind,j9 (Sf prog nn b o kind).1=some (nn.tM,nn.tU,pt b o):=by intro b o kind;kernel_rfl
theorem I7:∀b o kind,aZ (UR prog nn b o kind).1=some (nn.rel,[pt b o]):=by intro b o kind;kernel_rfl
theorem I8:∀b o kind,aZ (UD prog nn b o kind).1=some (nn.je,[]):=by intro b o kind;kernel_rfl
theorem I9:∀b o kind,aZ (rB prog nn b o kind).1=some (nn.add,[pt b o,i32 (-1)]):=by intro b o kind;kernel_rfl
theorem I':∀b o kind,aZ (UC prog nn b o kind).1=some (nn.jZ,[pt b o,wf,.word false true false (-1)]):=by intro b o kind;kernel_rfl
theorem Ja:∀b o kind,aZ (G7 prog nn b o kind).1=some (nn.n8,[pt b (o+1),ff,i64 2]):=by intro b o kind;kernel_rfl
theorem Jb:∀b o kind,aZ (G9 prog nn b o kind).1=some (nn.n8,[pt b (o+1),tt,i64 2]):=by intro b o kind;kernel_rfl
theorem Jc:∀b o kind,qG (NP prog nn b o kind).1=some (nn.tI,pt b o):=by intro b o kind;kernel_rfl
theorem Jd:∀b o kind,aZ (UE prog nn b o kind).1=some (nn.en,[]):=by intro b o kind;kernel_rfl
theorem L0:∀b o kind,(Tj prog nn b o kind).all (·.env.all plain)=true/\(LD prog nn b o kind).1.env.all plain=true/\(LD prog nn b o kind).2=Tj prog nn b o kind:=by intro b o kind;exact⟨by kernel_rfl,by kernel_rfl,by kernel_rfl⟩
theorem L1:∀b o kind,(Va prog nn b o kind).all (·.env.all plain)=true:=by intro b o kind;kernel_rfl
theorem L2:∀b o kind,(Tm prog nn b o kind).all (·.env.all plain)=true/\(U0 prog nn b o kind).1.env.all plain=true/\(U0 prog nn b o kind).2=Tm prog nn b o kind:=by intro b o kind;exact⟨by kernel_rfl,by kernel_rfl,by kernel_rfl⟩
theorem L3:∀b o kind,(Vz prog nn b o kind).all (·.env.all plain)=true:=by intro b o kind;kernel_rfl
theorem zX:fY prog nn where
 e1:=Ly
 e2:=Lz
 e3:=LA
 e4:=LB
 e5:=LC
 e6:=LF
 Wz:=Iv
 QN:=Iw
 WG:=Ix
 e8:=LG
 e9:=LH
 bp:=Iy
 Tp:=Fv
 bs:=Iz
 cZ:=IA
 EI:=Fw
 EJ:=Fx
 Tq:=Fy
 Tr:=FA
 m8:=IB
 Ts:=FB
 Tt:=FC
 il:=IC
 jP:=ID
 Tu:=FD
 Tv:=FE
 lU:=IE
 Oe:=IF
 yG:=IG
 m9:=IH
 vD:=II
 rR:=IJ
 HI:=IK
 u1:=LI
 u2:=LJ
 u3:=LL
 u4:=LM
 u5:=LN
 WH:=IL
 WI:=IM
 WJ:=IN
 WK:=IP
 u7:=LO
 WL:=IQ
 u8:=LP
 u9:=LQ
 WM:=IS
 o1:=LR
 o2:=LS
 o3:=LU
 o4:=LV
 o5:=LW
 WN:=IT
 WO:=IU
 WQ:=IV
 o7:=LX
 o8:=LY
 o9:=LZ
 VA:=IW
 WR:=IX
 VB:=IY
 WT:=IZ
 WU:=I0
 WV:=I1
 WW:=I2
 WX:=I3
 WZ:=I4
 VC:=I5
 W2:=I6
 W6:=I7
 W7:=I8
 VD:=I9
 VE:=I'
 VF:=Ja
 VG:=Jb
 W8:=Jc
 W9:=Jd
 p1:=L0
 p2:=L1
 p3:=L2
 p4:=L3
theorem zY:fZ prog nn where
 je:=⟨_,rfl,rfl,rfl,rfl,rfl⟩
 en:=⟨_,rfl,rfl,rfl,rfl,rfl⟩
 acq:=⟨_,rfl,rfl,rfl,rfl,rfl⟩
 rel:=⟨_,rfl,rfl,rfl,rfl,rfl⟩
 jZ:=⟨_,rfl,rfl,rfl,rfl,rfl⟩
 add:=⟨_,rfl,rfl,rfl,rfl,rfl⟩
 HH:=⟨_,rfl,rfl,rfl,rfl,rfl⟩
 tQ:=⟨_,rfl,rfl,rfl,rfl,rfl⟩
 nano:=⟨_,rfl,rfl,rfl,rfl,rfl⟩
 Kl:=⟨_,rfl,rfl⟩
 EG:=⟨_,rfl,rfl,rfl,rfl,rfl⟩
 n8:=⟨_,rfl,rfl,rfl,rfl,rfl⟩
 Tw:=by kernel_rfl
 Xa:=⟨_,rfl,rfl,rfl⟩
 nS:=⟨_,rfl,rfl⟩
 nU:=⟨_,rfl,rfl⟩
 nV:=⟨_,rfl,rfl⟩

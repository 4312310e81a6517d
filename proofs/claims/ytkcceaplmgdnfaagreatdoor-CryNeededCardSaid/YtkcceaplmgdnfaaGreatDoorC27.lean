import Derived.Test.YtkcceaplmgdnfaaGreatDoorProg
import Derived.Test.YtkcceaplmgdnfaaGreatDoorC26
set_option linter.all false
set_option maxHeartbeats 1000000
set_option maxRecDepth 100000
namespace Go.Proofs.YtkcceaplmgdnfaaGreatDoor
open Go.Proofs.Tryz (prog)
section
open Go.bQ
@[simp] def acF:TI:=⟨.func,1,8,.nilFunc,[]⟩
@[simp] def acJ:TI:=⟨.int .i64,1,8,(.int .i64 0),[]⟩
@[simp] def acW:TI:=⟨.bool,1,1,(.bool false),[]⟩
@[simp] def acI:TI:=⟨.int .u8,1,1,(.int .u8 0),[]⟩
@[simp] def acO:TI:=⟨.struct,4,24,(.agg #[(.int .i64 0),(.int .i64 0),(.bool false),(.int .u8 0)]),[(0,1,2),(1,1,3),(2,1,4),(3,1,6)]⟩
@[simp] def acL:TI:=⟨.string,1,16,(.string ByteArray.empty),[]⟩
@[simp] def acK:TI:=⟨.int .u64,1,8,(.int .u64 0),[]⟩
@[simp] def acP:TI:=⟨.struct,2,24,(.agg #[(.string ByteArray.empty),(.int .u64 0)]),[(0,1,9),(1,1,12)]⟩
@[simp] def acX:TI:=⟨.pointer 311,1,8,(.pointer none),[]⟩
@[simp] def acY:TI:=⟨.pointer 314,1,8,(.pointer none),[]⟩
@[simp] def acZ:TI:=⟨.pointer 322,1,8,(.pointer none),[]⟩
@[simp] def acM:TI:=⟨.struct,1,8,(.agg #[(.pointer none)]),[(0,1,17)]⟩
@[simp] def acH:TI:=⟨.iface,1,16,.nilIface,[]⟩
@[simp] def acN:TI:=⟨.int .i32,1,4,(.int .i32 0),[]⟩
@[simp] def ada:TI:=⟨.slice 3,1,24,(.slice none 0 0),[]⟩
@[simp] def adb:TI:=⟨.slice 56,1,24,(.slice none 0 0),[]⟩
@[simp] def ade:TI:=⟨.slice 22,1,24,(.slice none 0 0),[]⟩
@[simp] def acQ:TI:=⟨.struct,2,16,(.agg #[(.int .i64 0),(.int .i64 0)]),[(0,1,3),(1,1,3)]⟩
@[simp] def acR:TI:=⟨.struct,6,80,(.agg #[(.slice none 0 0),(.slice none 0 0),(.int .i64 0),(.int .i64 0),(.int .i64 0),(.int .i64 0)]),[(0,1,23),(1,1,24),(2,2,26),(4,1,3),(5,1,3)]⟩
@[simp] def adf:TI:=⟨.slice 50,1,24,(.slice none 0 0),[]⟩
@[simp] def adg:TI:=⟨.slice 58,1,24,(.slice none 0 0),[]⟩
@[simp] def acS:TI:=⟨.struct,9,136,(.agg #[(.slice none 0 0),(.slice none 0 0),(.int .i64 0),(.int .i64 0),(.int .i64 0),(.int .i64 0),(.int .i64 0),(.slice none 0 0),(.slice none 0 0)]),[(0,6,28),(6,1,3),(7,1,29),(8,1,30)]⟩
@[simp] def adh:TI:=⟨.pointer 83,1,8,(.pointer none),[]⟩
@[simp] def acT:TI:=⟨.struct,5,40,(.agg #[(.int .i64 0),(.int .i64 0),(.int .i64 0),(.int .i64 0),(.int .i64 0)]),[(0,1,3),(1,1,3),(2,1,3),(3,2,26)]⟩
@[simp] def adi:TI:=⟨.struct,6,64,(.agg #[(.int .i64 0),(.int .i64 0),(.int .i64 0),(.slice none 0 0),(.int .i64 0),(.int .i64 0)]),[(0,1,3),(1,1,3),(2,1,3),(3,1,22),(4,1,3),(5,1,3)]⟩
@[simp] def adj:TI:=⟨.struct,8,80,(.agg #[(.int .i64 0),(.int .i64 0),(.int .i64 0),(.slice none 0 0),(.int .i64 0),(.int .i64 0),(.int .i64 0),(.int .i64 0)]),[(0,6,56),(6,1,3),(7,1,3)]⟩
@[simp] def adk:TI:=⟨.slice 26,1,24,(.slice none 0 0),[]⟩
@[simp] def adl:TI:=⟨.struct,3,40,(.agg #[(.slice none 0 0),(.int .i64 0),(.int .u64 0)]),[(0,1,22),(1,1,3),(2,1,81)]⟩
@[simp] def adm:TI:=⟨.pointer 158,1,8,(.pointer none),[]⟩
@[simp] def adn:TI:=⟨.pointer 32,1,8,(.pointer none),[]⟩
@[simp] def ado:TI:=⟨.struct,1,8,(.agg #[.nilFunc]),[(0,1,45)]⟩
@[simp] def acG:TI:=⟨.struct,0,0,(.agg #[]),[]⟩
@[simp] def adp:TI:=⟨.struct,2,2,(.agg #[(.int .u8 0),(.int .u8 0)]),[(0,1,110),(1,1,110)]⟩
@[simp] def adq:TI:=⟨.array 2 3,2,16,(.agg #[(.int .i64 0),(.int .i64 0)]),[]⟩
@[simp] def acU:TI:=⟨.struct,1,8,(.agg #[.nilFunc]),[(0,1,51)]⟩
@[simp] def adr:TI:=⟨.int .u32,1,4,(.int .u32 0),[]⟩
@[simp] def ads:TI:=⟨.struct,2,8,(.agg #[(.int .i32 0),(.int .u32 0)]),[(0,1,21),(1,1,150)]⟩
@[simp] def adt:TI:=⟨.struct,2,8,(.agg #[(.int .i32 0),(.int .u32 0)]),[(0,0,149),(0,2,152)]⟩
@[simp] def adu:TI:=⟨.array 3 3,3,24,(.agg #[(.int .i64 0),(.int .i64 0),(.int .i64 0)]),[]⟩
@[simp] def adv:TI:=⟨.map 112 193,1,8,(.map none),[]⟩
@[simp] def adw:TI:=⟨.struct,15,176,(.agg #[(.slice none 0 0),(.slice none 0 0),(.int .i64 0),(.int .i64 0),(.int .i64 0),(.int .i64 0),(.int .i64 0),(.slice none 0 0),(.slice none 0 0),(.int .i32 0),(.int .u32 0),(.int .i64 0),(.int .i64 0),(.int .i64 0),(.map none)]),[(0,9,32),(9,2,154),(11,3,155),(14,1,156)]⟩
@[simp] def adx:TI:=⟨.struct,1,8,(.agg #[(.int .u64 0)]),[(0,0,159),(0,0,160),(0,1,81)]⟩
@[simp] def ady:TI:=⟨.struct,2,16,(.agg #[(.int .u64 0),(.int .u32 0)]),[(0,0,149),(0,1,162),(1,1,150)]⟩
@[simp] def adz:TI:=⟨.array 4 3,4,32,(.agg #[(.int .i64 0),(.int .i64 0),(.int .i64 0),(.int .i64 0)]),[]⟩
@[simp] def adA:TI:=⟨.array 3 110,3,3,(.agg #[(.int .u8 0),(.int .u8 0),(.int .u8 0)]),[]⟩
@[simp] def adB:TI:=⟨.array 3 124,3,48,(.agg #[.nilIface,.nilIface,.nilIface]),[]⟩
@[simp] def acV:TI:=⟨.struct,1,4,(.agg #[(.int .u32 0)]),[(0,0,159),(0,1,150)]⟩
@[simp] def adC:TI:=⟨.struct,3,12,(.agg #[(.int .u32 0),(.int .i32 0),(.int .u32 0)]),[(0,0,149),(0,1,187),(1,2,154)]⟩
@[simp] def adD:TI:=⟨.array 6 185,18,288,(.agg #[.nilIface,.nilIface,.nilIface,.nilIface,.nilIface,.nilIface,.nilIface,.nilIface,.nilIface,.nilIface,.nilIface,.nilIface,.nilIface,.nilIface,.nilIface,.nilIface,.nilIface,.nilIface]),[]⟩
@[simp] def adE:TI:=⟨.struct,21,304,(.agg #[(.int .u32 0),(.int .i32 0),(.int .u32 0),.nilIface,.nilIface,.nilIface,.nilIface,.nilIface,.nilIface,.nilIface,.nilIface,.nilIface,.nilIface,.nilIface,.nilIface,.nilIface,.nilIface,.nilIface,.nilIface,.nilIface,.nilIface]),[(0,3,189),(3,18,190)]⟩
@[simp] def adF:TI:=⟨.pointer 192,1,8,(.pointer none),[]⟩
@[simp] def adG:TI:=⟨.struct,1,8,(.agg #[(.int .i64 0)]),[(0,1,37)]⟩
@[simp] def adH:TI:=⟨.pointer 197,1,8,(.pointer none),[]⟩
@[simp] def adI:TI:=⟨.pointer 257,1,8,(.pointer none),[]⟩
@[simp] def adJ:TI:=⟨.pointer 164,1,8,(.pointer none),[]⟩
@[simp] def adK:TI:=⟨.pointer 150,1,8,(.pointer none),[]⟩
@[simp] def adL:TI:=⟨.pointer 154,1,8,(.pointer none),[]⟩
@[simp] def adM:TI:=⟨.slice 100,1,24,(.slice none 0 0),[]⟩
@[simp] def adN:TI:=⟨.struct,3,24,(.agg #[(.pointer none),(.pointer none),(.int .u64 0)]),[(0,1,17),(1,1,210),(2,1,243)]⟩
@[simp] def adO:TI:=⟨.map 291 4,1,8,(.map none),[]⟩
@[simp] def adP:TI:=⟨.struct,9,96,(.agg #[(.slice none 0 0),(.slice none 0 0),(.int .i64 0),(.int .i64 0),(.int .i64 0),(.int .i64 0),(.int .i32 0),(.int .u32 0),(.map none)]),[(0,6,28),(6,2,154),(8,1,255)]⟩
@[simp] def adQ:TI:=⟨.chan 3,1,8,(.chan none),[]⟩
@[simp] def adR:TI:=⟨.struct,1,8,(.agg #[.nilFunc]),[(0,1,48)]⟩
@[simp] def adS:TI:=⟨.slice 239,1,24,(.slice none 0 0),[]⟩
@[simp] def adT:TI:=⟨.pointer 189,1,8,(.pointer none),[]⟩
@[simp] def adU:TI:=⟨.struct,1,1,(.agg #[(.int .u8 0)]),[(0,1,5)]⟩
@[simp] def adV:TI:=⟨.array 6 291,6,6,(.agg #[(.int .u8 0),(.int .u8 0),(.int .u8 0),(.int .u8 0),(.int .u8 0),(.int .u8 0)]),[]⟩
@[simp] def adW:TI:=⟨.pointer 187,1,8,(.pointer none),[]⟩
@[simp] def adX:TI:=⟨.struct,4,40,(.agg #[(.pointer none),(.pointer none),(.pointer none),(.string ByteArray.empty)]),[(0,1,17),(1,1,17),(2,1,17),(3,1,9)]⟩
@[simp] def adY:TI:=⟨.array 0 16,0,0,(.agg #[]),[]⟩
@[simp] def adZ:TI:=⟨.struct,0,0,(.agg #[]),[(0,0,312)]⟩
@[simp] def aea:TI:=⟨.pointer 5,1,8,(.pointer none),[]⟩
@[simp] def aeb:TI:=⟨.struct,11,48,(.agg #[(.int .u64 0),(.int .u64 0),(.int .u32 0),(.int .u8 0),(.int .u8 0),(.int .u8 0),(.int .u8 0),.nilFunc,(.pointer none),(.int .i32 0),(.int .i32 0)]),[(0,1,12),(1,1,12),(2,1,150),(3,1,316),(4,1,5),(5,1,5),(6,1,248),(7,1,317),(8,1,318),(9,1,319),(10,1,320)]⟩
def LG:List (Nat × TI):=[
 (1,acF),
 (2,acJ),
 (3,acJ),
 (4,acW),
 (5,acI),
 (6,acI),
 (7,acO),
 (8,acO),
 (9,acL),
 (10,acL),
 (11,acL),
 (12,acK),
 (13,acP),
 (14,acP),
 (15,acX),
 (16,acY),
 (17,acZ),
 (18,acM),
 (19,acM),
 (20,acH),
 (21,acN),
 (22,ada),
 (23,adb),
 (24,ade),
 (25,acQ),
 (26,acQ),
 (27,acR),
 (28,acR),
 (29,adf),
 (30,adg),
 (31,acS),
 (32,acS),
 (34,acF),
 (35,adh),
 (37,acJ),
 (40,acF),
 (43,acF),
 (44,acF),
 (45,acF),
 (46,acF),
 (48,acF),
 (49,acT),
 (50,acT),
 (51,acF),
 (56,adi),
 (58,adj),
 (59,adk),
 (67,acF),
 (72,acF),
 (73,acF),
 (81,acK),
 (83,adl),
 (84,adm),
 (87,acF),
 (88,acF),
 (90,adn),
 (93,ado),
 (99,acH),
 (100,acH),
 (102,acF),
 (105,acG),
 (108,acF),
 (110,acI),
 (112,adp),
 (114,acF),
 (115,acF),
 (121,acF),
 (124,acH),
 (125,acG),
 (145,adq),
 (147,acU),
 (148,acU),
 (149,acG),
 (150,adr),
 (152,ads),
 (154,adt),
 (155,adu),
 (156,adv),
 (158,adw),
 (159,acG),
 (160,acG),
 (162,adx),
 (164,ady),
 (167,adz),
 (170,acK),
 (172,acH),
 (175,acF),
 (176,acF),
 (177,adA),
 (184,acF),
 (185,adB),
 (186,acV),
 (187,acV),
 (189,adC),
 (190,adD),
 (192,adE),
 (193,adF),
 (195,acG),
 (197,adG),
 (199,adH),
 (201,adI),
 (204,acF),
 (208,adJ),
 (211,acJ),
 (215,adK),
 (219,adL),
 (224,acM),
 (226,acH),
 (229,acH),
 (231,acH),
 (232,adM),
 (239,acH),
 (243,acK),
 (245,adN),
 (248,acI),
 (255,adO),
 (257,adP),
 (258,adQ),
 (277,adR),
 (278,acG),
 (279,acG),
 (280,acG),
 (281,adS),
 (283,adT),
 (284,acG),
 (291,adU),
 (292,adV),
 (295,acF),
 (298,adW),
 (311,adX),
 (312,adY),
 (314,adZ),
 (316,acI),
 (317,acF),
 (318,aea),
 (319,acN),
 (320,acN),
 (322,aeb),
 (328,acI)]
theorem Is:(LG.all λx=>x.2.check Tryz.prog x.1)=true:=by kernel_rfl
def BI(t:Nat):Option TI:=(LG.find? λx=>x.1==t).map (·.2)
theorem Ft(t:Nat)(i:TI)(h:BI t=some i):i.check Tryz.prog t=true:=by unfold BI at h;obtain⟨x,a,rfl⟩:=Option.map_eq_some_iff.1 h;have c:=List.find?_some a;have b:=List.all_eq_true.1 Is x (List.mem_of_find?_eq_some a);rw[beq_iff_eq.1 c]at b;exact b
def lay:iZ Tryz.prog:=⟨BI,Ft,by kernel_rfl⟩
theorem rn{m:Mo}{fid n:Nat}{ro:acf}{hold:ace}{s:St}{K:bQ.Exit->St->Prop}{todo:acm}(h:bs lay m fid n ro [] hold 1000 todo s K):ab Tryz.prog m fid n ro hold todo s K:=ab.run lay [] h
theorem pg{m:Mo}{ops:acd}{n:Nat}{Kp:abU}{R:abP}{p:jD}{env:Env}{σ:aa}(h:im lay m [] ops n Kp p env σ R):aM Tryz.prog m ops n Kp p env σ R:=aM.go lay [] h
theorem cf{m:Mo}{f:FuncId}{fn:Func}{args:acw}{σ:aa}{KF:abT}(a:Tryz.prog.funcs[f]?=some fn)(hb:(fn.body.isSome && !(fn.name== "runtime.NumGoroutine"))=true)(h:aA Tryz.prog m f args σ KF):bZ Tryz.prog m (.fn (.func f) [] []) args σ KF:=by
 simp only[zj,aaN]at hb;exact ar a hb.1 hb.2 h
theorem fs{m:Mo}{f:FuncId}{fn:Func}{args:acw}{σ:aa}{KF:abT}{body:Code}(hold:ace)(k:Nat)(b:Tryz.prog.funcs[f]?=some fn)(hb:fn.body=some body)(c:args.length=k)(d:nZ fn k=true)(a:kO hold body=true)(h:bs lay m f fn.ntmps none [] hold 1000 [.code body] ⟨dt args,σ,[],.no⟩ (RJ lay m fn.results.toList (ny KF))):aA Tryz.prog m f args σ KF:=aA.start lay [] hold k b hb c d a h
@[simp] theorem Zy:lay.tt 1=some acF:=rfl
@[simp] theorem Zz:lay.tt 2=some acJ:=rfl
@[simp] theorem qM:lay.tt 3=some acJ:=rfl
@[simp] theorem YS:lay.tt 4=some acW:=rfl
@[simp] theorem Xq:lay.tt 5=some acI:=rfl
@[simp] theorem ZA:lay.tt 6=some acI:=rfl
@[simp] theorem ZB:lay.tt 7=some acO:=rfl
@[simp] theorem ZC:lay.tt 8=some acO:=rfl
@[simp] theorem ZD:lay.tt 9=some acL:=rfl
@[simp] theorem YT:lay.tt 10=some acL:=rfl
@[simp] theorem YU:lay.tt 11=some acL:=rfl
@[simp] theorem YV:lay.tt 12=some acK:=rfl
@[simp] theorem YW:lay.tt 13=some acP:=rfl
@[simp] theorem YX:lay.tt 14=some acP:=rfl
@[simp] theorem YY:lay.tt 15=some acX:=rfl
@[simp] theorem YZ:lay.tt 16=some acY:=rfl
@[simp] theorem Y0:lay.tt 17=some acZ:=rfl
@[simp] theorem Y1:lay.tt 18=some acM:=rfl
@[simp] theorem Y2:lay.tt 19=some acM:=rfl
@[simp] theorem Y3:lay.tt 20=some acH:=rfl
@[simp] theorem Y4:lay.tt 21=some acN:=rfl
@[simp] theorem dh:lay.tt 22=some ada:=rfl
@[simp] theorem na:lay.tt 23=some adb:=rfl
@[simp] theorem nf:lay.tt 24=some ade:=rfl
@[simp] theorem Y5:lay.tt 25=some acQ:=rfl
@[simp] theorem V8:lay.tt 26=some acQ:=rfl
@[simp] theorem Y6:lay.tt 27=some acR:=rfl
@[simp] theorem Y7:lay.tt 28=some acR:=rfl
@[simp] theorem Rf:lay.tt 29=some adf:=rfl
@[simp] theorem It:lay.tt 30=some adg:=rfl
@[simp] theorem Y8:lay.tt 31=some acS:=rfl
@[simp] theorem Y9:lay.tt 32=some acS:=rfl
@[simp] theorem Y':lay.tt 34=some acF:=rfl
@[simp] theorem Za:lay.tt 35=some adh:=rfl
@[simp] theorem Zb:lay.tt 37=some acJ:=rfl
@[simp] theorem Zc:lay.tt 40=some acF:=rfl
@[simp] theorem Zd:lay.tt 43=some acF:=rfl
@[simp] theorem Ze:lay.tt 44=some acF:=rfl
@[simp] theorem Zf:lay.tt 45=some acF:=rfl
@[simp] theorem Zg:lay.tt 46=some acF:=rfl
@[simp] theorem Zh:lay.tt 48=some acF:=rfl
@[simp] theorem Zi:lay.tt 49=some acT:=rfl
@[simp] theorem Ui:lay.tt 50=some acT:=rfl
@[simp] theorem Zj:lay.tt 51=some acF:=rfl
@[simp] theorem ze:lay.tt 56=some adi:=rfl
@[simp] theorem Rg:lay.tt 58=some adj:=rfl
@[simp] theorem Uj:lay.tt 59=some adk:=rfl
@[simp] theorem Zk:lay.tt 67=some acF:=rfl
@[simp] theorem Zl:lay.tt 72=some acF:=rfl
@[simp] theorem Zm:lay.tt 73=some acF:=rfl
@[simp] theorem Zn:lay.tt 81=some acK:=rfl
@[simp] theorem Zo:lay.tt 83=some adl:=rfl
@[simp] theorem Zp:lay.tt 84=some adm:=rfl
@[simp] theorem Zq:lay.tt 87=some acF:=rfl
@[simp] theorem Zr:lay.tt 88=some acF:=rfl
@[simp] theorem Zs:lay.tt 90=some adn:=rfl
@[simp] theorem Zt:lay.tt 93=some ado:=rfl
@[simp] theorem Zu:lay.tt 99=some acH:=rfl
@[simp] theorem G5:lay.tt 100=some acH:=rfl
@[simp] theorem Xr:lay.tt 102=some acF:=rfl
@[simp] theorem Xs:lay.tt 105=some acG:=rfl
@[simp] theorem Xt:lay.tt 108=some acF:=rfl
@[simp] theorem LH:lay.tt 110=some acI:=rfl
@[simp] theorem Xu:lay.tt 112=some adp:=rfl
@[simp] theorem Xv:lay.tt 114=some acF:=rfl
@[simp] theorem Xw:lay.tt 115=some acF:=rfl
@[simp] theorem Xx:lay.tt 121=some acF:=rfl
@[simp] theorem Qi:lay.tt 124=some acH:=rfl
@[simp] theorem Xy:lay.tt 125=some acG:=rfl
@[simp] theorem Qj:lay.tt 145=some adq:=rfl
@[simp] theorem Xz:lay.tt 147=some acU:=rfl
@[simp] theorem XA:lay.tt 148=some acU:=rfl
@[simp] theorem XB:lay.tt 149=some acG:=rfl
@[simp] theorem XC:lay.tt 150=some adr:=rfl
@[simp] theorem XD:lay.tt 152=some ads:=rfl
@[simp] theorem XE:lay.tt 154=some adt:=rfl
@[simp] theorem XF:lay.tt 155=some adu:=rfl
@[simp] theorem XG:lay.tt 156=some adv:=rfl
@[simp] theorem XH:lay.tt 158=some adw:=rfl
@[simp] theorem XI:lay.tt 159=some acG:=rfl
@[simp] theorem XJ:lay.tt 160=some acG:=rfl
@[simp] theorem XK:lay.tt 162=some adx:=rfl
@[simp] theorem XL:lay.tt 164=some ady:=rfl
@[simp] theorem XN:lay.tt 167=some adz:=rfl
@[simp] theorem XO:lay.tt 170=some acK:=rfl
@[simp] theorem XP:lay.tt 172=some acH:=rfl
@[simp] theorem XQ:lay.tt 175=some acF:=rfl
@[simp] theorem XR:lay.tt 176=some acF:=rfl
@[simp] theorem Uk:lay.tt 177=some adA:=rfl
@[simp] theorem XS:lay.tt 184=some acF:=rfl
@[simp] theorem XT:lay.tt 185=some adB:=rfl
@[simp] theorem XU:lay.tt 186=some acV:=rfl
@[simp] theorem XV:lay.tt 187=some acV:=rfl
@[simp] theorem XW:lay.tt 189=some adC:=rfl
@[simp] theorem XX:lay.tt 190=some adD:=rfl
@[simp] theorem XY:lay.tt 192=some adE:=rfl
@[simp] theorem Ul:lay.tt 193=some adF:=rfl
@[simp] theorem XZ:lay.tt 195=some acG:=rfl
@[simp] theorem X1:lay.tt 197=some adG:=rfl
@[simp] theorem X2:lay.tt 199=some adH:=rfl
@[simp] theorem X3:lay.tt 201=some adI:=rfl
@[simp] theorem X4:lay.tt 204=some acF:=rfl
@[simp] theorem X5:lay.tt 208=some adJ:=rfl
@[simp] theorem X6:lay.tt 211=some acJ:=rfl
@[simp] theorem X7:lay.tt 215=some adK:=rfl
@[simp] theorem X8:lay.tt 219=some adL:=rfl
@[simp] theorem X9:lay.tt 224=some acM:=rfl
@[simp] theorem Ya:lay.tt 226=some acH:=rfl
@[simp] theorem Yb:lay.tt 229=some acH:=rfl
@[simp] theorem Yc:lay.tt 231=some acH:=rfl
@[simp] theorem Yd:lay.tt 232=some adM:=rfl
@[simp] theorem Um:lay.tt 239=some acH:=rfl
@[simp] theorem Ye:lay.tt 243=some acK:=rfl
@[simp] theorem Yf:lay.tt 245=some adN:=rfl
@[simp] theorem Yg:lay.tt 248=some acI:=rfl
@[simp] theorem Yh:lay.tt 255=some adO:=rfl
@[simp] theorem Yi:lay.tt 257=some adP:=rfl
@[simp] theorem G6:lay.tt 258=some adQ:=rfl
@[simp] theorem Yj:lay.tt 277=some adR:=rfl
@[simp] theorem Uo:lay.tt 278=some acG:=rfl
@[simp] theorem Up:lay.tt 279=some acG:=rfl
@[simp] theorem Uq:lay.tt 280=some acG:=rfl
@[simp] theorem Yk:lay.tt 281=some adS:=rfl
@[simp] theorem Yl:lay.tt 283=some adT:=rfl
@[simp] theorem Ym:lay.tt 284=some acG:=rfl
@[simp] theorem Yn:lay.tt 291=some adU:=rfl
@[simp] theorem Yo:lay.tt 292=some adV:=rfl
@[simp] theorem Yp:lay.tt 295=some acF:=rfl
@[simp] theorem Yq:lay.tt 298=some adW:=rfl
@[simp] theorem Yr:lay.tt 311=some adX:=rfl
@[simp] theorem Ys:lay.tt 312=some adY:=rfl
@[simp] theorem Yt:lay.tt 314=some adZ:=rfl
@[simp] theorem Yu:lay.tt 316=some acI:=rfl
@[simp] theorem Yv:lay.tt 317=some acF:=rfl
@[simp] theorem Yw:lay.tt 318=some aea:=rfl
@[simp] theorem Yx:lay.tt 319=some acN:=rfl
@[simp] theorem Yy:lay.tt 320=some acN:=rfl
@[simp] theorem Yz:lay.tt 322=some aeb:=rfl
@[simp] theorem YA:lay.tt 328=some acI:=rfl
abbrev Zv:ace:=[⟨13,.take [0,1,2,3,4] false (.one 5 (.one 6 (.take [7,8,9,10,11] true (.done))))⟩]
abbrev V9:ace:=[⟨4,.take [0,1,2,3,4,5,6,7,8] true (.done)⟩]
abbrev V':ace:=[⟨3,.take [0,1,2] false (.both 3 (.one 4 (.one 5 (.one 6 (.one 7 (.one 8 (.one 9 (.done))))))) (.one 4 (.both 3 (.one 5 (.one 6 (.one 7 (.one 8 (.one 9 (.done)))))) (.one 5 (.both 3 (.one 6 (.one 7 (.one 8 (.one 9 (.done))))) (.one 6 (.both 3 (.one 7 (.one 8 (.one 9 (.done)))) (.one 7 (.one 3 (.one 8 (.one 9 (.done))))))))))))⟩]
abbrev Wa:ace:=[⟨26,.take [0,1,2,3] false (.one 4 (.one 5 (.one 6 (.take [7,8,9,10,11] true (.done)))))⟩]
abbrev Wb:ace:=[⟨19,.take [0,2,3,4,6,7,11] false (.both 1 (.both 5 (.one 8 (.one 9 (.take [10] true (.one 12 (.done))))) (.one 8 (.one 5 (.one 9 (.take [10] true (.one 12 (.done))))))) (.both 5 (.both 1 (.one 8 (.one 9 (.take [10] true (.one 12 (.done))))) (.one 8 (.both 1 (.one 9 (.take [10] true (.one 12 (.done)))) (.one 9 (.take [1,10] true (.one 12 (.done))))))) (.one 8 (.both 1 (.one 5 (.one 9 (.take [10] true (.one 12 (.done))))) (.one 5 (.both 1 (.one 9 (.take [10] true (.one 12 (.done)))) (.one 9 (.take [1,10] true (.one 12 (.done))))))))))⟩]
abbrev Wc:ace:=[⟨6,.take [0,1,2,3,4,5,6,7,8] true (.done)⟩]
abbrev We:ace:=[⟨3,.take [0,1,2,3,4,5,6,7,8,9] true (.done)⟩,⟨4,.take [0,1,2,3,4,5,6,7,8,9,10,11,12,13,14] true (.take [15] true (.done))⟩,⟨6,.take [0,1,2,3,5,6,7,11,12] false (.take [4,8,9,10] true (.one 13 (.done)))⟩]
abbrev Wf:ace:=[⟨7,.take [0,2,6] false (.both 1 (.one 3 (.one 4 (.one 5 (.one 7 (.done))))) (.one 3 (.both 1 (.one 4 (.one 5 (.one 7 (.done)))) (.one 4 (.take [1] true (.one 5 (.one 7 (.done))))))))⟩,⟨15,.take [0,2,5,6,8,11,12,13] false (.both 1 (.take [3,4,14] false (.one 7 (.take [9,10,16] false (.one 15 (.one 17 (.done)))))) (.one 7 (.take [9,10,16] false (.take [1,3,4,14] true (.one 15 (.one 17 (.done)))))))⟩,⟨21,.take [0,2,3,7] false (.both 1 (.one 4 (.one 5 (.one 6 (.one 8 (.done))))) (.one 4 (.both 1 (.one 5 (.one 6 (.one 8 (.done)))) (.one 5 (.take [1] true (.one 6 (.one 8 (.done))))))))⟩]
abbrev Ur:ace:=[⟨4,.take [0,1,2,3,4,5] false (.one 6 (.done))⟩]
abbrev Wg:ace:=[⟨16,.take [0,1,2,4,5,6,8,9,12] false (.both 3 (.one 7 (.one 10 (.one 11 (.one 13 (.done))))) (.one 7 (.both 3 (.one 10 (.one 11 (.one 13 (.done)))) (.one 10 (.take [3] true (.one 11 (.one 13 (.done))))))))⟩]
abbrev Us:ace:=[⟨1,.take [0,1,2,3,4] false (.both 5 (.one 6 (.one 7 (.done))) (.one 6 (.one 5 (.one 7 (.done)))))⟩,⟨4,.take [0,1,2,3,4,5] true (.one 6 (.done))⟩]
abbrev Ut:ace:=[⟨0,.take [0,1,3,4,6,7] false (.both 2 (.both 5 (.take [11] false (.both 8 (.take [12] false (.one 9 (.one 10 (.done)))) (.one 9 (.one 8 (.take [12] false (.one 10 (.done))))))) (.one 9 (.one 5 (.take [11] false (.one 8 (.take [12] false (.one 10 (.done)))))))) (.one 9 (.one 2 (.one 5 (.take [11] false (.one 8 (.take [12] false (.one 10 (.done)))))))))⟩,⟨8,.take [0,1,2,3,5,6,7,8] false (.one 4 (.one 9 (.done)))⟩]
abbrev Uu:ace:=[⟨24,.take [0,1,2,3,4,5,6,7,8,9,10,11,12,13,14,15,16,17,18,19,20,21,22,23,24] true (.done)⟩,⟨29,.take [0,1,2,3,4,5,6,7,8,9,10,11,12,13,14,15,16,17,18,19,20,21,22] true (.done)⟩]
abbrev Uv:ace:=[⟨1,.take [0,1,2,3,4,5,6,7,8,9,10,11,12,13,14,15,16,17] false (.one 18 (.take [19] true (.done)))⟩]
abbrev Uw:ace:=[⟨4,.take [0,2,4] false (.take [1] true (.one 3 (.one 5 (.done))))⟩,⟨5,.take [0,1,2] false (.one 3 (.one 4 (.take [5,6,8,9,10,12,15,16,17] false (.both 7 (.both 11 (.both 13 (.both 14 (.one 18 (.one 19 (.take [20,21] true (.done)))) (.one 18 (.one 14 (.one 19 (.take [20,21] true (.done)))))) (.one 18 (.one 13 (.one 14 (.one 19 (.take [20,21] true (.done))))))) (.both 13 (.both 11 (.both 14 (.one 18 (.one 19 (.take [20,21] true (.done)))) (.one 18 (.one 14 (.one 19 (.take [20,21] true (.done)))))) (.one 18 (.one 11 (.one 14 (.one 19 (.take [20,21] true (.done))))))) (.one 18 (.both 11 (.one 13 (.one 14 (.one 19 (.take [20,21] true (.done))))) (.one 13 (.one 11 (.one 14 (.one 19 (.take [20,21] true (.done)))))))))) (.both 11 (.both 7 (.both 13 (.both 14 (.one 18 (.one 19 (.take [20,21] true (.done)))) (.one 18 (.one 14 (.one 19 (.take [20,21] true (.done)))))) (.one 18 (.one 13 (.one 14 (.one 19 (.take [20,21] true (.done))))))) (.both 13 (.both 7 (.both 14 (.one 18 (.one 19 (.take [20,21] true (.done)))) (.one 18 (.one 14 (.one 19 (.take [20,21] true (.done)))))) (.both 14 (.both 7 (.one 18 (.one 19 (.take [20,21] true (.done)))) (.one 18 (.one 7 (.one 19 (.take [20,21] true (.done)))))) (.one 18 (.both 7 (.one 14 (.one 19 (.take [20,21] true (.done)))) (.one 14 (.one 7 (.one 19 (.take [20,21] true (.done))))))))) (.one 18 (.both 7 (.one 13 (.one 14 (.one 19 (.take [20,21] true (.done))))) (.one 13 (.both 7 (.one 14 (.one 19 (.take [20,21] true (.done)))) (.one 14 (.one 7 (.one 19 (.take [20,21] true (.done))))))))))) (.both 13 (.both 7 (.both 11 (.both 14 (.one 18 (.one 19 (.take [20,21] true (.done)))) (.one 18 (.one 14 (.one 19 (.take [20,21] true (.done)))))) (.one 18 (.one 11 (.one 14 (.one 19 (.take [20,21] true (.done))))))) (.both 11 (.both 7 (.both 14 (.one 18 (.one 19 (.take [20,21] true (.done)))) (.one 18 (.one 14 (.one 19 (.take [20,21] true (.done)))))) (.both 14 (.both 7 (.one 18 (.one 19 (.take [20,21] true (.done)))) (.one 18 (.one 7 (.one 19 (.take [20,21] true (.done)))))) (.one 18 (.both 7 (.one 14 (.one 19 (.take [20,21] true (.done)))) (.one 14 (.one 7 (.one 19 (.take [20,21] true (.done))))))))) (.one 18 (.both 7 (.one 11 (.one 14 (.one 19 (.take [20,21] true (.done))))) (.one 11 (.both 7 (.one 14 (.one 19 (.take [20,21] true (.done)))) (.one 14 (.one 7 (.one 19 (.take [20,21] true (.done))))))))))) (.one 18 (.both 7 (.both 11 (.one 13 (.one 14 (.one 19 (.take [20,21] true (.done))))) (.one 13 (.one 11 (.one 14 (.one 19 (.take [20,21] true (.done))))))) (.both 11 (.both 7 (.one 13 (.one 14 (.one 19 (.take [20,21] true (.done))))) (.one 13 (.both 7 (.one 14 (.one 19 (.take [20,21] true (.done)))) (.one 14 (.one 7 (.one 19 (.take [20,21] true (.done)))))))) (.one 13 (.both 7 (.one 11 (.one 14 (.one 19 (.take [20,21] true (.done))))) (.one 11 (.both 7 (.one 14 (.one 19 (.take [20,21] true (.done)))) (.one 14 (.one 7 (.one 19 (.take [20,21] true (.done))))))))))))))))))⟩]
abbrev Ux:ace:=[⟨1,.take [0,1,2,3,4,5] true (.one 6 (.done))⟩]
abbrev Uy:ace:=[⟨3,.take [0,1,2,3] false (.one 4 (.one 5 (.take [6,7,8,9,10] true (.done))))⟩,⟨6,.take [0,1,2,3,4,5] true (.one 6 (.done))⟩]
abbrev Uz:ace:=[⟨0,.take [0,1,2,3] false (.one 4 (.one 5 (.done)))⟩]
abbrev Qk:ace:=[⟨7,.take [0,1,2,3] true (.done)⟩]
abbrev UA:ace:=[⟨1,.take [0,1,2,3,4,5,6,7,8,9] true (.done)⟩]
abbrev UB:ace:=[⟨4,.take [0,1,2,3,4,5,6,7,9,10,11,12] false (.both 8 (.one 13 (.one 14 (.take [15,16] true (.done)))) (.one 13 (.one 8 (.one 14 (.take [15,16] true (.done))))))⟩,⟨6,.take [0,1,2,3,4,5,6,7,8,10,11,12,14,16] false (.take [9,13] true (.one 15 (.one 17 (.done))))⟩]
abbrev UF:ace:=[⟨4,.take [0,1,2,3,4,5,6,7,8,9,10,11,12,13,14,15,16,17,18,19,20] true (.done)⟩]
abbrev UG:ace:=[⟨8,.take [0,1,2,3,4,5,6,7,8,9,10,11,12,13,14] true (.done)⟩,⟨11,.take [0,1,3,4,5,6,7,8,10] false (.one 2 (.take [9,11] false (.one 12 (.one 13 (.take [14] true (.done))))))⟩,⟨17,.take [0,1,2,3] false (.one 4 (.one 5 (.take [6] true (.done))))⟩]
abbrev UH:ace:=[⟨4,.take [0,1,2,3,4,5,6,7,8,9,10,11,12,13,14,15,16,17,18,19,20,21,22] false (.both 23 (.one 24 (.one 25 (.one 26 (.done)))) (.one 24 (.one 23 (.one 25 (.one 26 (.done))))))⟩,⟨5,.take [0,1,2,3,4,5,6,7,8,9,10,11,12,13,14,15,16,17,18,19,20,21,22,23,24,26,27] false (.one 25 (.one 28 (.one 29 (.take [30,31,32] true (.done)))))⟩]
attribute [simp] Oa
abbrev int(n:Int):AV:=.lit (.int .i64 n)
abbrev u8(n:Int):AV:=.lit (.int .u8 n)
abbrev bool(b:Bool):AV:=.lit (.bool b)
abbrev ints(l:acp):AV:=.sl 1 (l.map int) .any
abbrev rows(l:abG):AV:=.sl 1 (l.map ints) .any
structure mN where
 hour:Int
 place:Int
 cW:Int
 marks:acp
 bq:Int
 jG:Int
 deriving DecidableEq
structure Fr where
 aD:List mN
 roads:abG
 aR:Int
 eS:Int
 cQ:Int
 aX:Int
 deriving DecidableEq
abbrev br(e:mN):AV:=.agg [int e.hour,int e.place,int e.cW,ints e.marks,int e.bq,int e.jG]
abbrev jw(l:List mN):AV:=.sl 6 (l.map br) .any
abbrev G8(f:Fr):acw:=[jw f.aD,rows f.roads,int f.aR,int f.eS,int f.cQ,int f.aX]
abbrev dB(f:Fr):AV:=.agg (G8 f)
abbrev lR(b mb:Nat)(f:Fr)(o:Nat):AV:=.kp b [jw f.aD,rows f.roads,int f.aR,int f.eS,int f.cQ,int f.aX,.lit (.int .i32 0),.lit (.int .u32 0),.map mb] [6,7] o
def bD(a lo hi:Int):Bool:=decide (lo<=a) && decide (a<=hi)
def Ha:Option Int->Int->Bool
 |some q,h=>decide (h<=q)
 |none,_=>false
def sZ:Option Int->acp->Int
 |_,[]=>0
 |p,h::l=>if bD h 0 4=false then 3 else if Ha p h=true then 5 else sZ (some h) l
def cM(places:Int)(e:mN):Int:=
 if bD e.hour 0 72=false then 1 else if bD e.place 0 (places-1)=false then 3 else if bD e.cW 0 5=false then 1 else if sZ none e.marks≠0 then sZ none e.marks
 else if bD e.bq 0 30=false then 1 else if bD e.jG 0 2=false then 8 else 0
def fS(f:mN->Int):List mN->Int
 |[]=>0
 |d::l=>if f d=0 then fS f l else f d
theorem Pd(l:acp)(i:Nat)(h:i<l.length)(p:Option Int):sZ p (l.drop i)=if bD l[i] 0 4=false then 3 else if Ha p l[i]=true then 5 else sZ (some l[i]) (l.drop (i+1)):=by rw[ZW h,sZ]
theorem Dw(f:mN->Int)(l:List mN)(i:Nat)(h:i<l.length):fS f (l.drop i)=if f l[i]=0 then fS f (l.drop (i+1))else f l[i]:=by rw[ZW h,fS]
theorem BJ{α:Type}{l a:List α}{k:Nat}(g:k<l.length)(g':k<a.length)(h:l.take k=a.take k)(e:l[k]=a[k]):l.take (k+1)=a.take (k+1):=by rw[zs g,zs g',h,e]
def rd(r:abG)(i j:Nat):Int:=(r.getD i []).getD j 0
def dP(r:abG)(i j:Nat):Bool:=rd r i i !=0||rd r i j !=rd r j i||(List.range r.length).any λk=>decide (rd r i j>rd r i k+rd r k j)
def lS(n:Nat)(l:acp):Int:=if l.length≠n then 9 else if l.all (bD · 0 9)then 0 else 1
def ib(n:Nat):abG->Int
 |[]=>0
 |l::r=>if lS n l=0 then ib n r else lS n l
def fT(r:abG):Int:=
 if r.length<1 then 7 else if 3<r.length then 6 else if ib r.length r≠0 then ib r.length r
 else if(List.range r.length).any (λi=>(List.range r.length).any λj=>dP r i j)then 9 else 0
def check(f:Fr):Int:=
 if fT f.roads≠0 then fT f.roads else if(bD f.aR 0 3 && bD f.eS 0 3)=false then 1 else if f.eS<f.aR then 5
 else if(bD f.cQ 1 6 && bD f.aX 1 6)=false then 1 else if(6:Int)<f.aD.length then 6 else fS (cM f.roads.length) f.aD
theorem Fu(n:Nat)(l:abG)(i:Nat)(h:i<l.length):ib n (l.drop i)=if lS n l[i]=0 then ib n (l.drop (i+1))else lS n l[i]:=by rw[ZW h,ib]
structure Fr.Fits(f:Fr):Prop where
 aD:f.aD.length<1152921504606846976
 roads:f.roads.length<1152921504606846976
 row:∀r∈f.roads,r.length<1152921504606846976
 marks:∀e∈f.aD,e.marks.length<1152921504606846976
def jx(i:Int):acp->Int->Int
 |[],_=>-1
 |x::l,v=>if x=v then i else jx (i+1) l v
def qN(l:acp)(v:Int):Int:=jx 0 l v
theorem Ai(l:acp)(v:Int)(i:Nat)(h:i<l.length)(c:Int):jx c (l.drop i) v=if l[i]=v then c else jx (c+1) (l.drop (i+1)) v:=by rw[ZW h,jx]
theorem xW(v:Int):∀(l:acp) (i:Int),0<=i->(0<=jx i l v↔v∈l)
 |[],i,h=>by simp[jx]
 | x::l,i,h=>by
   unfold jx;split
   . simp_all
   . next e=>rw[xW v l (i+1) (by omega)];grind
theorem lT(l:acp)(v:Int):0<=qN l v↔v∈l:=xW v l 0 (abk _)
def iX(f:Fr)(e:mN):acp:=if e.jG≠0 then(List.range (f.eS-f.aR+1).toNat).map λi:Nat=>e.bq-f.eS+(i:Int)else[]
def bV(f:Fr)(e:mN):acp:=if e.jG≠1/\e.bq∉iX f e then iX f e++[e.bq]else iX f e
def iI(first:acp)(others:abG):acp:=first.filter λx=>others.all λl=>decide (x∈l)
def aQ(f:Fr)(i:Int):mN:=f.aD.getD i.toNat ⟨0,0,0,[],0,0⟩
def fZ(f:Fr)(l:acp):acp:=match l.map λi=>bV f (aQ f i)with|[]=>[]|a::r=>iI a r
def UI(a b:Int):Int:=IntKind.u8.wrap (((BitVec.ofInt 8 a|||BitVec.ofInt 8 b).toNat:Nat):Int)
def Dx(a b:Int):Int:=IntKind.u8.wrap (((BitVec.ofInt 8 a &&& BitVec.ofInt 8 b).toNat:Nat):Int)
def xX(a b:Int):Int:=IntKind.u8.wrap (((BitVec.ofInt 8 a ^^^ BitVec.ofInt 8 b).toNat:Nat):Int)
def Ql(a b:Int):Int:=IntKind.u8.wrap (a-b)
theorem s8(a b:Int):pf .or .u8 a b=some (.int .u8 (UI a b)):=rfl
theorem uv(a b:Int):pf .and .u8 a b=some (.int .u8 (Dx a b)):=rfl
theorem Iu(a b:Int):pf .xor .u8 a b=some (.int .u8 (xX a b)):=rfl
theorem Iv(a b:Int):pf .sub .u8 a b=some (.int .u8 (Ql a b)):=rfl
def bU(m n:Int):Int:=UI m (IntKind.u8.wrap (2 ^ min n.toNat IntKind.u8.bits))
def fM(m n:Int):Bool:=Dx (m.fdiv (2 ^ min n.toNat IntKind.u8.bits)) 1==1
def aB(m:Int):acp:=((List.range 6).map λn:Nat=>(n:Int)).filter λn=>fM m n
def aY(l:acp):Int:=l.foldl bU 0
end
open Go.bQ Go.Conc
variable{m:Mo}{σ:aa}{KF:abT}
theorem eC{a lo hi:Int}(h:KF (.val (bool (bD a lo hi))) σ):aA prog m 155 [int a,int lo,int hi] σ KF:=by
 unfold bD at h;refine fs [] 3 Tryz.func155 rfl rfl (by rfl) (by kernel_rfl) ?_;simp[Tryz.f155];refine uX.intro (λb=>?_) (λb=>?_)<;>simp[b]
 . exact .done (by simp_all)
 . exact .done (by simp_all)
theorem LI{l:acp}{v:Int}(j:l.length<1152921504606846976)(h:KF (.val (int (qN l v))) σ):aA prog m 63 [ints l,int v] σ KF:=by
 refine fs [] 2 Tryz.func63 rfl rfl (by rfl) (by kernel_rfl) ?_;simp[Tryz.f63];refine ab.loop l.length (λk s=>∃env,s=⟨env,σ,[],.no⟩/\env 0=ints l/\env 1=int v/\env 7=int l.length/\env 8=int k/\jx 0 l v=jx k (l.drop k) v) ⟨_,rfl,by simp⟩ ?_;rintro n k _ o ⟨env,rfl,e,f,g,d,a⟩ i;refine rn ?_;simp[g,d];refine aG.intro (λb=>?_) (λb=>?_)<;>(try simp[-Int.not_lt,-Int.not_le,-Nat.not_lt,-Nat.not_le]at b)<;>(try simp[e,f,d,b])
 . rw[Ai l v k b]at a
   refine aG.intro (λc=>?_) (λc=>?_)<;>(try simp[-Int.not_lt,-Int.not_le,-Nat.not_lt,-Nat.not_le]at c)<;>(try simp[c]at a)<;>(try simp[d,c])<;>(try exact .done a)
   . subst c
     unfold qN at h;rw[a]at h;exact .done h
   . exact⟨by omega,i _ b ⟨_,rfl,by simp[e],by simp[f],by simp[g],by simp,by grind⟩⟩
 . have:k=l.length:=by omega
   subst this;unfold qN at h;rw[a]at h;simp[jx]at h;exact .done h
theorem mO{l:acp}{v:Int}(a:l.length<1152921504606846976)(h:KF (.val (bool (decide (v∈l)))) σ):aA prog m 66 [ints l,int v] σ KF:=by
 refine fs [] 2 Tryz.func66 rfl rfl (by rfl) (by kernel_rfl) ?_;simp[Tryz.f66];refine cf Tryz.func63 rfl (LI a ?_);refine rn ?_;simp;rw[<-decide_eq_decide.2 (lT l v)]at h;exact .done h
theorem ta{l:acp}{v:Int}(i:l.length<1152921504606846976)(h:KF (.val (int (qN l v))) σ):aA prog m 24 [ints l,int v] σ KF:=by
 refine fs [] 2 Tryz.func24 rfl rfl (by rfl) (by kernel_rfl) ?_;simp[Tryz.f24];refine ab.loop l.length (λk s=>∃env,s=⟨env,σ,[],.no⟩/\env 0=ints l/\env 1=int v/\env 5=int k/\jx 0 l v=jx k (l.drop k) v) ⟨_,rfl,by simp⟩ ?_;rintro j k _ n ⟨env,rfl,d,f,e,a⟩ g;refine rn ?_;simp[d,e];refine aG.intro (λb=>?_) (λb=>?_)<;>(try simp[-Int.not_lt,-Int.not_le,-Nat.not_lt,-Nat.not_le]at b)<;>(try simp[d,f,e,b])
 . rw[Ai l v k b]at a
   refine aG.intro (λc=>?_) (λc=>?_)<;>(try simp[-Int.not_lt,-Int.not_le,-Nat.not_lt,-Nat.not_le]at c)<;>(try simp[c]at a)<;>(try simp[e,c])<;>(try exact .done a)
   . subst c
     unfold qN at h;rw[a]at h;exact .done h
   . exact⟨by omega,g _ b ⟨_,rfl,by simp[d],by simp[f],by simp,by grind⟩⟩
 . have:k=l.length:=by omega
   subst this;unfold qN at h;rw[a]at h;simp[jx]at h;exact .done h
theorem mP{a b:acp}(r:a.length<1152921504606846976)(hb:b.length<1152921504606846976)(h:KF (.val (bool (decide (a=b)))) σ):aA prog m 15 [ints a,ints b] σ KF:=by
 refine fs V9 2 Tryz.func15 rfl rfl (by rfl) (by kernel_rfl) ?_;simp[Tryz.f15];refine ab.loop a.length (λk s=>∃env,s=⟨env,σ,[],.no⟩/\env 0=ints a/\env 1=ints b/\env 5=int k/\k<=b.length/\a.take k=b.take k) ⟨_,rfl,by simp⟩ ?_;rintro t k _ u ⟨env,rfl,d,j,f,o,n⟩ p;refine rn ?_;simp[d,f];refine uX.intro (λc=>?_) (λc=>?_)<;>(try simp[-Int.not_lt,-Int.not_le,-Nat.not_lt,-Nat.not_le]at c)<;>(try simp[d,j,f,c])
 . refine aG.intro (λg=>?_) (λg=>?_)<;>(try simp[-Int.not_lt,-Int.not_le,-Nat.not_lt,-Nat.not_le]at g)<;>(try simp[d,j,f,g,c])
   . refine rn ?_
     simp;refine aG.intro (λi=>?_) (λi=>?_)<;>(try simp[-Int.not_lt,-Int.not_le,-Nat.not_lt,-Nat.not_le]at i)<;>(try simp[f,i])
     . have:a≠b:=λe=>by simp_all
       simp[this]at h;exact .done h
     . refine⟨by omega,p _ c ⟨_,rfl,by simp[d],by simp[j],by simp,by omega,BJ c g n i⟩⟩
   . have:a≠b:=λe=>by simp_all
     have l:((a.length:Int)==b.length)=false:=by grind
     rw[l];exact .done (by simp_all)
 . have:k=a.length:=by omega
   subst this;rw[ZG]at n;by_cases e:a.length=b.length
   . have:a=b:=by grind
     exact .done (by grind)
   . have:a≠b:=λq=>e (by rw[q])
     have l:((a.length:Int)==b.length)=false:=by grind
     rw[l];exact .done (by grind)
theorem vn{l:acp}(b:l.length<=1000000000)(h:∀a σ',cq σ σ' a 1 (l.map int)->KF (.val a) σ'):aA prog m 50 [ints l] σ KF:=by
 refine fs [] 1 Tryz.func50 rfl rfl (by rfl) (by kernel_rfl) ?_;simp[Tryz.f50];refine jj lay rfl rfl rfl dh rfl dh rfl qM (by decide) (by simp;omega) (σ0:=σ) (es:=[]) (xs:=l.map int) (.empty σ 1) (.inl (.inr ⟨_,rfl⟩)) (by simp) λc σ' d=>?_
 refine rn ?_;simp;exact .done (h _ _ (by simp_all))
theorem Dy{n:Int}(h:KF (.val (bool false)) σ):aA prog m 197 [int n] σ KF:=by
 refine fs [] 1 Tryz.func197 rfl rfl (by rfl) (by kernel_rfl) ?_;simp[Tryz.f197];exact .done h
def BL(x y:Int):Int:=if x<y then -1 else if y<x then 1 else 0
theorem Fv{x y:Int}(h:KF (.val (int (BL x y))) σ):aA prog m 176 [int x,int y] σ KF:=by
 unfold BL at h;refine fs [] 2 Tryz.func176 rfl rfl (by rfl) (by kernel_rfl) ?_;simp[Tryz.f176];refine cf Tryz.func197 rfl (Dy ?_);refine rn ?_;simp;refine cf Tryz.func197 rfl (Dy ?_);refine rn ?_;simp;refine aG.intro (λa=>?_) (λa=>?_)<;>(try simp[-Int.not_lt,-Int.not_le,-Nat.not_lt,-Nat.not_le]at a)<;>(try simp[a]at h)<;>(try simp[a])<;>(try exact .done h);refine aG.intro (λb=>?_) (λb=>?_)<;>(try simp[-Int.not_lt,-Int.not_le,-Nat.not_lt,-Nat.not_le]at b)<;>(try simp[b]at h)<;>(try simp[b])<;>(try exact .done h)
theorem zf{e:mN}{places:Int}(w:0<=places/\places<1152921504606846976)(x:e.marks.length<1152921504606846976)(h:KF (.val (int (cM places e))) σ):aA prog m 156 [br e,int places] σ KF:=by
 unfold cM at h;refine fs [] 2 Tryz.func156 rfl rfl (by rfl) (by kernel_rfl) ?_;simp[Tryz.f156];refine cf Tryz.func155 rfl (eC ?_);refine rn ?_;simp;refine aG.intro (λj=>?_) (λj=>?_)<;>(try simp[-Int.not_lt,-Int.not_le,-Nat.not_lt,-Nat.not_le]at j)<;>(try simp[j]at h)<;>(try simp[j])<;>(try exact .done h);refine⟨by omega,?_⟩;refine cf Tryz.func155 rfl (eC ?_);refine rn ?_;simp;refine aG.intro (λl=>?_) (λl=>?_)<;>(try simp[-Int.not_lt,-Int.not_le,-Nat.not_lt,-Nat.not_le]at l)<;>(try simp[l]at h)<;>(try simp[l])<;>(try exact .done h);refine cf Tryz.func155 rfl (eC ?_);refine rn ?_;simp;refine aG.intro (λn=>?_) (λn=>?_)<;>(try simp[-Int.not_lt,-Int.not_le,-Nat.not_lt,-Nat.not_le]at n)<;>(try simp[n]at h)<;>(try simp[n])<;>(try exact .done h)
 refine ab.loop e.marks.length (λk s=>∃env,s=⟨env,σ,[],.no⟩/\env 2=.cp (br e) 0/\env 22=ints e.marks/\env 23=int e.marks.length/\env 24=int k/\sZ none e.marks=sZ (if k=0 then none else e.marks[k-1]?) (e.marks.drop k)) ⟨_,rfl,by simp⟩ ?_;rintro y k _ z ⟨env,rfl,o,f,g,b,a⟩ r;refine rn ?_;simp[g,b];refine aG.intro (λi=>?_) (λi=>?_)<;>(try simp[-Int.not_lt,-Int.not_le,-Nat.not_lt,-Nat.not_le]at i)<;>(try simp[o,f,b,i])
 . rw [Pd _ k i]at a
   refine cf Tryz.func155 rfl (eC ?_);refine rn ?_;simp;refine aG.intro (λc=>?_) (λc=>?_)<;>(try simp[-Int.not_lt,-Int.not_le,-Nat.not_lt,-Nat.not_le]at c)<;>(try simp[c]at a)<;>(try simp[c])<;>(try exact .done a)
   . refine uX.intro (λd=>?_) (λd=>?_)<;>(try simp[-Int.not_lt,-Int.not_le,-Nat.not_lt,-Nat.not_le]at d)<;>(try simp[d]at a)<;>(try simp[o,b,d])<;>(try exact .done a)
     . have t:(k:Int)-1=((k-1:Nat):Int):=by omega
       have q:k-1<e.marks.length:=by omega
       have u:¬k=0:=by omega
       simp[t,q];repeat refine⟨by omega,?_⟩
       try simp[q,u,Ha]at a
       refine aG.intro (λp=>?_) (λp=>?_)<;>(try simp[-Int.not_lt,-Int.not_le,-Nat.not_lt,-Nat.not_le]at p)<;>(try simp[p]at a)<;>(try simp[b,p])<;>(try exact .done a)
       . simp[a]at h
         exact .done h
       . refine⟨by omega,r _ i ⟨_,rfl,by simp[o],by simp[f],by simp[g],by simp,?_⟩⟩
         grind
     . have v:k=0:=by omega
       subst v;simp[Ha]at a
       simp_all
   . simp[a]at h
     exact .done h
 . have:k=e.marks.length:=by omega
   subst this;simp[sZ]at a;simp[a]at h;refine cf Tryz.func155 rfl (eC ?_);refine rn ?_;simp;refine aG.intro (λc=>?_) (λc=>?_)<;>(try simp[-Int.not_lt,-Int.not_le,-Nat.not_lt,-Nat.not_le]at c)<;>(try simp[c]at h)<;>(try simp[o,c])<;>(try exact .done h);refine cf Tryz.func155 rfl (eC ?_);refine rn ?_;simp;refine aG.intro (λd=>?_) (λd=>?_)<;>(try simp[-Int.not_lt,-Int.not_le,-Nat.not_lt,-Nat.not_le]at d)<;>(try simp[d]at h)<;>(try simp[d])<;>(try exact .done h)
theorem kS{n:Nat}:∀{r:abG},ib n r=0->∀l∈r,l.length=n/\∀x∈l,bD x 0 9=true
 |[],_,l,b=>by simp at b
 | a :: r,h,l,b=>by
   unfold ib at h;split at h
   . next c=>
     rcases List.mem_cons.1 b with rfl|b
     . unfold lS at c
       grind
     . exact kS h l b
   omega
theorem nK{r:abG}{i j:Nat}(hi:i<r.length)(hj:j<r[i].length):rd r i j=r[i][j]:=by simp[rd,zA,hi,hj]
theorem dC{a lo hi:Int}(h:bD a lo hi=true):lo<=a/\a<=hi:=by simpa[bD]using h
theorem zg{r:abG}(hr:r.length<1152921504606846976)(hl:∀l∈r,l.length<1152921504606846976)(h:KF (.val (int (fT r))) σ):aA prog m 154 [rows r] σ KF:=by
 unfold fT at h;refine fs Uu 1 Tryz.func154 rfl rfl (by rfl) (by kernel_rfl) ?_
 simp[Tryz.f154];refine aG.intro (λV=>?_) (λV=>?_)<;>simp at V<;>simp[V]
 . rw[if_pos (show r.length<1 by omega)]at h
   exact .done h
 refine aG.intro (λW=>?_) (λW=>?_)<;>simp at W<;>simp[W]
 . have X:¬r.length<1:=by omega
   have P:3<r.length:=by omega
   rw[if_neg (show ¬r.length<1 by omega),if_pos P]at h
   exact .done h
 have X:¬r.length<1:=by omega
 have P:¬3<r.length:=by omega
 rw[if_neg X,if_neg P]at h;refine ab.loop r.length (λk s=>∃env,s=⟨env,σ,[],.no⟩/\env 0=rows r/\env 19=rows r/\env 20=int r.length/\env 21=int k/\ib r.length r=ib r.length (r.drop k)) ⟨_,rfl,by simp⟩ ?_
 rintro c0 k _ hk ⟨env,rfl,a,n,o,g,v⟩ Q
 refine rn ?_;simp[o,g];apply aG.intro<;>intro H<;>simp at H<;>simp[a,n,g,H]
 . rw [Fu _ _ k H]at v
   obtain⟨l,I⟩:∃l,l=r[k]:=⟨_,rfl⟩;simp only[<-I]at v ⊢;have av:l.length<1152921504606846976:=hl l (by rw[I];exact zD H)
   refine aG.intro (λb=>?_) (λb=>?_)<;>simp at b<;>simp[b]
   . have w:l.length≠r.length:=λe=>b (by rw[e])
     simp[lS,w]at v;simp[v]at h;exact .done h
   have w:l.length=r.length:=by omega
   refine ab.loop l.length (λj s=>∃env,s=⟨env,σ,[],.no⟩/\env 0=rows r/\env 19=rows r/\env 20=int r.length/\env 21=int k/\env 30=ints l/\env 31=int l.length/\env 32=int j/\(l.take j).all (bD · 0 9)=true) ⟨_,rfl,by simp[a,n,o,g,w]⟩ ?_
   clear a n o g
   rintro c1 j _ R ⟨env,rfl,a,n,o,g,J,K,B,x⟩ C
   refine rn ?_;simp[K,B];apply aG.intro<;>intro p<;>simp at p<;>simp[g,J,B,p]
   . refine cf Tryz.func155 rfl (eC ?_)
     refine rn ?_;simp;refine aG.intro (λu=>?_) (λu=>?_)<;>(try simp at u)<;>(try simp[B,u])
     . refine⟨by omega,C _ p ⟨_,rfl,by simp[a],by simp[n],by simp[o],by simp[g],by simp[J],by simp[K],by simp,?_⟩⟩
       rw[zs p,List.all_append,x];simp[u]
     . have:l.all (bD · 0 9)=false:=by
        rw[List.all_eq_false];exact⟨_,zD p,by simp[u]⟩
       simp[lS,w,this]at v;simp[v]at h;exact .done h
   . have:j=l.length:=by omega
     subst this;rw[ZG]at x;have Y:lS r.length l=0:=by unfold lS;rw[if_neg (by simp[w]),if_pos x]
     rw[if_pos Y]at v;refine⟨by omega,Q _ H ⟨_,rfl,?_,?_,?_,?_,v⟩⟩<;>simp[a,n,o]
 have:k=r.length:=by omega
 subst this;simp[ib]at v;rw[if_neg (by omega)]at h
 clear Q;have al:∀(i:Nat) (F:i<r.length),r[i].length=r.length:=λi F=>(kS v _ (zD F)).1
 have L:∀(i:Nat) (F:i<r.length) (j:Nat) (R:j<r[i].length),0<=r[i][j]/\r[i][j]<=9:=λi F j R=>dC ((kS v _ (zD F)).2 _ (zD R))
 refine ab.loop r.length (λi s=>∃env,s=⟨env,σ,[],.no⟩/\env 0=rows r/\env 41=rows r/\env 42=int r.length/\env 43=int i/\∀i'<i,∀j<r.length,dP r i' j=false) ⟨_,rfl,by simp[a]⟩ ?_
 clear a n o g
 rintro c1 i _ F ⟨env,rfl,a,f,d,c,Z⟩ Q
 refine rn ?_;simp[d,c];apply aG.intro<;>intro b<;>simp at b<;>simp[a,c,b]
 . refine ab.loop r.length (λj s=>∃env,s=⟨env,σ,[],.no⟩/\env 0=rows r/\env 41=rows r/\env 42=int r.length/\env 43=int i/\env 8=int i/\env 46=rows r/\env 47=int r.length/\env 48=int j/\∀D<j,dP r i D=false) ⟨_,rfl,by simp[a,f,d,c]⟩ ?_
   clear a f d c
   rintro c2 j _ R ⟨env,rfl,a,f,d,c,z,y,t,q,ax⟩ C
   refine rn ?_;simp[t,q];apply aG.intro<;>intro p<;>simp at p<;>simp[a,c,z,q,p]
   . have q1 : i<r[i].length:=by grind
     have G:j<r[i].length:=by grind
     have q3:i<r[j].length:=by grind
     simp[z,b,q1];refine NZ.intro (λu=>?_) (λu=>?_)<;>(try simp at u)<;>(try simp[a,z,u,b,p,G,q3])
     . refine rn ?_
       simp;apply aG.intro<;>intro S<;>simp at S<;>simp[a,S]
       ·
        have hb:dP r i j=true:=by unfold dP;rw[nK b G,nK p q3];simp[S]
        have:((List.range r.length).any λi=>(List.range r.length).any λj=>dP r i j)=true:=List.any_eq_true.2 ⟨i,List.mem_range.2 b,List.any_eq_true.2 ⟨j,List.mem_range.2 p,hb⟩⟩
        rw[if_pos this]at h;exact .done h
       . refine ab.loop r.length (λk s=>∃env,s=⟨env,σ,[],.no⟩/\env 0=rows r/\env 41=rows r/\env 42=int r.length/\env 43=int i/\env 8=int i/\env 46=rows r/\env 47=int r.length/\env 48=int j/\env 9=int j/\env 76=rows r/\env 77=int r.length/\env 78=int k/\∀M<k,¬rd r i j>rd r i M+rd r M j) ⟨_,rfl,by simp[a,f,d,c,z,y,t,q]⟩ ?_
         clear a f d c z y t q
         rintro c3 k _ hk ⟨env,rfl,a,f,d,c,z,y,t,q,h9,a7,N,E,a8⟩ a9
         refine rn ?_;simp[N,E];apply aG.intro<;>intro A<;>simp at A<;>simp[a,z,q,E,A]
         . have T:k<r[i].length:=by grind
           have U:j<r[k].length:=by grind
           have b1:=L i b k T;have b2:=L k A j U;have f1:-9223372036854775808<=r[i][k]+r[k][j]:=by omega
           have f2:r[i][k]+r[k][j]<=9223372036854775807:=by omega
           simp[a,z,h9,b,A,G,T,U,f1,f2];refine rn ?_;simp;apply aG.intro<;>intro O<;>simp at O<;>simp[E,O]
           . have hb:dP r i j=true:=by
              unfold dP;have:((List.range r.length).any λk=>decide (rd r i j>rd r i k+rd r k j))=true:=List.any_eq_true.2 ⟨k,List.mem_range.2 A,by rw[nK b G,nK b T,nK A U];grind⟩
              grind
             have:((List.range r.length).any λi=>(List.range r.length).any λj=>dP r i j)=true:=List.any_eq_true.2 ⟨i,List.mem_range.2 b,List.any_eq_true.2 ⟨j,List.mem_range.2 p,hb⟩⟩
             rw[if_pos this]at h;exact .done h
           . refine⟨by omega,a9 _ A ⟨_,rfl,by simp[a],by simp[f],by simp[d],by simp[c],by simp[z],by simp[y],by simp[t],by simp[q],by simp[h9],by simp[a7],by simp[N],by simp,λM ay=>?_⟩⟩
             by_cases e:M=k
             . subst e
               rw[nK b G,nK b T,nK A U];omega
             . exact a8 M (by omega)
         . have:k=r.length:=by omega
           subst this;refine⟨by omega,C _ p ⟨_,rfl,by simp[a],by simp[f],by simp[d],by simp[c],by simp[z],by simp[y],by simp[t],by simp,λD ad=>?_⟩⟩
           by_cases e:D=j
           . subst e
             unfold dP
             have X:((List.range r.length).any λk=>decide (rd r i D>rd r i k+rd r k D))=false:=by
              rw[aaC]
              grind
             have P:rd r i i=0:=by rw[nK b q1];exact u
             have e3:rd r i D=rd r D i:=by rw[nK b G,nK p q3];exact S
             grind
           grind
     . have e:(r[i][i] !=0)=true:=by simp[u]
       simp[e];refine rn ?_;simp
       have hb:dP r i j=true:=by unfold dP;rw[nK b q1];simp[u]
       have:((List.range r.length).any λi=>(List.range r.length).any λj=>dP r i j)=true:=List.any_eq_true.2 ⟨i,List.mem_range.2 b,List.any_eq_true.2 ⟨j,List.mem_range.2 p,hb⟩⟩
       rw[if_pos this]at h;exact .done h
   . have:j=r.length:=by omega
     subst this;refine⟨by omega,Q _ b ⟨_,rfl,by simp[a],by simp[f],by simp[d],by simp,λi' aC j ad=>?_⟩⟩
     grind
 . have:i=r.length:=by omega
   subst this
   have:((List.range r.length).any λi=>(List.range r.length).any λj=>dP r i j)=false:=by grind
   rw[this]at h;exact .done (by grind)
theorem Dz{f:Fr}(g:f.Fits)(h:KF (.val (int (check f))) σ):aA prog m 112 [dB f] σ KF:=by
 unfold check at h;have z:=g.roads;have x:=g.aD;refine fs [] 1 Tryz.func112 rfl rfl (by rfl) (by kernel_rfl) ?_;simp[Tryz.f112];refine cf Tryz.func154 rfl (zg g.roads g.row ?_);refine rn ?_;simp;refine aG.intro (λn=>?_) (λn=>?_)<;>(try simp at n)<;>(try simp[n]at h)<;>(try simp[n])<;>(try exact .done h);refine cf Tryz.func155 rfl (eC ?_);refine rn ?_;simp;refine uX.intro (λo=>?_) (λo=>?_)<;>(try simp at o)<;>(try simp[o]at h)<;>(try simp[o])<;>(try exact .done h);refine cf Tryz.func155 rfl (eC ?_);refine rn ?_;simp;refine aG.intro (λp=>?_) (λp=>?_)<;>(try simp at p)<;>(try simp[p]at h)<;>(try simp[p])<;>(try exact .done h);refine aG.intro (λq=>?_) (λq=>?_)<;>(try simp[-Int.not_lt,-Int.not_le]at q)<;>(try simp[q]at h)<;>(try simp[q])<;>(try exact .done h)
 refine cf Tryz.func155 rfl (eC ?_);refine rn ?_;simp;refine uX.intro (λr=>?_) (λr=>?_)<;>(try simp at r)<;>(try simp[r]at h)<;>(try simp[r])<;>(try exact .done h);refine cf Tryz.func155 rfl (eC ?_);refine rn ?_;simp;refine aG.intro (λt=>?_) (λt=>?_)<;>(try simp at t)<;>(try simp[t]at h)<;>(try simp[t])<;>(try exact .done h);refine aG.intro (λu=>?_) (λu=>?_)<;>(try simp[-Int.not_lt,-Int.not_le]at u)<;>(try simp[u]at h)<;>(try simp[u])<;>(try exact .done h);refine ab.loop f.aD.length (λk s=>∃env a,s=⟨env,a,[],.no⟩/\σ.Le a/\env 1=.cp (dB f) 0/\env 47=jw f.aD/\env 48=int f.aD.length/\env 49=int k/\fS (cM f.roads.length) f.aD=fS (cM f.roads.length) (f.aD.drop k)) ⟨_,_,rfl,aa.le_refl _,by simp⟩ ?_;rintro A k _ B ⟨env,a,rfl,c,w,i,j,d,e⟩ y;refine rn ?_;simp[j,d];apply aG.intro<;>intro l<;>simp at l<;>simp[i,d,l]
 . rw[Dw _ _ k l]at e
   refine bR.intro λb hb=>?_
   simp[w];refine cf Tryz.func156 rfl (zf ⟨by omega,by omega⟩ (g.marks _ (zD l)) ?_);refine rn ?_;simp;refine aG.intro (λv=>?_) (λv=>?_)<;>(try simp at v)<;>(try simp[v]at e)<;>(try simp[d,v])<;>(try exact .done e)
   . rw[e]at h
     exact .less (aa.rH c hb) (.done h)
   . refine⟨by omega,y _ l ⟨_,_,rfl,aa.rH c hb,?_,?_,?_,?_,e⟩⟩<;>simp[w,i,j]
 . have:k=f.aD.length:=by omega
   subst this;simp[fS]at e;rw[e]at h;exact .less c (.done h)
structure vY(σ:aa)(b mb:Nat)(σ':aa):Prop where
 hb:σ b=none
 Ce:σ mb=none
 ne:b≠mb
 eq:σ'=(σ.set mb (mapA .u8 [])).set b (.part (bH 6))
def LJ(f:Fr)(σ:aa):abT:=λr a=>∃b mb,r=.val (.ref b 0)/\σ b=none/\σ mb=none/\b≠mb/\a=(σ.set mb (mapA .u8 [])).set b (.cells [jw f.aD,rows f.roads,int f.aR,int f.eS,int f.cQ,int f.aX,.lit (.int .i32 0),.lit (.int .u32 0),.map mb])
theorem Fw{f:Fr}(h:∀b mb σ',vY σ b mb σ'->KF (.val (lR b mb f 0)) σ'):aA prog m 157 [dB f] σ KF:=by
 refine aA.share (KF0:=LJ f σ) ?_ ?_
 . refine aA.start lay [6] [] 1 Tryz.func157 rfl rfl (by rfl) (by kernel_rfl) ?_
   simp[Tryz.f157];refine uZ (HG .u8) rfl λmb Ce=>?_
   refine ab.run lay [6] ?_;simp[aJ];refine bR.intro λb hb=>?_
   obtain⟨d,e,hb⟩:=aa.aN hb;simp;exact .done ⟨b,mb,rfl,hb,Ce,d,rfl⟩
 . rintro r σ' ⟨b,mb,rfl,hb,Ce,a,rfl⟩
   refine .inr ⟨b,_,[6,7],bH 6,rfl,aa.ak _ _ _,λi v c=>?_,λi=>?_,?_⟩
   . unfold bH at c
     split at c
     . simp_all
     simp_all
   . unfold bH
     grind
   . exact h b mb _ ⟨hb,Ce,a,by simp⟩
def ig(f:Fr)(l:acp):Int:=if check f≠0 then check f else if l.all (bD · 0 (f.aD.length-1))then 0 else 3
theorem Hb{f:Fr}{l:acp}(o:f.Fits)(v:l.length<1152921504606846976)(h:ig f l≠0->KF (.val (.cB [.lit (.pointer none),int (ig f l)])) σ)
 (q:ig f l=0->∀b mb σ',vY σ b mb σ'->KF (.val (.cB [lR b mb f 0,int 0])) σ'):aA prog m 113 [dB f,ints l] σ KF:=by
 have r:=o.aD;refine fs [] 2 Tryz.func113 rfl rfl (by rfl) (by kernel_rfl) ?_
 simp[Tryz.f113];refine cf Tryz.func112 rfl (Dz o ?_);refine rn ?_;simp;refine aG.intro (λi=>?_) (λi=>?_)<;>simp at i<;>simp[i]
 . have:ig f l=check f:=by unfold ig;omega
   rw[this]at h;exact .done (h i)
 refine ab.loop l.length (λk s=>∃env,s=⟨env,σ,[],.no⟩/\env 2=.cp (dB f) 0/\env 14=ints l/\env 15=int l.length/\env 16=int k/\(l.take k).all (bD · 0 (f.aD.length-1))=true) ⟨_,rfl,by simp⟩ ?_
 rintro w k _ x ⟨env,rfl,p,d,g,c,a⟩ t
 refine rn ?_;simp[g,c];apply aG.intro<;>intro j<;>simp at j<;>simp[p,d,c,j]
 . refine⟨by omega,?_⟩
   refine cf Tryz.func155 rfl (eC ?_);refine rn ?_;simp;refine aG.intro (λn=>?_) (λn=>?_)<;>(try simp at n)<;>(try simp[c,n])
   . refine⟨by omega,t _ j ⟨_,rfl,by simp[p],by simp[d],by simp[g],by simp,?_⟩⟩
     rw[zs j,List.all_append,a];simp[n]
   . have e:l.all (bD · 0 (f.aD.length-1))=false:=by
      grind
     have:ig f l=3:=by unfold ig;simp_all
     rw[this]at h;exact .done (h (by simp))
 . have:k=l.length:=by omega
   subst this;rw[ZG]at a;have:ig f l=0:=by unfold ig;simp_all
   refine cf Tryz.func157 rfl (Fw λb mb σ' u=>?_)
   refine rn ?_;simp;exact .done (q this b mb σ' u)
theorem UJ{a:AV}(h:KF (.val (bool false)) σ):aA prog m 111 [.lit .nilIface,a] σ KF:=by
 refine fs [] 2 Tryz.func111 rfl rfl (by rfl) (by kernel_rfl) ?_;simp[Tryz.f111];refine gJ lay rfl G5 rfl (.inl ⟨rfl,rfl⟩) (.inl ⟨rfl,rfl⟩) ?_;refine rn ?_;simp;exact .done h

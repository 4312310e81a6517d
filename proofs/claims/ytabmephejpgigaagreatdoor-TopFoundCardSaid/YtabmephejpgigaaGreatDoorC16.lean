import Derived.Test.YtabmephejpgigaaGreatDoorProg
import Derived.Test.YtabmephejpgigaaGreatDoorC15
set_option linter.all false
set_option maxHeartbeats 1000000
set_option maxRecDepth 100000
namespace Go.Proofs.YtabmephejpgigaaGreatDoor
open Go.Proofs.Tryz (prog)
section
open Go.cr
@[simp] def abo:TI:=⟨.func,1,8,.nilFunc,[]⟩
@[simp] def abt:TI:=⟨.int .i64,1,8,(.int .i64 0),[]⟩
@[simp] def abE:TI:=⟨.bool,1,1,(.bool false),[]⟩
@[simp] def abr:TI:=⟨.int .u8,1,1,(.int .u8 0),[]⟩
@[simp] def aby:TI:=⟨.struct,4,24,(.agg #[(.int .i64 0),(.int .i64 0),(.bool false),(.int .u8 0)]),[(0,1,2),(1,1,3),(2,1,4),(3,1,6)]⟩
@[simp] def abv:TI:=⟨.string,1,16,(.string ByteArray.empty),[]⟩
@[simp] def abu:TI:=⟨.int .u64,1,8,(.int .u64 0),[]⟩
@[simp] def abz:TI:=⟨.struct,2,24,(.agg #[(.string ByteArray.empty),(.int .u64 0)]),[(0,1,9),(1,1,12)]⟩
@[simp] def abF:TI:=⟨.pointer 255,1,8,(.pointer none),[]⟩
@[simp] def abG:TI:=⟨.pointer 258,1,8,(.pointer none),[]⟩
@[simp] def abH:TI:=⟨.pointer 266,1,8,(.pointer none),[]⟩
@[simp] def abw:TI:=⟨.struct,1,8,(.agg #[(.pointer none)]),[(0,1,17)]⟩
@[simp] def abq:TI:=⟨.iface,1,16,.nilIface,[]⟩
@[simp] def abx:TI:=⟨.int .i32,1,4,(.int .i32 0),[]⟩
@[simp] def abI:TI:=⟨.slice 3,1,24,(.slice none 0 0),[]⟩
@[simp] def abJ:TI:=⟨.slice 58,1,24,(.slice none 0 0),[]⟩
@[simp] def abK:TI:=⟨.slice 22,1,24,(.slice none 0 0),[]⟩
@[simp] def abA:TI:=⟨.struct,2,16,(.agg #[(.int .i64 0),(.int .i64 0)]),[(0,1,3),(1,1,3)]⟩
@[simp] def abB:TI:=⟨.struct,6,80,(.agg #[(.slice none 0 0),(.slice none 0 0),(.int .i64 0),(.int .i64 0),(.int .i64 0),(.int .i64 0)]),[(0,1,23),(1,1,24),(2,2,26),(4,1,3),(5,1,3)]⟩
@[simp] def abL:TI:=⟨.slice 55,1,24,(.slice none 0 0),[]⟩
@[simp] def abM:TI:=⟨.slice 60,1,24,(.slice none 0 0),[]⟩
@[simp] def abC:TI:=⟨.struct,9,136,(.agg #[(.slice none 0 0),(.slice none 0 0),(.int .i64 0),(.int .i64 0),(.int .i64 0),(.int .i64 0),(.int .i64 0),(.slice none 0 0),(.slice none 0 0)]),[(0,6,28),(6,1,3),(7,1,29),(8,1,30)]⟩
@[simp] def abN:TI:=⟨.pointer 63,1,8,(.pointer none),[]⟩
@[simp] def abO:TI:=⟨.struct,5,40,(.agg #[(.int .i64 0),(.int .i64 0),(.int .i64 0),(.int .i64 0),(.int .i64 0)]),[(0,1,3),(1,1,3),(2,1,3),(3,2,26)]⟩
@[simp] def abP:TI:=⟨.struct,6,64,(.agg #[(.int .i64 0),(.int .i64 0),(.int .i64 0),(.slice none 0 0),(.int .i64 0),(.int .i64 0)]),[(0,1,3),(1,1,3),(2,1,3),(3,1,22),(4,1,3),(5,1,3)]⟩
@[simp] def abQ:TI:=⟨.struct,8,80,(.agg #[(.int .i64 0),(.int .i64 0),(.int .i64 0),(.slice none 0 0),(.int .i64 0),(.int .i64 0),(.int .i64 0),(.int .i64 0)]),[(0,6,58),(6,1,3),(7,1,3)]⟩
@[simp] def abR:TI:=⟨.struct,3,40,(.agg #[(.slice none 0 0),(.int .i64 0),(.int .u64 0)]),[(0,1,22),(1,1,3),(2,1,61)]⟩
@[simp] def abS:TI:=⟨.pointer 119,1,8,(.pointer none),[]⟩
@[simp] def abp:TI:=⟨.struct,0,0,(.agg #[]),[]⟩
@[simp] def abT:TI:=⟨.pointer 162,1,8,(.pointer none),[]⟩
@[simp] def abU:TI:=⟨.array 2 3,2,16,(.agg #[(.int .i64 0),(.int .i64 0)]),[]⟩
@[simp] def abV:TI:=⟨.array 3 69,3,48,(.agg #[.nilIface,.nilIface,.nilIface]),[]⟩
@[simp] def abW:TI:=⟨.int .u32,1,4,(.int .u32 0),[]⟩
@[simp] def abX:TI:=⟨.struct,1,4,(.agg #[(.int .u32 0)]),[(0,0,89),(0,1,90)]⟩
@[simp] def abY:TI:=⟨.struct,2,8,(.agg #[(.int .i32 0),(.int .u32 0)]),[(0,1,21),(1,1,90)]⟩
@[simp] def abZ:TI:=⟨.struct,2,8,(.agg #[(.int .i32 0),(.int .u32 0)]),[(0,0,88),(0,2,94)]⟩
@[simp] def aca:TI:=⟨.struct,3,12,(.agg #[(.int .u32 0),(.int .i32 0),(.int .u32 0)]),[(0,0,88),(0,1,92),(1,2,96)]⟩
@[simp] def acb:TI:=⟨.array 6 87,18,288,(.agg #[.nilIface,.nilIface,.nilIface,.nilIface,.nilIface,.nilIface,.nilIface,.nilIface,.nilIface,.nilIface,.nilIface,.nilIface,.nilIface,.nilIface,.nilIface,.nilIface,.nilIface,.nilIface]),[]⟩
@[simp] def acd:TI:=⟨.struct,21,304,(.agg #[(.int .u32 0),(.int .i32 0),(.int .u32 0),.nilIface,.nilIface,.nilIface,.nilIface,.nilIface,.nilIface,.nilIface,.nilIface,.nilIface,.nilIface,.nilIface,.nilIface,.nilIface,.nilIface,.nilIface,.nilIface,.nilIface,.nilIface]),[(0,3,98),(3,18,99)]⟩
@[simp] def ace:TI:=⟨.pointer 101,1,8,(.pointer none),[]⟩
@[simp] def abD:TI:=⟨.struct,2,2,(.agg #[(.int .u8 0),(.int .u8 0)]),[(0,1,104),(1,1,104)]⟩
@[simp] def acf:TI:=⟨.struct,1,8,(.agg #[.nilFunc]),[(0,1,51)]⟩
@[simp] def acg:TI:=⟨.array 3 3,3,24,(.agg #[(.int .i64 0),(.int .i64 0),(.int .i64 0)]),[]⟩
@[simp] def ach:TI:=⟨.map 106 102,1,8,(.map none),[]⟩
@[simp] def aci:TI:=⟨.struct,15,176,(.agg #[(.slice none 0 0),(.slice none 0 0),(.int .i64 0),(.int .i64 0),(.int .i64 0),(.int .i64 0),(.int .i64 0),(.slice none 0 0),(.slice none 0 0),(.int .i32 0),(.int .u32 0),(.int .i64 0),(.int .i64 0),(.int .i64 0),(.map none)]),[(0,9,32),(9,2,96),(11,3,116),(14,1,117)]⟩
@[simp] def acj:TI:=⟨.struct,1,8,(.agg #[(.int .u64 0)]),[(0,0,89),(0,0,134),(0,1,61)]⟩
@[simp] def ack:TI:=⟨.struct,2,16,(.agg #[(.int .u64 0),(.int .u32 0)]),[(0,0,88),(0,1,136),(1,1,90)]⟩
@[simp] def acm:TI:=⟨.array 4 3,4,32,(.agg #[(.int .i64 0),(.int .i64 0),(.int .i64 0),(.int .i64 0)]),[]⟩
@[simp] def acn:TI:=⟨.array 3 104,3,3,(.agg #[(.int .u8 0),(.int .u8 0),(.int .u8 0)]),[]⟩
@[simp] def aco:TI:=⟨.map 199 4,1,8,(.map none),[]⟩
@[simp] def acp:TI:=⟨.struct,9,96,(.agg #[(.slice none 0 0),(.slice none 0 0),(.int .i64 0),(.int .i64 0),(.int .i64 0),(.int .i64 0),(.int .i32 0),(.int .u32 0),(.map none)]),[(0,6,28),(6,2,96),(8,1,160)]⟩
@[simp] def acr:TI:=⟨.struct,1,8,(.agg #[.nilFunc]),[(0,1,52)]⟩
@[simp] def acs:TI:=⟨.slice 122,1,24,(.slice none 0 0),[]⟩
@[simp] def acu:TI:=⟨.struct,1,8,(.agg #[(.int .i64 0)]),[(0,1,37)]⟩
@[simp] def acv:TI:=⟨.pointer 169,1,8,(.pointer none),[]⟩
@[simp] def acw:TI:=⟨.pointer 138,1,8,(.pointer none),[]⟩
@[simp] def acx:TI:=⟨.pointer 90,1,8,(.pointer none),[]⟩
@[simp] def acy:TI:=⟨.pointer 96,1,8,(.pointer none),[]⟩
@[simp] def acz:TI:=⟨.pointer 98,1,8,(.pointer none),[]⟩
@[simp] def acA:TI:=⟨.struct,1,1,(.agg #[(.int .u8 0)]),[(0,1,5)]⟩
@[simp] def acB:TI:=⟨.array 6 199,6,6,(.agg #[(.int .u8 0),(.int .u8 0),(.int .u8 0),(.int .u8 0),(.int .u8 0),(.int .u8 0)]),[]⟩
@[simp] def acC:TI:=⟨.struct,3,24,(.agg #[(.pointer none),(.pointer none),(.int .u64 0)]),[(0,1,17),(1,1,176),(2,1,206)]⟩
@[simp] def acD:TI:=⟨.chan 3,1,8,(.chan none),[]⟩
@[simp] def acE:TI:=⟨.pointer 92,1,8,(.pointer none),[]⟩
@[simp] def acF:TI:=⟨.slice 127,1,24,(.slice none 0 0),[]⟩
@[simp] def acG:TI:=⟨.struct,4,40,(.agg #[(.pointer none),(.pointer none),(.pointer none),(.string ByteArray.empty)]),[(0,1,17),(1,1,17),(2,1,17),(3,1,9)]⟩
@[simp] def acH:TI:=⟨.array 0 16,0,0,(.agg #[]),[]⟩
@[simp] def acI:TI:=⟨.struct,0,0,(.agg #[]),[(0,0,256)]⟩
@[simp] def acJ:TI:=⟨.pointer 5,1,8,(.pointer none),[]⟩
@[simp] def acK:TI:=⟨.struct,11,48,(.agg #[(.int .u64 0),(.int .u64 0),(.int .u32 0),(.int .u8 0),(.int .u8 0),(.int .u8 0),(.int .u8 0),.nilFunc,(.pointer none),(.int .i32 0),(.int .i32 0)]),[(0,1,12),(1,1,12),(2,1,90),(3,1,260),(4,1,5),(5,1,5),(6,1,211),(7,1,261),(8,1,262),(9,1,263),(10,1,264)]⟩
def Ku:List (Nat × TI):=[
 (1,abo),
 (2,abt),
 (3,abt),
 (4,abE),
 (5,abr),
 (6,abr),
 (7,aby),
 (8,aby),
 (9,abv),
 (10,abv),
 (11,abv),
 (12,abu),
 (13,abz),
 (14,abz),
 (15,abF),
 (16,abG),
 (17,abH),
 (18,abw),
 (19,abw),
 (20,abq),
 (21,abx),
 (22,abI),
 (23,abJ),
 (24,abK),
 (25,abA),
 (26,abA),
 (27,abB),
 (28,abB),
 (29,abL),
 (30,abM),
 (31,abC),
 (32,abC),
 (34,abo),
 (35,abN),
 (37,abt),
 (39,abo),
 (41,abo),
 (48,abo),
 (51,abo),
 (52,abo),
 (53,abo),
 (55,abO),
 (58,abP),
 (60,abQ),
 (61,abu),
 (63,abR),
 (64,abS),
 (69,abq),
 (70,abp),
 (71,abp),
 (73,abo),
 (74,abT),
 (85,abU),
 (87,abV),
 (88,abp),
 (89,abp),
 (90,abW),
 (92,abX),
 (94,abY),
 (96,abZ),
 (98,aca),
 (99,acb),
 (101,acd),
 (102,ace),
 (103,abo),
 (104,abr),
 (105,abD),
 (106,abD),
 (108,abp),
 (114,acf),
 (115,abo),
 (116,acg),
 (117,ach),
 (119,aci),
 (121,abq),
 (122,abq),
 (124,abu),
 (127,abq),
 (134,abp),
 (136,acj),
 (138,ack),
 (141,acm),
 (149,abp),
 (150,acn),
 (157,abp),
 (158,abp),
 (159,abp),
 (160,aco),
 (162,acp),
 (164,acr),
 (166,acs),
 (169,acu),
 (171,acv),
 (174,acw),
 (177,abt),
 (181,acx),
 (186,acy),
 (190,acz),
 (191,abp),
 (193,abq),
 (199,acA),
 (200,acB),
 (201,abo),
 (204,abo),
 (206,abu),
 (208,acC),
 (211,abr),
 (215,acD),
 (227,acE),
 (231,abw),
 (233,abq),
 (236,abq),
 (238,abq),
 (239,acF),
 (255,acG),
 (256,acH),
 (258,acI),
 (260,abr),
 (261,abo),
 (262,acJ),
 (263,abx),
 (264,abx),
 (266,acK),
 (268,abr)]
theorem Hp:(Ku.all λx=>x.2.check Tryz.prog x.1)=true:=by kernel_rfl
def AX(t:Nat):Option TI:=(Ku.find? λx=>x.1==t).map (·.2)
theorem EE(t:Nat)(i:TI)(h:AX t=some i):i.check Tryz.prog t=true:=by unfold AX at h;obtain⟨x,a,rfl⟩:=YI.1 h;have c:=List.find?_some a;have b:=YE.1 Hp x (List.mem_of_find?_eq_some a);rw[ZJ.1 c]at b;exact b
def lay:iT Tryz.prog:=⟨AX,EE,by kernel_rfl⟩
theorem rn{m:Mo}{fid n:Nat}{ro:aaX}{hold:aaV}{s:St}{K:cr.Exit->St->Prop}{todo:abb}(h:br lay m fid n ro [] hold 1000 todo s K):aa Tryz.prog m fid n ro hold todo s K:=aa.run lay [] h
theorem pg{m:Mo}{ops:aaW}{n:Nat}{Kp:aaP}{R:aaO}{p:ny}{env:Env}{σ:ab}(h:gS lay m [] ops n Kp p env σ R):aN Tryz.prog m ops n Kp p env σ R:=aN.go lay [] h
theorem cf{m:Mo}{f:FuncId}{fn:Func}{args:abj}{σ:ab}{KF:aaQ}(a:Tryz.prog.funcs[f]?=some fn)(hb:(fn.body.isSome && !(fn.name== "runtime.NumGoroutine"))=true)(h:aB Tryz.prog m f args σ KF):cX Tryz.prog m (.fn (.func f) [] []) args σ KF:=by
 simp only[za,ZZ]at hb;exact au a hb.1 hb.2 h
theorem fs{m:Mo}{f:FuncId}{fn:Func}{args:abj}{σ:ab}{KF:aaQ}{body:Code}(hold:aaV)(b:Tryz.prog.funcs[f]?=some fn)(hb:fn.body=some body)(c:(nz fn args.length&&kB hold body)=true)(h:br lay m f fn.ntmps none [] hold 1000 [.code body] ⟨dh args,σ,[],.no⟩ (QH lay m fn.results.toList (mO KF))):aB Tryz.prog m f args σ KF:=by simp only[za]at c;exact aB.start lay [] hold _ b hb rfl c.1 c.2 h
@[simp] theorem Ys:lay.tt 1=some abo:=rfl
@[simp] theorem Yt:lay.tt 2=some abt:=rfl
@[simp] theorem uI:lay.tt 3=some abt:=rfl
@[simp] theorem XC:lay.tt 4=some abE:=rfl
@[simp] theorem Wh:lay.tt 5=some abr:=rfl
@[simp] theorem Yu:lay.tt 6=some abr:=rfl
@[simp] theorem Yv:lay.tt 7=some aby:=rfl
@[simp] theorem Yw:lay.tt 8=some aby:=rfl
@[simp] theorem Yx:lay.tt 9=some abv:=rfl
@[simp] theorem XD:lay.tt 10=some abv:=rfl
@[simp] theorem XE:lay.tt 11=some abv:=rfl
@[simp] theorem XF:lay.tt 12=some abu:=rfl
@[simp] theorem XG:lay.tt 13=some abz:=rfl
@[simp] theorem XH:lay.tt 14=some abz:=rfl
@[simp] theorem XI:lay.tt 15=some abF:=rfl
@[simp] theorem XJ:lay.tt 16=some abG:=rfl
@[simp] theorem XK:lay.tt 17=some abH:=rfl
@[simp] theorem XL:lay.tt 18=some abw:=rfl
@[simp] theorem XN:lay.tt 19=some abw:=rfl
@[simp] theorem XO:lay.tt 20=some abq:=rfl
@[simp] theorem XP:lay.tt 21=some abx:=rfl
@[simp] theorem eC:lay.tt 22=some abI:=rfl
@[simp] theorem ki:lay.tt 23=some abJ:=rfl
@[simp] theorem qZ:lay.tt 24=some abK:=rfl
@[simp] theorem XQ:lay.tt 25=some abA:=rfl
@[simp] theorem XR:lay.tt 26=some abA:=rfl
@[simp] theorem XS:lay.tt 27=some abB:=rfl
@[simp] theorem XT:lay.tt 28=some abB:=rfl
@[simp] theorem Te:lay.tt 29=some abL:=rfl
@[simp] theorem Tf:lay.tt 30=some abM:=rfl
@[simp] theorem XU:lay.tt 31=some abC:=rfl
@[simp] theorem XV:lay.tt 32=some abC:=rfl
@[simp] theorem XW:lay.tt 34=some abo:=rfl
@[simp] theorem XX:lay.tt 35=some abN:=rfl
@[simp] theorem XY:lay.tt 37=some abt:=rfl
@[simp] theorem XZ:lay.tt 39=some abo:=rfl
@[simp] theorem X1:lay.tt 41=some abo:=rfl
@[simp] theorem X2:lay.tt 48=some abo:=rfl
@[simp] theorem X3:lay.tt 51=some abo:=rfl
@[simp] theorem X4:lay.tt 52=some abo:=rfl
@[simp] theorem X5:lay.tt 53=some abo:=rfl
@[simp] theorem Va:lay.tt 55=some abO:=rfl
@[simp] theorem uZ:lay.tt 58=some abP:=rfl
@[simp] theorem Vb:lay.tt 60=some abQ:=rfl
@[simp] theorem X6:lay.tt 61=some abu:=rfl
@[simp] theorem X7:lay.tt 63=some abR:=rfl
@[simp] theorem X8:lay.tt 64=some abS:=rfl
@[simp] theorem Tg:lay.tt 69=some abq:=rfl
@[simp] theorem X9:lay.tt 70=some abp:=rfl
@[simp] theorem Ya:lay.tt 71=some abp:=rfl
@[simp] theorem Yb:lay.tt 73=some abo:=rfl
@[simp] theorem Yc:lay.tt 74=some abT:=rfl
@[simp] theorem Ti:lay.tt 85=some abU:=rfl
@[simp] theorem Yd:lay.tt 87=some abV:=rfl
@[simp] theorem Ye:lay.tt 88=some abp:=rfl
@[simp] theorem Yf:lay.tt 89=some abp:=rfl
@[simp] theorem Yg:lay.tt 90=some abW:=rfl
@[simp] theorem Yh:lay.tt 92=some abX:=rfl
@[simp] theorem Yi:lay.tt 94=some abY:=rfl
@[simp] theorem Yj:lay.tt 96=some abZ:=rfl
@[simp] theorem Yk:lay.tt 98=some aca:=rfl
@[simp] theorem Yl:lay.tt 99=some acb:=rfl
@[simp] theorem Wi:lay.tt 101=some acd:=rfl
@[simp] theorem Tj:lay.tt 102=some ace:=rfl
@[simp] theorem Wj:lay.tt 103=some abo:=rfl
@[simp] theorem Kv:lay.tt 104=some abr:=rfl
@[simp] theorem Wk:lay.tt 105=some abD:=rfl
@[simp] theorem Wm:lay.tt 106=some abD:=rfl
@[simp] theorem Wn:lay.tt 108=some abp:=rfl
@[simp] theorem Wo:lay.tt 114=some acf:=rfl
@[simp] theorem Wp:lay.tt 115=some abo:=rfl
@[simp] theorem Wq:lay.tt 116=some acg:=rfl
@[simp] theorem Wr:lay.tt 117=some ach:=rfl
@[simp] theorem Wt:lay.tt 119=some aci:=rfl
@[simp] theorem Wu:lay.tt 121=some abq:=rfl
@[simp] theorem Tl:lay.tt 122=some abq:=rfl
@[simp] theorem Wv:lay.tt 124=some abu:=rfl
@[simp] theorem Gc:lay.tt 127=some abq:=rfl
@[simp] theorem Ww:lay.tt 134=some abp:=rfl
@[simp] theorem Wx:lay.tt 136=some acj:=rfl
@[simp] theorem Wy:lay.tt 138=some ack:=rfl
@[simp] theorem Wz:lay.tt 141=some acm:=rfl
@[simp] theorem WG:lay.tt 149=some abp:=rfl
@[simp] theorem Tm:lay.tt 150=some acn:=rfl
@[simp] theorem Tn:lay.tt 157=some abp:=rfl
@[simp] theorem Tp:lay.tt 158=some abp:=rfl
@[simp] theorem Tq:lay.tt 159=some abp:=rfl
@[simp] theorem WH:lay.tt 160=some aco:=rfl
@[simp] theorem WI:lay.tt 162=some acp:=rfl
@[simp] theorem WJ:lay.tt 164=some acr:=rfl
@[simp] theorem WK:lay.tt 166=some acs:=rfl
@[simp] theorem WL:lay.tt 169=some acu:=rfl
@[simp] theorem WM:lay.tt 171=some acv:=rfl
@[simp] theorem WN:lay.tt 174=some acw:=rfl
@[simp] theorem WO:lay.tt 177=some abt:=rfl
@[simp] theorem WQ:lay.tt 181=some acx:=rfl
@[simp] theorem WR:lay.tt 186=some acy:=rfl
@[simp] theorem WT:lay.tt 190=some acz:=rfl
@[simp] theorem WU:lay.tt 191=some abp:=rfl
@[simp] theorem WV:lay.tt 193=some abq:=rfl
@[simp] theorem WW:lay.tt 199=some acA:=rfl
@[simp] theorem WX:lay.tt 200=some acB:=rfl
@[simp] theorem WZ:lay.tt 201=some abo:=rfl
@[simp] theorem W2:lay.tt 204=some abo:=rfl
@[simp] theorem W6:lay.tt 206=some abu:=rfl
@[simp] theorem W7:lay.tt 208=some acC:=rfl
@[simp] theorem W8:lay.tt 211=some abr:=rfl
@[simp] theorem Gd:lay.tt 215=some acD:=rfl
@[simp] theorem W9:lay.tt 227=some acE:=rfl
@[simp] theorem Xa:lay.tt 231=some abw:=rfl
@[simp] theorem Xb:lay.tt 233=some abq:=rfl
@[simp] theorem Xc:lay.tt 236=some abq:=rfl
@[simp] theorem Xd:lay.tt 238=some abq:=rfl
@[simp] theorem Xe:lay.tt 239=some acF:=rfl
@[simp] theorem Xf:lay.tt 255=some acG:=rfl
@[simp] theorem Xg:lay.tt 256=some acH:=rfl
@[simp] theorem Xh:lay.tt 258=some acI:=rfl
@[simp] theorem Xi:lay.tt 260=some abr:=rfl
@[simp] theorem Xj:lay.tt 261=some abo:=rfl
@[simp] theorem Xk:lay.tt 262=some acJ:=rfl
@[simp] theorem Xl:lay.tt 263=some abx:=rfl
@[simp] theorem Xm:lay.tt 264=some abx:=rfl
@[simp] theorem Xn:lay.tt 266=some acK:=rfl
@[simp] theorem Xo:lay.tt 268=some abr:=rfl
abbrev Ym:aaV:=[⟨13,.take [0,1,2,3,4] false (.both 5 (.take [6,7,8,9,12,13] false (.one 10 (.one 11 (.done)))) (.one 10 (.one 5 (.take [6,7,8,9,12,13] false (.one 11 (.done))))))⟩,⟨21,.take [0,1,2,3,4,5,6,7,8] false (.one 9 (.take [10,11,12,13,14] true (.done)))⟩]
abbrev Vd:aaV:=[⟨19,.take [0,2,3,4,6,7,11] false (.both 1 (.both 5 (.one 8 (.one 9 (.take [10] true (.one 12 (.done))))) (.one 8 (.one 5 (.one 9 (.take [10] true (.one 12 (.done))))))) (.both 5 (.both 1 (.one 8 (.one 9 (.take [10] true (.one 12 (.done))))) (.one 8 (.both 1 (.one 9 (.take [10] true (.one 12 (.done)))) (.one 9 (.take [1,10] true (.one 12 (.done))))))) (.one 8 (.both 1 (.one 5 (.one 9 (.take [10] true (.one 12 (.done))))) (.one 5 (.both 1 (.one 9 (.take [10] true (.one 12 (.done)))) (.one 9 (.take [1,10] true (.one 12 (.done))))))))))⟩]
abbrev Ve:aaV:=[⟨5,.take [0,1,3,4,8] false (.one 2 (.take [6] false (.one 5 (.take [7] true (.done)))))⟩]
abbrev Vf:aaV:=[⟨7,.take [0,2,6] false (.both 1 (.one 3 (.one 4 (.one 5 (.one 7 (.done))))) (.one 3 (.both 1 (.one 4 (.one 5 (.one 7 (.done)))) (.one 4 (.take [1] true (.one 5 (.one 7 (.done))))))))⟩,⟨15,.take [0,2,5,6,8,11,12,13] false (.both 1 (.take [3,4,14] false (.one 7 (.take [9,10,16] false (.one 15 (.one 17 (.done)))))) (.one 7 (.take [9,10,16] false (.take [1,3,4,14] true (.one 15 (.one 17 (.done)))))))⟩,⟨21,.take [0,2,3,7] false (.both 1 (.one 4 (.one 5 (.one 6 (.one 8 (.done))))) (.one 4 (.both 1 (.one 5 (.one 6 (.one 8 (.done)))) (.one 5 (.take [1] true (.one 6 (.one 8 (.done))))))))⟩]
abbrev Vg:aaV:=[⟨3,.take [0,1,2,3,4,5,6,7,8,9] true (.done)⟩,⟨4,.take [0,1,2,3,4,5,6,7,8,9,10,11,12,13,14] true (.take [15] true (.done))⟩,⟨6,.take [0,1,2,3,5,6,7,11,12] false (.take [4,8,9,10] true (.one 13 (.done)))⟩]
abbrev Vh:aaV:=[⟨26,.take [0,1,2,3] false (.one 4 (.one 5 (.one 6 (.take [7,8,9,10,11] true (.done)))))⟩]
abbrev Vi:aaV:=[⟨1,.take [0,1,2,3,4] false (.both 5 (.one 6 (.one 7 (.done))) (.one 6 (.one 5 (.one 7 (.done)))))⟩,⟨4,.take [0,1,2,3,4,5] true (.one 6 (.done))⟩]
abbrev Tr:aaV:=[⟨7,.take [0,1,2,3] true (.done)⟩]
abbrev Vj:aaV:=[⟨1,.take [0,1,2,3,4,5,6,7,8,9] true (.done)⟩]
abbrev Ts:aaV:=[⟨4,.take [0,1,2,3,4,5] false (.one 6 (.done))⟩]
abbrev Vk:aaV:=[⟨16,.take [0,1,2,4,5,6,8,9,12] false (.both 3 (.one 7 (.one 10 (.one 11 (.one 13 (.done))))) (.one 7 (.both 3 (.one 10 (.one 11 (.one 13 (.done)))) (.one 10 (.take [3] true (.one 11 (.one 13 (.done))))))))⟩]
abbrev Vl:aaV:=[⟨0,.take [0,1,3,4,6,7] false (.both 2 (.both 5 (.take [11] false (.both 8 (.take [12] false (.one 9 (.one 10 (.done)))) (.one 9 (.one 8 (.take [12] false (.one 10 (.done))))))) (.one 9 (.one 5 (.take [11] false (.one 8 (.take [12] false (.one 10 (.done)))))))) (.one 9 (.one 2 (.one 5 (.take [11] false (.one 8 (.take [12] false (.one 10 (.done)))))))))⟩,⟨8,.take [0,1,2,3,5,6,7,8] false (.one 4 (.one 9 (.done)))⟩]
abbrev Vm:aaV:=[⟨1,.take [0,1,2,3,4,5,6,7,8,9,10,11,12,13,14,15,16,17] false (.one 18 (.take [19] true (.done)))⟩]
abbrev Tt:aaV:=[⟨24,.take [0,1,2,3,4,5,6,7,8,9,10,11,12,13,14,15,16,17,18,19,20,21,22,23,24] true (.done)⟩,⟨29,.take [0,1,2,3,4,5,6,7,8,9,10,11,12,13,14,15,16,17,18,19,20,21,22] true (.done)⟩]
abbrev Tu:aaV:=[⟨4,.take [0,2,4] false (.take [1] true (.one 3 (.one 5 (.done))))⟩,⟨5,.take [0,1,2] false (.one 3 (.one 4 (.take [5,6,8,9,10,12,15,16,17] false (.both 7 (.both 11 (.both 13 (.both 14 (.one 18 (.one 19 (.take [20,21] true (.done)))) (.one 18 (.one 14 (.one 19 (.take [20,21] true (.done)))))) (.one 18 (.one 13 (.one 14 (.one 19 (.take [20,21] true (.done))))))) (.both 13 (.both 11 (.both 14 (.one 18 (.one 19 (.take [20,21] true (.done)))) (.one 18 (.one 14 (.one 19 (.take [20,21] true (.done)))))) (.one 18 (.one 11 (.one 14 (.one 19 (.take [20,21] true (.done))))))) (.one 18 (.both 11 (.one 13 (.one 14 (.one 19 (.take [20,21] true (.done))))) (.one 13 (.one 11 (.one 14 (.one 19 (.take [20,21] true (.done)))))))))) (.both 11 (.both 7 (.both 13 (.both 14 (.one 18 (.one 19 (.take [20,21] true (.done)))) (.one 18 (.one 14 (.one 19 (.take [20,21] true (.done)))))) (.one 18 (.one 13 (.one 14 (.one 19 (.take [20,21] true (.done))))))) (.both 13 (.both 7 (.both 14 (.one 18 (.one 19 (.take [20,21] true (.done)))) (.one 18 (.one 14 (.one 19 (.take [20,21] true (.done)))))) (.both 14 (.both 7 (.one 18 (.one 19 (.take [20,21] true (.done)))) (.one 18 (.one 7 (.one 19 (.take [20,21] true (.done)))))) (.one 18 (.both 7 (.one 14 (.one 19 (.take [20,21] true (.done)))) (.one 14 (.one 7 (.one 19 (.take [20,21] true (.done))))))))) (.one 18 (.both 7 (.one 13 (.one 14 (.one 19 (.take [20,21] true (.done))))) (.one 13 (.both 7 (.one 14 (.one 19 (.take [20,21] true (.done)))) (.one 14 (.one 7 (.one 19 (.take [20,21] true (.done))))))))))) (.both 13 (.both 7 (.both 11 (.both 14 (.one 18 (.one 19 (.take [20,21] true (.done)))) (.one 18 (.one 14 (.one 19 (.take [20,21] true (.done)))))) (.one 18 (.one 11 (.one 14 (.one 19 (.take [20,21] true (.done))))))) (.both 11 (.both 7 (.both 14 (.one 18 (.one 19 (.take [20,21] true (.done)))) (.one 18 (.one 14 (.one 19 (.take [20,21] true (.done)))))) (.both 14 (.both 7 (.one 18 (.one 19 (.take [20,21] true (.done)))) (.one 18 (.one 7 (.one 19 (.take [20,21] true (.done)))))) (.one 18 (.both 7 (.one 14 (.one 19 (.take [20,21] true (.done)))) (.one 14 (.one 7 (.one 19 (.take [20,21] true (.done))))))))) (.one 18 (.both 7 (.one 11 (.one 14 (.one 19 (.take [20,21] true (.done))))) (.one 11 (.both 7 (.one 14 (.one 19 (.take [20,21] true (.done)))) (.one 14 (.one 7 (.one 19 (.take [20,21] true (.done))))))))))) (.one 18 (.both 7 (.both 11 (.one 13 (.one 14 (.one 19 (.take [20,21] true (.done))))) (.one 13 (.one 11 (.one 14 (.one 19 (.take [20,21] true (.done))))))) (.both 11 (.both 7 (.one 13 (.one 14 (.one 19 (.take [20,21] true (.done))))) (.one 13 (.both 7 (.one 14 (.one 19 (.take [20,21] true (.done)))) (.one 14 (.one 7 (.one 19 (.take [20,21] true (.done)))))))) (.one 13 (.both 7 (.one 11 (.one 14 (.one 19 (.take [20,21] true (.done))))) (.one 11 (.both 7 (.one 14 (.one 19 (.take [20,21] true (.done)))) (.one 14 (.one 7 (.one 19 (.take [20,21] true (.done))))))))))))))))))⟩]
abbrev Tv:aaV:=[⟨1,.take [0,1,2,3,4,5] true (.one 6 (.done))⟩]
abbrev Tw:aaV:=[⟨3,.take [0,1,2,3] false (.one 4 (.one 5 (.take [6,7,8,9,10] true (.done))))⟩,⟨6,.take [0,1,2,3,4,5] true (.one 6 (.done))⟩]
abbrev Tx:aaV:=[⟨0,.take [0,1,2,3] false (.one 4 (.one 5 (.done)))⟩]
abbrev Ty:aaV:=[⟨4,.take [0,1,2,3,4,5,6,7,9,10,11,12] false (.both 8 (.one 13 (.one 14 (.take [15,16] true (.done)))) (.one 13 (.one 8 (.one 14 (.take [15,16] true (.done))))))⟩,⟨6,.take [0,1,2,3,4,5,6,7,8,10,11,12,14,16] false (.take [9,13] true (.one 15 (.one 17 (.done))))⟩]
abbrev Tz:aaV:=[⟨4,.take [0,1,2,3,4,5,6,7,8,9,10,11,12,13,14,15,16,17,18,19,20] true (.done)⟩]
abbrev TA:aaV:=[⟨8,.take [0,1,2,3,4,5,6,7,8,9,10,11,12,13,14] true (.done)⟩,⟨11,.take [0,1,3,4,5,6,7,8,10] false (.one 2 (.take [9,11] false (.one 12 (.one 13 (.take [14] true (.done))))))⟩,⟨17,.take [0,1,2,3] false (.one 4 (.one 5 (.take [6] true (.done))))⟩]
abbrev TC:aaV:=[⟨4,.take [0,1,2,3,4,5,6,7,8,9,10,11,12,13,14,15,16,17,18,19,20,21,22] false (.both 23 (.one 24 (.one 25 (.one 26 (.done)))) (.one 24 (.one 23 (.one 25 (.one 26 (.done))))))⟩,⟨5,.take [0,1,2,3,4,5,6,7,8,9,10,11,12,13,14,15,16,17,18,19,20,21,22,23,24,26,27] false (.one 25 (.one 28 (.one 29 (.take [30,31,32] true (.done)))))⟩]
attribute [simp] M5
abbrev int(n:Int):AV:=.lit (.int .i64 n)
abbrev u8(n:Int):AV:=.lit (.int .u8 n)
abbrev bool(b:Bool):AV:=.lit (.bool b)
abbrev ints(l:abe):AV:=.sl 1 (l.map int) .any
abbrev rows(l:aaK):AV:=.sl 1 (l.map ints) .any
structure u6 where
 hour:Int
 place:Int
 cP:Int
 marks:abe
 bp:Int
 jr:Int
 deriving DecidableEq
structure Fr where
 aA:List u6
 roads:aaK
 aS:Int
 ew:Int
 cK:Int
 aV:Int
 deriving DecidableEq
abbrev ba(e:u6):AV:=.agg [int e.hour,int e.place,int e.cP,ints e.marks,int e.bp,int e.jr]
abbrev iv(l:List u6):AV:=.sl 6 (l.map ba) .any
abbrev CE(f:Fr):abj:=[iv f.aA,rows f.roads,int f.aS,int f.ew,int f.cK,int f.aV]
abbrev cj(f:Fr):AV:=.agg (CE f)
abbrev kH(b mb:Nat)(f:Fr)(o:Nat):AV:=.kp b [iv f.aA,rows f.roads,int f.aS,int f.ew,int f.cK,int f.aV,.lit (.int .i32 0),.lit (.int .u32 0),.map mb] [6,7] o
def bE(a lo hi:Int):Bool:=decide (lo<=a) && decide (a<=hi)
def Ge:Option Int->Int->Bool
 |some q,h=>decide (h<=q)
 |none,_=>false
def sD:Option Int->abe->Int
 |_,[]=>0
 |p,h::l=>if bE h 0 4=false then 3 else if Ge p h=true then 5 else sD (some h) l
def cG(places:Int)(e:u6):Int:=
 if bE e.hour 0 72=false then 1 else if bE e.place 0 (places-1)=false then 3 else if bE e.cP 0 5=false then 1 else if sD none e.marks≠0 then sD none e.marks
 else if bE e.bp 0 30=false then 1 else if bE e.jr 0 2=false then 8 else 0
def fB(f:u6->Int):List u6->Int
 |[]=>0
 |d::l=>if f d=0 then fB f l else f d
theorem N3(l:abe)(i:Nat)(h:i<l.length)(p:Option Int):sD p (l.drop i)=if bE l[i] 0 4=false then 3 else if Ge p l[i]=true then 5 else sD (some l[i]) (l.drop (i+1)):=by rw[Zg h,sD]
theorem CG(f:u6->Int)(l:List u6)(i:Nat)(h:i<l.length):fB f (l.drop i)=if f l[i]=0 then fB f (l.drop (i+1))else f l[i]:=by rw[Zg h,fB]
def rd(r:aaK)(i j:Nat):Int:=(r.getD i []).getD j 0
def dG(r:aaK)(i j:Nat):Bool:=rd r i i !=0||rd r i j !=rd r j i||(List.range r.length).any λk=>decide (rd r i j>rd r i k+rd r k j)
def lF(n:Nat)(l:abe):Int:=if l.length≠n then 9 else if l.all (bE · 0 9)then 0 else 1
def gJ(n:Nat):aaK->Int
 |[]=>0
 |l::r=>if lF n l=0 then gJ n r else lF n l
def fC(r:aaK):Int:=
 if r.length<1 then 7 else if 3<r.length then 6 else if gJ r.length r≠0 then gJ r.length r
 else if(List.range r.length).any (λi=>(List.range r.length).any λj=>dG r i j)then 9 else 0
def check(f:Fr):Int:=
 if fC f.roads≠0 then fC f.roads else if(bE f.aS 0 3 && bE f.ew 0 3)=false then 1 else if f.ew<f.aS then 5
 else if(bE f.cK 1 6 && bE f.aV 1 6)=false then 1 else if(6:Int)<f.aA.length then 6 else fB (cG f.roads.length) f.aA
theorem EF(n:Nat)(l:aaK)(i:Nat)(h:i<l.length):gJ n (l.drop i)=if lF n l[i]=0 then gJ n (l.drop (i+1))else lF n l[i]:=by rw[Zg h,gJ]
structure Fr.Fits(f:Fr):Prop where
 aA:f.aA.length<1152921504606846976
 roads:f.roads.length<1152921504606846976
 row:∀r∈f.roads,r.length<1152921504606846976
 marks:∀e∈f.aA,e.marks.length<1152921504606846976
def hQ(i:Int):abe->Int->Int
 |[],_=>-1
 |x::l,v=>if x=v then i else hQ (i+1) l v
def nW(l:abe)(v:Int):Int:=hQ 0 l v
theorem zq(l:abe)(v:Int)(i:Nat)(h:i<l.length)(c:Int):hQ c (l.drop i) v=if l[i]=v then c else hQ (c+1) (l.drop (i+1)) v:=by rw[Zg h,hQ]
theorem xg(v:Int):∀(l:abe) (i:Int),0<=i->(0<=hQ i l v↔v∈l)
 |[],i,h=>by simp[hQ]
 | x::l,i,h=>by
   unfold hQ;split
   . next e=>subst e;simp[h]
   . next e=>rw[xg v l (i+1) (by omega)];simp[zj e]
theorem jS(l:abe)(v:Int):0<=nW l v↔v∈l:=xg v l 0 (aas _)
def iM(f:Fr)(e:u6):abe:=if e.jr≠0 then(List.range (f.ew-f.aS+1).toNat).map λi:Nat=>e.bp-f.ew+(i:Int)else[]
def bS(f:Fr)(e:u6):abe:=if e.jr≠1/\e.bp∉iM f e then iM f e++[e.bp]else iM f e
def iw(first:abe)(others:aaK):abe:=first.filter λx=>others.all λl=>decide (x∈l)
def aK(f:Fr)(i:Int):u6:=f.aA.getD i.toNat ⟨0,0,0,[],0,0⟩
def fI(f:Fr)(l:abe):abe:=match l.map λi=>bS f (aK f i)with|[]=>[]|a::r=>iw a r
def TD(a b:Int):Int:=IntKind.u8.wrap (((BitVec.ofInt 8 a|||BitVec.ofInt 8 b).toNat:Nat):Int)
def CH(a b:Int):Int:=IntKind.u8.wrap (((BitVec.ofInt 8 a &&& BitVec.ofInt 8 b).toNat:Nat):Int)
def xh(a b:Int):Int:=IntKind.u8.wrap (((BitVec.ofInt 8 a ^^^ BitVec.ofInt 8 b).toNat:Nat):Int)
def Pk(a b:Int):Int:=IntKind.u8.wrap (a-b)
theorem sE(a b:Int):oA .or .u8 a b=some (.int .u8 (TD a b)):=rfl
theorem tF(a b:Int):oA .and .u8 a b=some (.int .u8 (CH a b)):=rfl
theorem Hq(a b:Int):oA .xor .u8 a b=some (.int .u8 (xh a b)):=rfl
theorem Hr(a b:Int):oA .sub .u8 a b=some (.int .u8 (Pk a b)):=rfl
def bR(m n:Int):Int:=TD m (IntKind.u8.wrap (2 ^ min n.toNat IntKind.u8.bits))
def fh(m n:Int):Bool:=CH (m.fdiv (2 ^ min n.toNat IntKind.u8.bits)) 1==1
def az(m:Int):abe:=((List.range 6).map λn:Nat=>(n:Int)).filter λn=>fh m n
def aW(l:abe):Int:=l.foldl bR 0
end
section
open Go.cr Go.Conc
variable{m:Mo}{σ:ab}{KF:aaQ}
theorem dW{a lo hi:Int}(h:KF (.val (bool (bE a lo hi))) σ):aB prog m 67 [int a,int lo,int hi] σ KF:=by
 unfold bE at h;refine fs [] Tryz.func67 rfl (by kernel_rfl) ?_;simp[Tryz.f67];refine yi.intro (λb=>?_) (λb=>?_)<;>simp[b]
 . exact .done (by simpa[b]using h)
 . exact .done (by simpa[b]using h)
theorem Kw{l:abe}{v:Int}(n:l.length<1152921504606846976)(h:KF (.val (int (nW l v))) σ):aB prog m 172 [ints l,int v] σ KF:=by
 refine fs [] Tryz.func172 rfl (by kernel_rfl) ?_;simp[Tryz.f172];refine aa.loop l.length (λk s=>∃env,s=⟨env,σ,[],.no⟩/\env 0=ints l/\env 1=int v/\env 7=int l.length/\env 8=int k/\hQ 0 l v=hQ k (l.drop k) v) ⟨_,rfl,by simp⟩ ?_;rintro o k _ p ⟨env,rfl,a,b,c,d,f⟩ j;apply rn;simp[a,b,c,d];refine aI.intro (λi=>?_) (λi=>?_)<;>(try simp[-Int.not_lt,-Int.not_le,-Nat.not_lt,-Nat.not_le]at i)<;>(try simp[a,b,c,d,i])
 . rw[zq l v k i]at f
   refine aI.intro (λg=>?_) (λg=>?_)<;>(try simp[-Int.not_lt,-Int.not_le,-Nat.not_lt,-Nat.not_le]at g)<;>(try simp[g]at f)<;>(try simp[a,b,c,d,g])<;>(try exact .done f)
   . subst g
     unfold nW at h;rw[f]at h;exact .done h
   . exact⟨by omega,j _ i ⟨_,rfl,by simp[a,b,c,d],by simp[a,b,c,d],by simp[a,b,c,d],by simp,by rw[f,YA (λe=>g e.symm)];simp⟩⟩
 . have:k=l.length:=by omega
   subst this;unfold nW at h;rw[f]at h;simp[hQ]at h;exact .done h
theorem mn{l:abe}{v:Int}(a:l.length<1152921504606846976)(h:KF (.val (bool (decide (v∈l)))) σ):aB prog m 170 [ints l,int v] σ KF:=by
 refine fs [] Tryz.func170 rfl (by kernel_rfl) ?_;simp[Tryz.f170];refine cf Tryz.func172 rfl (Kw a ?_);apply rn;simp;rw[<-decide_eq_decide.2 (jS l v)]at h;exact .done h
theorem m5{l:abe}{v:Int}(i:l.length<1152921504606846976)(h:KF (.val (int (nW l v))) σ):aB prog m 8 [ints l,int v] σ KF:=by
 refine fs [] Tryz.func8 rfl (by kernel_rfl) ?_;simp[Tryz.f8];refine aa.loop l.length (λk s=>∃env,s=⟨env,σ,[],.no⟩/\env 0=ints l/\env 1=int v/\env 5=int k/\hQ 0 l v=hQ k (l.drop k) v) ⟨_,rfl,by simp⟩ ?_;rintro j k _ n ⟨env,rfl,b,c,d,a⟩ g;apply rn;simp[b,c,d];refine aI.intro (λe=>?_) (λe=>?_)<;>(try simp[-Int.not_lt,-Int.not_le,-Nat.not_lt,-Nat.not_le]at e)<;>(try simp[b,c,d,e])
 . rw[zq l v k e]at a
   refine aI.intro (λf=>?_) (λf=>?_)<;>(try simp[-Int.not_lt,-Int.not_le,-Nat.not_lt,-Nat.not_le]at f)<;>(try simp[f]at a)<;>(try simp[b,c,d,f])<;>(try exact .done a)
   . subst f
     unfold nW at h;rw[a]at h;exact .done h
   . exact⟨by omega,g _ e ⟨_,rfl,by simp[b,c,d],by simp[b,c,d],by simp,by rw[a];simp⟩⟩
 . have:k=l.length:=by omega
   subst this;unfold nW at h;rw[a]at h;simp[hQ]at h;exact .done h
theorem CI{n:Int}(h:KF (.val (bool false)) σ):aB prog m 109 [int n] σ KF:=by
 refine fs [] Tryz.func109 rfl (by kernel_rfl) ?_;simp[Tryz.f109];exact .done h
def AY(x y:Int):Int:=if x<y then -1 else if y<x then 1 else 0
theorem EG{x y:Int}(h:KF (.val (int (AY x y))) σ):aB prog m 71 [int x,int y] σ KF:=by
 unfold AY at h;refine fs [] Tryz.func71 rfl (by kernel_rfl) ?_;simp[Tryz.f71];refine cf Tryz.func109 rfl (CI ?_);apply rn;simp;refine cf Tryz.func109 rfl (CI ?_);apply rn;simp;refine aI.intro (λa=>?_) (λa=>?_)<;>(try simp[-Int.not_lt,-Int.not_le,-Nat.not_lt,-Nat.not_le]at a)<;>(try simp[a]at h)<;>(try simp[a])<;>(try exact .done h);refine aI.intro (λb=>?_) (λb=>?_)<;>(try simp[-Int.not_lt,-Int.not_le,-Nat.not_lt,-Nat.not_le]at b)<;>(try simp[b]at h)<;>(try simp[b])<;>(try exact .done h)
theorem yt{e places}(w:0<=places/\places<1152921504606846976)(x:e.marks.length<1152921504606846976)(h:KF (.val (int (cG places e))) σ):aB prog m 102 [ba e,int places] σ KF:=by
 unfold cG at h;refine fs [] Tryz.func102 rfl (by kernel_rfl) ?_;simp[Tryz.f102];refine cf Tryz.func67 rfl (dW ?_);apply rn;simp;refine aI.intro (λi=>?_) (λi=>?_)<;>(try simp at i)<;>(try simp[i]at h)<;>(try simp[i])<;>(try exact .done h);refine⟨by omega,?_⟩;refine cf Tryz.func67 rfl (dW ?_);apply rn;simp;refine aI.intro (λj=>?_) (λj=>?_)<;>(try simp at j)<;>(try simp[j]at h)<;>(try simp[j])<;>(try exact .done h);refine cf Tryz.func67 rfl (dW ?_);apply rn;simp;refine aI.intro (λl=>?_) (λl=>?_)<;>(try simp at l)<;>(try simp[l]at h)<;>(try simp[l])<;>(try exact .done h);refine aa.loop e.marks.length (λk s=>∃env,s=⟨env,σ,[],.no⟩/\env 2=.cp (ba e) 0/\env 22=ints e.marks/\env 23=int e.marks.length/\env 24=int k/\sD none e.marks=sD (if k=0 then none else e.marks[k-1]?) (e.marks.drop k)) ⟨_,rfl,by simp⟩ ?_
 rintro y k _ z ⟨env,rfl,n,f,g,b,a⟩ r;apply rn;simp[g,b];apply aI.intro<;>intro o<;>simp at o<;>simp[n,f,b,o]
 . rw [N3 _ k o]at a
   refine cf Tryz.func67 rfl (dW ?_);apply rn;simp;refine aI.intro (λc=>?_) (λc=>?_)<;>(try simp at c)<;>(try simp[c]at a)<;>(try simp[c])<;>(try exact .done a)
   . refine yi.intro (λd=>?_) (λd=>?_)<;>(try simp at d)<;>(try simp[d]at a)<;>(try simp[n,b,d])<;>(try exact .done a)
     . have t:(k:Int)-1=((k-1:Nat):Int):=by omega
       have q:k-1<e.marks.length:=by omega
       have u:¬k=0:=by omega
       simp[t,q];repeat refine⟨by omega,?_⟩
       try simp[q,u,Ge]at a
       refine aI.intro (λp=>?_) (λp=>?_)<;>(try simp at p)<;>(try simp[p]at a)<;>(try simp[b,p])<;>(try exact .done a)
       . simp[a]at h
         exact .done h
       . refine⟨by omega,r _ o ⟨_,rfl,by simp[n],by simp[f],by simp[g],by simp,?_⟩⟩
         grind
     . have v:k=0:=by omega
       subst v;simp[Ge]at a
       simp_all
   . simp[a]at h
     exact .done h
 . have:k=e.marks.length:=by omega
   subst this;simp[sD]at a;simp[a]at h;refine cf Tryz.func67 rfl (dW ?_);apply rn;simp;refine aI.intro (λc=>?_) (λc=>?_)<;>(try simp at c)<;>(try simp[c]at h)<;>(try simp[n,c])<;>(try exact .done h);refine cf Tryz.func67 rfl (dW ?_);apply rn;simp;refine aI.intro (λd=>?_) (λd=>?_)<;>(try simp at d)<;>(try simp[d]at h)<;>(try simp[d])<;>(try exact .done h)
theorem kI{n}:∀{r},gJ n r=0->∀l∈r,l.length=n/\∀x∈l,bE x 0 9=true
 |[],_,l,b=>by simp at b
 | a :: r,h,l,b=>by
   unfold gJ at h;split at h
   . next c=>
     rcases YQ.1 b with rfl|b
     . unfold lF at c
       grind
     . exact kI h l b
   omega
theorem m7{r i j}  hi  (hj:j<r[i].length):rd r i j=r[i][j]:=by simp[rd,zA,hi,hj]
theorem dt{a lo hi}(h:bE a lo hi=true):lo<=a/\a<=hi:=by simpa[bE]using h
theorem yu{r}(hr:r.length<1152921504606846976)(hl:∀l∈r,l.length<1152921504606846976)(h:KF (.val (int (fC r))) σ):aB prog m 101 [rows r] σ KF:=by
 unfold fC at h;refine fs Tt Tryz.func101 rfl (by kernel_rfl) ?_
 simp[Tryz.f101];refine aI.intro (λV=>?_) (λV=>?_)<;>simp at V<;>simp[V]
 . rw[YG (show r.length<1 by omega)]at h
   exact .done h
 refine aI.intro (λW=>?_) (λW=>?_)<;>simp at W<;>simp[W]
 . have X:¬r.length<1:=by omega
   have P:3<r.length:=by omega
   rw[YA (show ¬r.length<1 by omega),YG P]at h
   exact .done h
 have X:¬r.length<1:=by omega
 have P:¬3<r.length:=by omega
 rw[YA X,YA P]at h;refine aa.loop r.length (λk s=>∃env,s=⟨env,σ,[],.no⟩/\env 0=rows r/\env 19=rows r/\env 20=int r.length/\env 21=int k/\gJ r.length r=gJ r.length (r.drop k)) ⟨_,rfl,by simp⟩ ?_
 rintro c0 k _ hk ⟨env,rfl,a,n,o,g,v⟩ Q
 apply rn;simp[o,g];apply aI.intro<;>intro H<;>simp at H<;>simp[a,n,g,H]
 . rw [EF _ _ k H]at v
   obtain⟨l,I⟩:∃l,l=r[k]:=⟨_,rfl⟩;simp only[<-I]at v ⊢;have av:l.length<1152921504606846976:=hl l (by rw[I];exact zD H)
   refine aI.intro (λb=>?_) (λb=>?_)<;>simp at b<;>simp[b]
   . have w:l.length≠r.length:=λe=>b (by rw[e])
     simp[lF,w]at v;simp[v]at h;exact .done h
   have w:l.length=r.length:=by omega
   refine aa.loop l.length (λj s=>∃env,s=⟨env,σ,[],.no⟩/\env 0=rows r/\env 19=rows r/\env 20=int r.length/\env 21=int k/\env 30=ints l/\env 31=int l.length/\env 32=int j/\(l.take j).all (bE · 0 9)=true) ⟨_,rfl,by simp[a,n,o,g,w]⟩ ?_
   clear a n o g
   rintro c1 j _ R ⟨env,rfl,a,n,o,g,J,K,B,x⟩ C
   apply rn;simp[K,B];apply aI.intro<;>intro p<;>simp at p<;>simp[g,J,B,p]
   . refine cf Tryz.func67 rfl (dW ?_)
     apply rn;simp;refine aI.intro (λu=>?_) (λu=>?_)<;>(try simp at u)<;>(try simp[B,u])
     . refine⟨by omega,C _ p ⟨_,rfl,by simp[a],by simp[n],by simp[o],by simp[g],by simp[J],by simp[K],by simp,?_⟩⟩
       rw[Yz p,List.all_append,x];simp[u]
     . have:l.all (bE · 0 9)=false:=by
        rw[List.all_eq_false];exact⟨_,zD p,by simp[u]⟩
       simp[lF,w,this]at v;simp[v]at h;exact .done h
   . have:j=l.length:=by omega
     subst this;rw[YZ]at x;have Y:lF r.length l=0:=by unfold lF;rw[YA (by simp[w]),YG x]
     rw[YG Y]at v;refine⟨by omega,Q _ H ⟨_,rfl,?_,?_,?_,?_,v⟩⟩<;>simp[a,n,o]
 have:k=r.length:=by omega
 subst this;simp[gJ]at v;rw[YA (by omega)]at h
 clear Q;have al:∀(i:Nat) (F:i<r.length),r[i].length=r.length:=λi F=>(kI v _ (zD F)).1
 have L:∀(i:Nat) (F:i<r.length) (j:Nat) (R:j<r[i].length),0<=r[i][j]/\r[i][j]<=9:=λi F j R=>dt ((kI v _ (zD F)).2 _ (zD R))
 refine aa.loop r.length (λi s=>∃env,s=⟨env,σ,[],.no⟩/\env 0=rows r/\env 41=rows r/\env 42=int r.length/\env 43=int i/\∀i'<i,∀j<r.length,dG r i' j=false) ⟨_,rfl,by simp[a]⟩ ?_
 clear a n o g
 rintro c1 i _ F ⟨env,rfl,a,f,d,c,Z⟩ Q
 apply rn;simp[d,c];apply aI.intro<;>intro b<;>simp at b<;>simp[a,c,b]
 . refine aa.loop r.length (λj s=>∃env,s=⟨env,σ,[],.no⟩/\env 0=rows r/\env 41=rows r/\env 42=int r.length/\env 43=int i/\env 8=int i/\env 46=rows r/\env 47=int r.length/\env 48=int j/\∀D<j,dG r i D=false) ⟨_,rfl,by simp[a,f,d,c]⟩ ?_
   clear a f d c
   rintro c2 j _ R ⟨env,rfl,a,f,d,c,z,y,t,q,ax⟩ C
   apply rn;simp[t,q];apply aI.intro<;>intro p<;>simp at p<;>simp[a,c,z,q,p]
   . have q1 : i<r[i].length:=by grind
     have G:j<r[i].length:=by grind
     have q3:i<r[j].length:=by grind
     simp[z,b,q1];refine MQ.intro (λu=>?_) (λu=>?_)<;>(try simp at u)<;>(try simp[a,z,u,b,p,G,q3])
     . apply rn
       simp;apply aI.intro<;>intro S<;>simp at S<;>simp[a,S]
       ·
        have hb:dG r i j=true:=by unfold dG;rw[m7 b G,m7 p q3];simp[S]
        have:((List.range r.length).any λi=>(List.range r.length).any λj=>dG r i j)=true:=Zc.2 ⟨i,YB.2 b,Zc.2 ⟨j,YB.2 p,hb⟩⟩
        rw[YG this]at h;exact .done h
       . refine aa.loop r.length (λk s=>∃env,s=⟨env,σ,[],.no⟩/\env 0=rows r/\env 41=rows r/\env 42=int r.length/\env 43=int i/\env 8=int i/\env 46=rows r/\env 47=int r.length/\env 48=int j/\env 9=int j/\env 76=rows r/\env 77=int r.length/\env 78=int k/\∀M<k,¬rd r i j>rd r i M+rd r M j) ⟨_,rfl,by simp[a,f,d,c,z,y,t,q]⟩ ?_
         clear a f d c z y t q
         rintro c3 k _ hk ⟨env,rfl,a,f,d,c,z,y,t,q,h9,a7,N,E,a8⟩ a9
         apply rn;simp[N,E];apply aI.intro<;>intro A<;>simp at A<;>simp[a,z,q,E,A]
         . have T:k<r[i].length:=by grind
           have U:j<r[k].length:=by grind
           have b1:=L i b k T;have b2:=L k A j U;have f1:-9223372036854775808<=r[i][k]+r[k][j]:=by omega
           have f2:r[i][k]+r[k][j]<=9223372036854775807:=by omega
           simp[a,z,h9,b,A,G,T,U,f1,f2];apply rn;simp;apply aI.intro<;>intro O<;>simp at O<;>simp[E,O]
           . have hb:dG r i j=true:=by
              unfold dG;have:((List.range r.length).any λk=>decide (rd r i j>rd r i k+rd r k j))=true:=Zc.2 ⟨k,YB.2 A,by rw[m7 b G,m7 b T,m7 A U];grind⟩
              grind
             have:((List.range r.length).any λi=>(List.range r.length).any λj=>dG r i j)=true:=Zc.2 ⟨i,YB.2 b,Zc.2 ⟨j,YB.2 p,hb⟩⟩
             rw[YG this]at h;exact .done h
           . refine⟨by omega,a9 _ A ⟨_,rfl,by simp[a],by simp[f],by simp[d],by simp[c],by simp[z],by simp[y],by simp[t],by simp[q],by simp[h9],by simp[a7],by simp[N],by simp,λM ay=>?_⟩⟩
             by_cases e:M=k
             . subst e
               rw[m7 b G,m7 b T,m7 A U];omega
             . exact a8 M (by omega)
         . have:k=r.length:=by omega
           subst this;refine⟨by omega,C _ p ⟨_,rfl,by simp[a],by simp[f],by simp[d],by simp[c],by simp[z],by simp[y],by simp[t],by simp,λD ad=>?_⟩⟩
           by_cases e:D=j
           . subst e
             unfold dG
             have X:((List.range r.length).any λk=>decide (rd r i D>rd r i k+rd r k D))=false:=by
              rw[ZM]
              grind
             have P:rd r i i=0:=by rw[m7 b q1];exact u
             have e3:rd r i D=rd r D i:=by rw[m7 b G,m7 p q3];exact S
             grind
           grind
     . have e:(r[i][i] !=0)=true:=by simp[u]
       simp[e];apply rn;simp
       have hb:dG r i j=true:=by unfold dG;rw[m7 b q1];simp[u]
       have:((List.range r.length).any λi=>(List.range r.length).any λj=>dG r i j)=true:=Zc.2 ⟨i,YB.2 b,Zc.2 ⟨j,YB.2 p,hb⟩⟩
       rw[YG this]at h;exact .done h
   . have:j=r.length:=by omega
     subst this;refine⟨by omega,Q _ b ⟨_,rfl,by simp[a],by simp[f],by simp[d],by simp,λi' aC j ad=>?_⟩⟩
     grind
 . have:i=r.length:=by omega
   subst this
   have:((List.range r.length).any λi=>(List.range r.length).any λj=>dG r i j)=false:=by grind
   rw[this]at h;exact .done (by grind)
theorem CJ{f:Fr}(n:f.Fits)(h:KF (.val (int (check f))) σ):aB prog m 66 [cj f] σ KF:=by
 unfold check at h;have z:=n.roads;have x:=n.aA;refine fs [] Tryz.func66 rfl (by kernel_rfl) ?_;simp[Tryz.f66];refine cf Tryz.func101 rfl (yu n.roads n.row ?_);apply rn;simp;refine aI.intro (λo=>?_) (λo=>?_)<;>(try simp[-Int.not_lt,-Int.not_le,-Nat.not_lt,-Nat.not_le]at o)<;>(try simp[o]at h)<;>(try simp[o])<;>(try exact .done h);refine cf Tryz.func67 rfl (dW ?_);apply rn;simp;refine yi.intro (λp=>?_) (λp=>?_)<;>(try simp[-Int.not_lt,-Int.not_le,-Nat.not_lt,-Nat.not_le]at p)<;>(try simp[p]at h)<;>(try simp[p])<;>(try exact .done h);refine cf Tryz.func67 rfl (dW ?_);apply rn;simp;refine aI.intro (λq=>?_) (λq=>?_)<;>(try simp[-Int.not_lt,-Int.not_le,-Nat.not_lt,-Nat.not_le]at q)<;>(try simp[q]at h)<;>(try simp[q])<;>(try exact .done h)
 refine aI.intro (λr=>?_) (λr=>?_)<;>(try simp[-Int.not_lt,-Int.not_le,-Nat.not_lt,-Nat.not_le]at r)<;>(try simp[r]at h)<;>(try simp[r])<;>(try exact .done h);refine cf Tryz.func67 rfl (dW ?_);apply rn;simp;refine yi.intro (λt=>?_) (λt=>?_)<;>(try simp[-Int.not_lt,-Int.not_le,-Nat.not_lt,-Nat.not_le]at t)<;>(try simp[t]at h)<;>(try simp[t])<;>(try exact .done h);refine cf Tryz.func67 rfl (dW ?_);apply rn;simp;refine aI.intro (λu=>?_) (λu=>?_)<;>(try simp[-Int.not_lt,-Int.not_le,-Nat.not_lt,-Nat.not_le]at u)<;>(try simp[u]at h)<;>(try simp[u])<;>(try exact .done h);refine aI.intro (λv=>?_) (λv=>?_)<;>(try simp[-Int.not_lt,-Int.not_le,-Nat.not_lt,-Nat.not_le]at v)<;>(try simp[v]at h)<;>(try simp[v])<;>(try exact .done h)
 refine aa.loop f.aA.length (λk s=>∃env g,s=⟨env,g,[],.no⟩/\σ.Le g/\env 1=.cp (cj f) 0/\env 47=iv f.aA/\env 48=int f.aA.length/\env 49=int k/\fB (cG f.roads.length) f.aA=fB (cG f.roads.length) (f.aA.drop k)) ⟨_,_,rfl,ab.le_refl _,by simp⟩ ?_;rintro A k _ B ⟨env,g,rfl,i,e,a,c,d,j⟩ y;apply rn;simp[e,a,c,d];refine aI.intro (λl=>?_) (λl=>?_)<;>(try simp[-Int.not_lt,-Int.not_le,-Nat.not_lt,-Nat.not_le]at l)<;>(try simp[e,a,c,d,l])
 . rw[CG _ _ k l]at j
   refine cz.intro λb hb=>?_
   simp[e,a,c,d];refine cf Tryz.func102 rfl (yt ⟨by omega,by omega⟩ (n.marks _ (zD l)) ?_);apply rn;simp[e,a,c,d];refine aI.intro (λw=>?_) (λw=>?_)<;>(try simp[-Int.not_lt,-Int.not_le,-Nat.not_lt,-Nat.not_le]at w)<;>(try simp[w]at j)<;>(try simp[e,a,c,d,w])<;>(try exact .done j)
   . rw[j]at h
     exact .less (ab.qR i hb) (.done h)
   . exact⟨by omega,y _ l ⟨_,_,rfl,ab.qR i hb,by simp[e,a,c,d],by simp[e,a,c,d],by simp[e,a,c,d],by simp,j⟩⟩
 . have:k=f.aA.length:=by omega
   subst this;simp[fB]at j;rw[j]at h;exact .less i (.done h)
structure vp(σ:ab)(b mb:Nat)(σ':ab):Prop where
 hb:σ b=none
 Br:σ mb=none
 ne:b≠mb
 eq:σ'=(σ.set mb (mapA .u8 [])).set b (.part (bD 6))
def Kx(f:Fr)(σ:ab):aaQ:=λr a=>∃b mb,r=.val (.ref b 0)/\σ b=none/\σ mb=none/\b≠mb/\a=(σ.set mb (mapA .u8 [])).set b (.cells [iv f.aA,rows f.roads,int f.aS,int f.ew,int f.cK,int f.aV,.lit (.int .i32 0),.lit (.int .u32 0),.map mb])
theorem EH{f:Fr}(h:∀b mb σ',vp σ b mb σ'->KF (.val (kH b mb f 0)) σ'):aB prog m 68 [cj f] σ KF:=by
 refine aB.share (KF0:=Kx f σ) ?_ ?_
 . refine aB.start lay [6] [] 1 Tryz.func68 rfl rfl (by rfl) (by kernel_rfl) ?_
   simp[Tryz.f68];refine uu (GD .u8) rfl λmb Br=>?_
   refine aa.run lay [6] ?_;simp[aH];refine cz.intro λb hb=>?_
   obtain⟨d,k,hb⟩:=ab.aP hb;simp;exact .done ⟨b,mb,rfl,hb,Br,d,rfl⟩
 . rintro r σ' ⟨b,mb,rfl,hb,Br,c,rfl⟩
   refine .inr ⟨b,_,[6,7],bD 6,rfl,ab.aj _ _ _,λi v a=>?_,λi=>?_,?_⟩
   . unfold bD at a
     split at a
     . next e=>subst e;cases a;rfl
     . split at a
       . next e=>subst e;cases a;rfl
       . cases a
   . unfold bD
     simp;constructor
     . intro h;split at h<;>simp_all
     . rintro⟨g,j⟩;simp[g,j]
   . exact h b mb _ ⟨hb,Br,c,by simp⟩
def gK(f:Fr)(l:abe):Int:=if check f≠0 then check f else if l.all (bE · 0 (f.aA.length-1))then 0 else 3
theorem AZ{f:Fr}{l:abe}(p:f.Fits)(v:l.length<1152921504606846976)(o:gK f l≠0->KF (.val (.cH [.lit (.pointer none),int (gK f l)])) σ)
 (q:gK f l=0->∀b mb σ',vp σ b mb σ'->KF (.val (.cH [kH b mb f 0,int 0])) σ'):aB prog m 35 [cj f,ints l] σ KF:=by
 have r:=p.aA;refine fs [] Tryz.func35 rfl (by kernel_rfl) ?_
 simp[Tryz.f35];refine cf Tryz.func66 rfl (CJ p ?_);apply rn;simp;refine aI.intro (λi=>?_) (λi=>?_)<;>simp at i<;>simp[i]
 . have:gK f l=check f:=by unfold gK;rw[YG i]
   rw[this]at o;exact .done (o i)
 refine aa.loop l.length (λk s=>∃env,s=⟨env,σ,[],.no⟩/\env 2=.cp (cj f) 0/\env 14=ints l/\env 15=int l.length/\env 16=int k/\(l.take k).all (bE · 0 (f.aA.length-1))=true) ⟨_,rfl,by simp⟩ ?_
 rintro w k _ x ⟨env,rfl,h,a,c,d,g⟩ t
 apply rn;simp[h,a,c,d];refine aI.intro (λj=>?_) (λj=>?_)<;>(try simp[-Int.not_lt,-Int.not_le,-Nat.not_lt,-Nat.not_le]at j)<;>(try simp[h,a,c,d,j])
 . refine⟨by omega,?_⟩
   refine cf Tryz.func67 rfl (dW ?_);apply rn;simp[h,a,c,d];refine aI.intro (λn=>?_) (λn=>?_)<;>(try simp[-Int.not_lt,-Int.not_le,-Nat.not_lt,-Nat.not_le]at n)<;>(try simp[h,a,c,d,n])
   . refine⟨by omega,t _ j ⟨_,rfl,by simp[h,a,c,d],by simp[h,a,c,d],by simp[h,a,c,d],by simp,?_⟩⟩
     rw[Yz j,List.all_append,g];simp[n]
   . have e:l.all (bE · 0 (f.aA.length-1))=false:=by
      rw[List.all_eq_false];exact⟨_,zD j,by simp[n]⟩
     have:gK f l=3:=by unfold gK;rw[YA (by simp[i]),e];rfl
     rw[this]at o;exact .done (o (by simp))
 . have:k=l.length:=by omega
   subst this;rw[YZ]at g;have:gK f l=0:=by unfold gK;rw[YA (by simp[i]),YG g]
   refine cf Tryz.func68 rfl (EH λb mb σ' u=>?_)
   apply rn;simp[h,a,c,d];exact .done (q this b mb σ' u)
theorem TE{a:AV}(h:KF (.val (bool false)) σ):aB prog m 73 [.lit .nilIface,a] σ KF:=by
 refine fs [] Tryz.func73 rfl (by kernel_rfl) ?_;simp[Tryz.f73];refine fX lay rfl Gc rfl (.inl ⟨rfl,rfl⟩) (.inl ⟨rfl,rfl⟩) ?_;apply rn;simp;exact .done h
end
section
open Go.cr Go.Conc
set_option maxRecDepth 4000
variable{m:Mo}{σ:ab}{KF:aaQ}
theorem qE(first:abe)  others   k   h :iw (first.take (k+1)) others=iw (first.take k) others++if others.all (λl=>decide (first[k]∈l))then[first[k]]else[]:=by
 unfold iw;rw[Yz h,ZF]
 grind
theorem A7  first   others :(iw first others).length<=first.length:=Zf _ _
theorem Ht{first others sp f}(B:first.length<=1000000000)(C:others.length<1152921504606846976)(u:∀l∈others,l.length<1152921504606846976)(h:KF (.val (ints (iw first others))) σ):aB prog m 171 [.sl 1 (first.map int) sp,.sl 1 (others.map ints) f] σ KF:=by
 refine fs [] Tryz.func171 rfl (by kernel_rfl) ?_;simp[Tryz.f171];refine aa.loop first.length (λk s=>∃env e,s=⟨env,e,[],.no⟩/\env 0=.sl 1 (first.map int) sp/\env 1=.sl 1 (others.map ints) f/\env 10=.sl 1 (first.map int) sp/\env 11=int first.length/\env 12=int k/\Tok σ e (env 5) 1 ((iw (first.take k) others).map int)) ⟨_,_,rfl,by simp,by simp,by simp,by simp,by simp,.nil σ 1⟩ ?_
 rintro D k _ E ⟨env,e,rfl,n,g,c,d,b,a⟩ x;apply rn;simp[d,b];have hlen:=A7 (first.take k) others;rw[ZD]at hlen;apply aI.intro<;>intro o<;>simp at o<;>simp[g,c,b,o]
 . refine aa.loop others.length (λj s=>∃env,s=⟨env,e,[],.no⟩/\env 0=.sl 1 (first.map int) sp/\env 1=.sl 1 (others.map ints) f/\env 10=.sl 1 (first.map int) sp/\env 11=int first.length/\env 12=int k/\Tok σ e (env 5) 1 ((iw (first.take k) others).map int)/\env 7=int first[k]/\env 16=.sl 1 (others.map ints) f/\env 17=int others.length/\env 18=int j/\∀l∈others.take j,first[k]∈l) ⟨_,rfl,by simp[n,g,c,d,b,a]⟩ ?_
   clear n g c d b a;rintro F j _ G ⟨env,rfl,n,g,c,d,b,a,y,p,q,i,r⟩ v;apply rn;simp[q,i];apply aI.intro<;>intro t<;>simp at t<;>simp[y,p,i,t]
   . refine cf Tryz.func170 rfl (mn (u _ (zD t)) ?_)
     apply rn;simp;apply aI.intro<;>intro z<;>simp at z<;>simp[b,i,z]
     . refine⟨by omega,v _ t ⟨_,rfl,by simp[n],by simp[g],by simp[c],by simp[d],by simp[b],by simpa using a,by simp[y],by simp[p],by simp[q],by simp,λl u=>?_⟩⟩
       rw[Yz t,YH,lb]at u
       grind
     . refine⟨by omega,x _ o ⟨_,_,rfl,by simp[n],by simp[g],by simp[c],by simp[d],by simp,?_⟩⟩
       have:others.all (λl=>decide (first[k]∈l))=false:=by grind
       rw[qE _ _ _ o,this];simpa using a
   . have:j=others.length:=by omega
     subst this;rw[YZ]at r;refine aQ lay rfl rfl rfl eC rfl eC rfl uI (by decide) (by simp;omega) (σ0:=σ) (es:=(iw (first.take k) others).map int) (xs:=[int first[k]]) (by simpa using a) (.inr ⟨_,rfl⟩) λH A w=>?_
     apply rn;simp[b];refine⟨by omega,x _ o ⟨_,_,rfl,by simp[n],by simp[g],by simp[c],by simp[d],by simp,?_⟩⟩;have:others.all (λl=>decide (first[k]∈l))=true:=by grind
     rw[qE _ _ _ o,this];simpa using w
 . have:k=first.length:=by omega
   subst this;rw[YZ]at a;exact .qk a.W (.less a.1 (.done h))
structure Fr.Good(f:Fr):Prop where
 fits:f.Fits
 fr:0<=f.aS/\f.aS<=3
 to:0<=f.ew/\f.ew<=3
 le:f.aS<=f.ew
 cK:1<=f.cK/\f.cK<=6
 aV:1<=f.aV/\f.aV<=6
 qo:f.aA.length<=6
 sF:∀e∈f.aA,cG f.roads.length e=0
 IK:fC f.roads=0
theorem qF  g :∀{l},fB g l=0->∀e∈l,g e=0
 |[],_,e,he=>by simp at he
 | a ::l,h,e,he=>by
   unfold fB at h;split at h
   . next b=>
     rcases YQ.1 he with rfl|he
     . exact b
     . exact qF g h e he
   omega
theorem Fr.pq{f}(c:f.Fits)(h:check f=0):f.Good:=by
 unfold check at h;split at h
 . omega
 next d=>
 split at h
 . cases h
 next a=>
 split at h
 . cases h
 next e=>
 split at h
 . cases h
 next b=>
 split at h
 . cases h
 next g=>
 simp only[Bool.not_eq_false,za]at a b;exact⟨c,dt a.1,dt a.2,by omega,dt b.1,dt b.2,by omega,qF _ h,by omega⟩
theorem ov{p e}(h:cG p e=0):(0<=e.hour/\e.hour<=72)/\(0<=e.place/\e.place<=p-1)/\(0<=e.cP/\e.cP<=5)/\(0<=e.bp/\e.bp<=30)/\(0<=e.jr/\e.jr<=2)/\sD none e.marks=0:=by
 unfold cG at h;split at h
 . cases h
 next a=>
 split at h
 . cases h
 next b=>
 split at h
 . cases h
 next c=>
 split at h
 . omega
 next g=>
 split at h
 . cases h
 next d=>
 split at h
 . cases h
 next f=>
 simp only[Bool.not_eq_false]at a b c d f;exact⟨dt a,dt b,dt c,dt d,dt f,by omega⟩
theorem zr{f}(a:f.Good)  e :(iM f e).length<=4:=by
 unfold iM;have:=a.fr;have:=a.to
 grind
theorem zt{f}(a:f.Good)  e :(bS f e).length<=5:=by
 unfold bS;have:=zr a e
 grind
theorem Ky{f e}(h:e.jr≠0):iM f e=(List.range (f.ew-f.aS+1).toNat).map λi:Nat=>e.bp-f.ew+(i:Int):=YG h
theorem EI{b mb f l}(H:f.Good)(Y:l≠[])(hl:l.length<=1000000)(hb:∀n∈l,0<=n/\n<f.aA.length)(h:KF (.val (ints (fI f l))) σ):aB prog m 169 [kH b mb f 0,ints l] σ KF:=by
 have h6:=H.qo;have al:=H.fr;have av:=H.to;have ax:=H.le;refine fs TA Tryz.func169 rfl (by kernel_rfl) ?_
 simp[Tryz.f169];refine aa.loop l.length (λk s=>∃env A,s=⟨env,A,[],.no⟩/\env 0=kH b mb f 0/\env 11=ints l/\env 12=int l.length/\env 13=int k/\Tok σ A (env 5) 1 ((l.take k).map λn=>ints (bS f (aK f n)))) ⟨_,_,rfl,by simp,by simp,by simp,by simp,.nil σ 1⟩ ?_
 rintro c0 k _ hk ⟨env,A,rfl,C,p,g,o,d⟩ S
 rcases Zb k l.length with g1|g1
 . obtain ⟨L,n1⟩:=hb _ (zD g1)
   have n2:l[k].toNat<f.aA.length:=by omega
   obtain⟨e,he⟩:∃e,e=f.aA[l[k].toNat]:=⟨_,rfl⟩;have Z:aK f l[k]=e:=by simp[aK,zA,n2,he]
   have ay:=ov (H.sF e (by simp_all))
   have t:(l.take (k+1)).map (λn=>ints (bS f (aK f n)))=(l.take k).map (λn=>ints (bS f (aK f n)))++[ints (bS f e)]:=by rw[Yz g1,YS];simp[Z]
   apply rn;simp[C,p,g,o,g1,L,n2,<-he];refine cz.intro λc hc=>?_
   simp
   have a7:σ c=none:=by
    cases q:σ c with
    |none=>rfl
    |some x=>rw[d.1 c x q]at hc;cases hc
   have B:Tok σ (A.set c (.cells [int e.hour,int e.place,int e.cP,ints e.marks,int e.bp,int e.jr])) (env 5) 1 ((l.take k).map λn=>ints (bS f (aK f n))):=d.beside a7 (λq=>by obtain⟨_,x,hx⟩:=d.bb q;grind)
   have G:(A.set c (.cells [int e.hour,int e.place,int e.cP,ints e.marks,int e.bp,int e.jr])) c=some (.cells [int e.hour,int e.place,int e.cP,ints e.marks,int e.bp,int e.jr]):=ab.aj _ _ _;generalize A.set c (.cells [int e.hour,int e.place,int e.cP,ints e.marks,int e.bp,int e.jr])=D at B G;refine aI.intro (λM=>?_) (λM=>?_)<;>simp at M<;>simp[M]
   . have f1:-9223372036854775808<=f.ew-f.aS/\f.ew-f.aS<=9223372036854775807:=by omega
     have f2:-9223372036854775808<=f.ew-f.aS+1/\f.ew-f.aS+1<=9223372036854775807:=by omega
     simp[C,f1.1,f1.2,f2.1,f2.2];apply rn;simp;obtain⟨a5,I⟩:∃a,a=env 5:=⟨_,rfl⟩;rw[<-I]at B;obtain⟨cnt,O⟩:∃cnt:Nat,(cnt:Int)=f.ew-f.aS+1:=⟨(f.ew-f.aS+1).toNat,by omega⟩
     have aC:cnt<=4:=by omega
     have a8:iM f e=(List.range cnt).map λi:Nat=>e.bp-f.ew+(i:Int):=by rw[Ky M];grind
     refine aa.loop cnt (λj s=>∃env J,s=⟨env,J,[],.no⟩/\env 0=kH b mb f 0/\env 11=ints l/\env 12=int l.length/\env 13=int k/\env 5=a5/\env 8=.ref c 0/\env 41=int cnt/\env 42=int j/\Tok D J (env 9) 1 (((List.range j).map λi:Nat=>e.bp-f.ew+(i:Int)).map int)) ⟨_,_,rfl,by simp[C,p,g,o,<-I,O,Tok.nil]⟩ ?_
     clear C p g o d I
     rintro c1 j _ hj ⟨env,J,rfl,C,p,g,o,T,N,E,F,u⟩ a9
     have v:=u.1 _ _ G
     rcases Zb j cnt with g3|g3
     . have f3:-9223372036854775808<=e.bp-f.ew/\e.bp-f.ew<=9223372036854775807:=by omega
       have f4:-9223372036854775808<=e.bp-f.ew+j/\e.bp-f.ew+j<=9223372036854775807:=by omega
       apply rn;simp[C,N,E,F,g3,v,f3.1,f3.2,f4.1,f4.2];refine aQ lay rfl rfl rfl eC rfl eC rfl uI (by decide) (by simp only[YV,ZI,Zh,ZG];omega) (σ0:=D) (es:=((List.range j).map λi:Nat=>e.bp-f.ew+(i:Int)).map int) (xs:=[int (e.bp-f.ew+j)]) (by simpa using u) (.inr ⟨_,rfl⟩) λa' P w=>?_
       apply pg;simp;apply rn;simp[F];refine⟨by omega,a9 _ g3 ⟨_,_,rfl,by simp[C],by simp[p],by simp[g],by simp[o],by simp[T],by simp[N],by simp[E],by simp,?_⟩⟩
       rw[YT,YS,YS];simpa using w
     . have:j=cnt:=by omega
       subst this;rw[<-a8]at u;have aE:=zr H e;have U:Wl [env 9,int e.bp] [ints (iM f e),int e.bp]:=.cons u.W (.cons (.refl _) .nil)
       by_cases V:e.jr=1
       . refine aa.MZ 9 u.W ?_
         have y:bS f e=iM f e:=YA λq=>q.1 V
         apply rn;simp[T,N,E,F,v,V];refine aQ lay rfl rfl rfl qZ rfl qZ rfl eC (by decide) (by simp;omega) (σ0:=σ) (es:=(l.take k).map λn=>ints (bS f (aK f n))) (xs:=[ints (bS f e)]) (by simpa using B.up u.1) (.inr ⟨_,by rw[y];simp;rfl⟩) λa4 K z=>?_
         apply rn;simp[o];refine⟨by omega,S _ g1 ⟨_,_,rfl,by simp[C],by simp[p],by simp[g],by simp,?_⟩⟩
         rw[t];simpa using z
       . have Q:(e.jr !=1)=true:=by simp[V]
         by_cases X:e.bp∈iM f e
         . have y:bS f e=iM f e:=YA λq=>q.2 X
           apply rn;simp[N,E,F,v,Q];refine dQ Tryz.func170 rfl rfl U (mn (by omega) ?_)
           refine aa.MZ 9 (a':=ints (iM f e)) (by simpa using u.W) ?_
           apply rn;simp[T,X];refine aQ lay rfl rfl rfl qZ rfl qZ rfl eC (by decide) (by simp;omega) (σ0:=σ) (es:=(l.take k).map λn=>ints (bS f (aK f n))) (xs:=[ints (bS f e)]) (by simpa using B.up u.1) (.inr ⟨_,by rw[y];simp;rfl⟩) λa4 K z=>?_
           apply rn;simp[o];refine⟨by omega,S _ g1 ⟨_,_,rfl,by simp[C],by simp[p],by simp[g],by simp,?_⟩⟩
           rw[t];simpa using z
         . have y:bS f e=iM f e++[e.bp]:=YG ⟨V,X⟩
           apply rn;simp[N,E,F,v,Q];refine dQ Tryz.func170 rfl rfl U (mn (by omega) ?_)
           apply rn;simp[N,X,v];refine aQ lay rfl rfl rfl eC rfl eC rfl uI (by decide) (by simp;omega) (σ0:=D) (es:=(iM f e).map int) (xs:=[int e.bp]) (by simpa using u) (.inr ⟨_,rfl⟩) λa' P w=>?_
           refine aa.MZ 74 (a':=AV.sl 1 ((iM f e).map int++[int e.bp]) .any) (by simpa using w.W) ?_
           apply rn;simp[T];refine aQ lay rfl rfl rfl qZ rfl qZ rfl eC (by decide) (by simp;omega) (σ0:=σ) (es:=(l.take k).map λn=>ints (bS f (aK f n))) (xs:=[ints (bS f e)]) (by simpa using B.up w.1) (.inr ⟨_,by rw[y];simp;rfl⟩) λa4 K z=>?_
           apply rn;simp[o];refine⟨by omega,S _ g1 ⟨_,_,rfl,by simp[C],by simp[p],by simp[g],by simp,?_⟩⟩
           rw[t];simpa using z
   . have y:bS f e=[e.bp]:=by
      simp[bS,iM,M]
     simp[G,M];have U:Wl [AV.lit (.slice none 0 0),int e.bp] [ints [],int e.bp]:=.cons (lR 1) (.cons (.refl _) .nil);refine dQ Tryz.func170 rfl rfl U (mn (by simp) ?_)
     apply rn;simp[G];refine aQ lay rfl rfl rfl eC rfl eC rfl uI (by decide) (by simp) (σ0:=D) (es:=[]) (xs:=[int e.bp]) (by simpa using Tok.nil D 1) (.inr ⟨_,rfl⟩) λa' P w=>?_
     refine aa.MZ 74 (a':=AV.sl 1 [int e.bp] .any) (by simpa using w.W) ?_
     apply rn;simp;refine aQ lay rfl rfl rfl qZ rfl qZ rfl eC (by decide) (by simp;omega) (σ0:=σ) (es:=(l.take k).map λn=>ints (bS f (aK f n))) (xs:=[ints (bS f e)]) (by simpa using B.up w.1) (.inr ⟨_,by rw[y];simp;rfl⟩) λa4 K z=>?_
     apply rn;simp[o];refine⟨by omega,S _ g1 ⟨_,_,rfl,by simp[C],by simp[p],by simp[g],by simp,?_⟩⟩
     rw[t];simpa using z
 . have:k=l.length:=by omega
   subst this;rw[YZ]at d;refine aa.MZ 5 d.W ?_;have R:0<l.length:=List.length_pos_iff.2 Y;apply rn;simp[g,o,R];refine DI lay rfl qZ rfl eC (es:=l.map λn=>ints (bS f (aK f n))) (sp:=.any) (l:=1) (h:=l.length) ?_ (λcap ad=>⟨rfl,⟨rfl,by simp⟩,⟨_,rfl⟩,by omega⟩) (by simp) ?_
   . simp
   obtain⟨L,r,rfl⟩:∃L r,l=L::r:=by
    cases l with
    |nil=>simp_all
    |cons a r=>simp_all
   apply pg;simp
   have e:List.take r.length (List.map (λn=>ints (bS f (aK f n))) r)=(r.map λn=>bS f (aK f n)).map ints:=by
    rw[ZB (by simp)]
    simp
   rw[e];have hlen:=zt H (aK f L);refine cf Tryz.func171 rfl (Ht (first:=bS f (aK f L)) (others:=r.map λn=>bS f (aK f n)) (by omega) (by grind) (λx hx=>?_) ?_)
   . obtain⟨n,_,rfl⟩:=YN.1 hx
     have:=zt H (aK f n);omega
   apply pg;simp;apply rn;simp;refine .less d.1 (.done ?_);simpa[fI]using h
theorem CN{f:Fr}(h:check f=0):gK f []=0:=by unfold gK;rw[YA (by simp[h])];rfl
theorem xi{f:Fr}{l:abe}(h:check f=0)(a:∀n∈l,0<=n/\n<f.aA.length):gK f l=0:=by
 unfold gK;rw[YA (by simp[h]),YG];rw[YE];intro n b;have:=a n b;simp[bE];omega
theorem vp.le{σ σ':ab}{b mb:Nat}(h:vp σ b mb σ'):σ.Le σ':=by rw[h.eq];exact ab.qR (ab.qR (ab.le_refl _) h.Br) (by rw[ab.ah _ _ h.ne];exact h.hb)
theorem A8{a n:Int}(b:0<=n)(h:KF (.val (u8 (bR a n))) σ):aB prog m 176 [u8 a,int n] σ KF:=by
 refine fs [] Tryz.func176 rfl (by kernel_rfl) ?_;simp[Tryz.f176];refine⟨b,?_⟩;simp[sE];exact .done h
theorem nX{l:abe}(o:l.length<1152921504606846976)(i:∀n∈l,0<=n)(h:KF (.val (u8 (aW l))) σ):aB prog m 174 [ints l] σ KF:=by
 refine fs [] Tryz.func174 rfl (by kernel_rfl) ?_;simp[Tryz.f174];refine aa.loop l.length (λk s=>∃env,s=⟨env,σ,[],.no⟩/\env 3=u8 (aW (l.take k))/\env 4=.fn (.func 176) [u8 (aW (l.take k))] []/\env 9=ints l/\env 10=int l.length/\env 11=int k) ⟨_,rfl,by simp[aW]⟩ ?_;rintro p k _ q ⟨env,rfl,c,d,f,a,b⟩ j;apply rn;simp[c,d,f,a,b];refine aI.intro (λg=>?_) (λg=>?_)<;>(try simp[-Int.not_lt,-Int.not_le,-Nat.not_lt,-Nat.not_le]at g)<;>(try simp[c,d,f,a,b,g])
 . have e:aW (l.take (k+1))=bR (aW (l.take k)) l[k]:=by
    unfold aW;rw[Yz g,Zq];rfl
   refine gy Tryz.func176 rfl rfl rfl (A8 (i _ (zD g)) ?_);rw[<-e];apply rn;simp[c,d,f,a,b];exact⟨by omega,j _ g ⟨_,rfl,by simp[c,d,f,a,b],by simp[c,d,f,a,b],by simp[c,d,f,a,b],by simp[c,d,f,a,b],by simp⟩⟩
 . have:k=l.length:=by omega
   subst this;rw[YZ];exact .done h
def A9(x:Int):Int:=CH x (Pk x 1)
def sG:Nat->Int->Int
 |0,x=>x
 |n+1,x=>A9 (sG n x)
def Hu:Nat->Int->Int
 |0,_=>0
 |n+1,x=>if x=0 then 0 else 1+Hu n (A9 x)
def bL(a b:Int):Int:=Hu 8 (xh a b)
theorem xj{a b:Int}(i:sG 8 (xh a b)=0)(h:KF (.val (int (bL a b))) σ):aB prog m 175 [u8 a,u8 b] σ KF:=by
 refine fs [] Tryz.func175 rfl (by kernel_rfl) ?_
 simp[Tryz.f175,Hq];refine aa.loop 8 (λk s=>∃env,s=⟨env,σ,[],.no⟩/\env 5=int k/\env 6=u8 (sG k (xh a b))/\bL a b=k+Hu (8-k) (sG k (xh a b))) ⟨_,rfl,by simp,by simp;rfl,by simp[sG,bL]⟩ ?_
 rintro n k _ o ⟨env,rfl,f,g,d⟩ j
 apply rn;simp[f,g];refine aI.intro (λc=>?_) (λc=>?_)<;>(try simp[-Int.not_lt,-Int.not_le,-Nat.not_lt,-Nat.not_le]at c)<;>(try simp[f,g,c])
 . have l:k<8:=by
    rcases Zb k 8 with q|q
    . exact q
    . have:k=8:=by omega
      subst this;exact absurd i c
   refine⟨by omega,?_⟩
   simp[f,g,tF,Hr];refine j _ l ⟨_,rfl,by simp,by simp[sG,A9],?_⟩
   have e:8-k=(8-(k+1))+1:=by omega
   rw[e,Hu,YA c]at d;rw[d];simp only[sG];omega
 . rw[c]at d
   have e:Hu (8-k) 0=0:=by cases 8-k<;>simp[Hu]
   rw[e]at d;rw[d]at h;exact .done (by simpa using h)
abbrev xk(x:Int):AV:=.agg [u8 x]
theorem N4{x n:Int}(e:0<=n)(h:KF (.val (xk (bR x n))) σ):aB prog m 106 [xk x,int n] σ KF:=by
 refine aB.start lay [2] Tv 2 Tryz.func106 rfl rfl (by rfl) (by kernel_rfl) ?_;simp[Tryz.f106];refine cz.intro λc f=>?_
 simp;refine cz.intro λd hd=>?_
 obtain⟨a,b,hd⟩:=ab.aP hd;simp[a,b,ab.ah,sE,e];refine aa.run lay [2] ?_;simp[a,b,ab.ah];exact .less (by repeat (first|exact ab.le_refl _|assumption|refine ab.fW ?_ (by assumption)|refine ab.nB ?_ (by assumption))) (.done h)
theorem Kz{x:Int}(h:KF (.val (ints (az x))) σ):aB prog m 129 [xk x] σ KF:=by
 refine fs [] Tryz.func129 rfl (by kernel_rfl) ?_
 simp[Tryz.f129];refine aa.loop 6 (λk s=>∃env b,s=⟨env,b,[],.no⟩/\env 1=.cp (xk x) 0/\env 5=int k/\Tok σ b (env 3) 1 ((((List.range k).map λn:Nat=>(n:Int)).filter λn=>fh x n).map int)) ⟨_,_,rfl,by simp,by simp,.nil σ 1⟩ ?_
 rintro o k _ p ⟨env,b,rfl,c,d,a⟩ g
 rcases Zb k 6 with g1|g1
 . have e:(k:Int)<6:=by omega
   have q:(((List.range k).map λn:Nat=>(n:Int)).filter λn=>fh x n).length<=k:=by refine YO (Zf _ _) ?_;rw[YV,ZI];exact YF _
   have i:(((List.range (k+1)).map λn:Nat=>(n:Int)).filter λn=>fh x n)=(((List.range k).map λn:Nat=>(n:Int)).filter λn=>fh x n)++if fh x k then[(k:Int)]else[]:=by rw[YT,YS,ZF];simp[List.filter_cons]
   apply rn;simp[c,d,e,tF];have j:fh x k=(CH (x.fdiv (2 ^ min k IntKind.u8.bits)) 1==1):=by simp[fh]
   rw[<-j];cases hb:fh x k
   . simp[c,d]
     refine⟨by omega,g _ g1 ⟨_,_,rfl,by simp[c,d],by simp,?_⟩⟩
     rw[i,hb];simpa using a
   . simp[c,d]
     refine aQ lay rfl rfl rfl eC rfl eC rfl uI (by decide) (by simp only[YV,Zh,ZG];omega) (σ0:=σ) (es:=(((List.range k).map λn:Nat=>(n:Int)).filter λn=>fh x n).map int) (xs:=[int k]) (by simpa using a) (.inr ⟨_,rfl⟩) λr l f=>?_
     apply rn;simp[c,d];refine⟨by omega,g _ g1 ⟨_,_,rfl,by simp[c,d],by simp,?_⟩⟩
     rw[i,hb];simpa using f
 . have:k=6:=by omega
   subst this;apply rn;simp[c,d];exact .qk a.W (.less a.1 (.done h))
def fJ(a b:Int):Int:=if 0<a/\a<b then 3 else if a=b then 1 else 2
theorem EJ{a b:Int}(h:KF (.val (int (fJ a b))) σ):aB prog m 37 [int a,int b] σ KF:=by
 unfold fJ at h;refine fs [] Tryz.func37 rfl (by kernel_rfl) ?_;simp[Tryz.f37];refine yi.intro (λd=>?_) (λd=>?_)<;>(try simp[-Int.not_lt,-Int.not_le,-Nat.not_lt,-Nat.not_le]at d)<;>(try simp[d]at h)<;>(try simp[d])<;>(try exact .done h)
 . refine aI.intro (λe=>?_) (λe=>?_)<;>(try simp[-Int.not_lt,-Int.not_le,-Nat.not_lt,-Nat.not_le]at e)<;>(try simp[e]at h)<;>(try simp[e])<;>(try exact .done h)
   . have:a≠b:=by omega
     refine aI.intro (λc=>?_) (λc=>?_)<;>(try simp[-Int.not_lt,-Int.not_le,-Nat.not_lt,-Nat.not_le]at c)<;>(try simp[c])
     . exact absurd c this
     . exact .done h
   . refine aI.intro (λc=>?_) (λc=>?_)<;>(try simp[-Int.not_lt,-Int.not_le,-Nat.not_lt,-Nat.not_le]at c)<;>(try simp[c]at h)<;>(try simp[c])<;>(try exact .done h)
 . refine aI.intro (λc=>?_) (λc=>?_)<;>(try simp[-Int.not_lt,-Int.not_le,-Nat.not_lt,-Nat.not_le]at c)<;>(try simp[c]at h)<;>(try simp[c])<;>(try exact .done h)
theorem Hv{l}(b:l≠[])(c:l.length<=1000000000)(h:∀a σ',cD σ σ' a 1 (l.map int)->KF (.val a) σ'):aB prog m 110 [ints l] σ KF:=by
 refine fs [] Tryz.func110 rfl (by kernel_rfl) ?_;simp[Tryz.f110];refine BB lay rfl eC rfl rfl (.inr (.inl ⟨rfl,by simp_all,rfl⟩)) (.inl ⟨rfl,rfl⟩) ?_;apply rn;simp;refine rJ lay rfl rfl rfl eC rfl eC rfl uI (by decide) (by simp;omega) (σ0:=σ) (es:=[]) (xs:=l.map int) (.empty σ 1) (.inl (.inr ⟨_,rfl⟩)) (by simp) λd σ' e=>?_
 apply rn;simp;exact .done (h _ _ (by simp_all))
def dZ(lt:Int->Int->Bool)(x:Int):abe->abe
 |[]=>[x]
 |y::r=>if lt x y then y::dZ lt x r else x::y::r
def ez(lt:Int->Int->Bool)(l:abe):abe:=l.foldl (λr x=>dZ lt x r) []
theorem CO  lt   x :∀r,(dZ lt x r).length=r.length+1
 |[]=>rfl
 |y::r=>by unfold dZ;split<;>simp[CO lt x r]
theorem kS  lt   l :(ez lt l).length=l.length:=by
 have key:∀(l r:abe),(l.foldl (λr x=>dZ lt x r) r).length=r.length+l.length:=by
  intro l;induction l with
  |nil=>intro r;rfl
  |cons a l b=>intro r;rw[Zr,b,CO];simp;omega
 rw[ez,key];simp
theorem CP  lt   x :∀  r   y ,y∈dZ lt x r↔y=x\/y∈r
 |[],y=>by simp[dZ]
 | z ::r,y=>by
   unfold dZ;split
   . rw[YQ,CP lt x r y,YQ]
     grind
   . simp
theorem tH  lt   l   y :y∈ez lt l↔y∈l:=by
 have key:∀(l r:abe),y∈l.foldl (λr x=>dZ lt x r) r↔y∈r\/y∈l:=by
  intro l;induction l with
  |nil=>grind
  | cons a l b=>
    intro r;rw[Zr,b,CP,YQ]
    grind
 rw[ez,key];simp
def CQ(m:Mo)(y:AV)(c:Int->Int->Int)(In:Int->Prop):Prop:=∀(a b:Int) (σ:ab) (KF:aaQ),In a->In b->KF (.val (int (c a b))) σ->cX prog m y [int a,int b] σ KF
theorem Vn{α:Type}{A B}{x y:α}{n}(a:A.length=n):(A++y::x::B)[n]?=some y/\(A++y::x::B)[n+1]?=some x/\((A++y::x::B).set n x).set (n+1) y=A++x::y::B/\((A++y::x::B).set (n+1) y).set n x=A++x::y::B:=by simp_all
theorem EK{y c In l b cap rest}(W:CQ m y c In)(J:∀x∈l,In x)(hl:l.length<=1000000)(hb:σ b=some (.cells (l.map int++rest)))
 (h:KF (.val (.cH [])) (σ.set b (.cells ((ez (λa b=>decide (c a b<0)) l).reverse.map int++rest)))):aB prog m 142 [.gq b 0 l.length cap,int 0,int l.length,y] σ KF:=by
 refine fs Ty Tryz.func142 rfl (by kernel_rfl) ?_
 simp[Tryz.f142];obtain⟨lt,D⟩:∃lt,lt=λa b=>decide (c a b<0):=⟨_,rfl⟩
 rw[<-D]at h;refine aa.loop l.length (λi s=>∃env g,s=⟨env,g,[],.no⟩/\env 0=.gq b 0 l.length cap/\env 1=int 0/\env 2=int l.length/\env 3=y/\env 8=int ((i:Int)+1)/\g=σ.set b (.cells ((ez lt (l.take (i+1))).reverse.map int++((l.drop (i+1)).map int++rest)))) ⟨_,_,rfl,by simp,by simp,by simp,by simp,by simp,?_⟩ ?_
 . have e:(ez lt (l.take 1)).reverse.map int++((l.drop 1).map int++rest)=l.map int++rest:=by
    cases l with
    |nil=>simp[ez]
    |cons a l=>simp[ez,dZ]
   rw[e]
   funext d
   by_cases q:d=b
   . simp_all
   . rw[ab.ah _ _ q]
 rintro c0 i _ hi ⟨env,g,rfl,t,u,v,E,w,j⟩ X
 rcases Zb (i+1) l.length with g1|g1
 . have Q:(i:Int)+1<l.length:=by omega
   obtain⟨S,M⟩:∃S,S=ez lt (l.take (i+1)):=⟨_,rfl⟩;have R:S.length=i+1:=by rw[M,kS,ZD];omega
   have T:∀x∈S,In x:=λx N=>J x (List.mem_of_mem_take ((tH lt _ x).1 (M ▸ N)))
   have F:ez lt (l.take (i+1+1))=dZ lt l[i+1] S:=by rw[M,ez,Yz g1,Zq];rfl
   obtain⟨x,N⟩:∃x,x=l[i+1]:=⟨_,rfl⟩;have K:In x:=J x (by simp_all)
   have U:l.drop (i+1)=x::l.drop (i+2):=by rw[N];exact Zg g1
   rw[<-M,U]at j;rw[<-N]at F;apply rn;simp[v,w,Q]
   refine aa.loop (i+1) (λk s=>∃env g r f,s=⟨env,g,[],.no⟩/\env 0=.gq b 0 l.length cap/\env 1=int 0/\env 2=int l.length/\env 3=y/\env 8=int ((i:Int)+1)/\env 9=int f.length/\S=r++f/\f.length+k=i+1/\dZ lt x S=r++dZ lt x f/\
    g=σ.set b (.cells ((f.reverse.map int)++int x::(r.reverse.map int++((l.drop (i+2)).map int++rest))))) ⟨_,_,[],S,rfl,by simp[t],by simp[u],by simp[v],by simp[E],by simp[w],by simp[R],rfl,by omega,rfl,by grind⟩ ?_
   clear t u v E w j
   rintro c1 k _ hk ⟨env,g,r,f,rfl,t,u,v,E,w,O,G,hlen,p,j⟩ V
   cases f with
   | nil=>
     simp only[ZG,ZP]at hlen;simp only[Zo]at G;subst G
     have o:g=σ.set b (.cells ((ez lt (l.take (i+1+1))).reverse.map int++((l.drop (i+1+1)).map int++rest))):=by rw[j,F,p];simp[dZ]
     apply rn;simp[u,O];refine⟨?_,?_⟩
     all_goals
      apply rn;simp[w];refine⟨by omega,X _ (by omega) ⟨_,_,rfl,?_,?_,?_,?_,?_,o⟩⟩<;>simp[t,u,v,E]
   | cons z f=>
     obtain⟨e1,e2,e3,e4⟩:=Vn (A:=f.reverse.map int) (B:=r.reverse.map int++((l.drop (i+2)).map int++rest)) (x:=int x) (y:=int z) (n:=f.length) (by simp)
     have C:g b=some (.cells (f.reverse.map int++int z::int x::(r.reverse.map int++((l.drop (i+2)).map int++rest)))):=by rw[j,ab.aj];simp
     have L:In z:=T z (by grind)
     have f1:(0:Int)<(f.length:Int)+1:=by omega
     have Y:(f.length:Int)+1<l.length:=by grind
     have Z:(f.length:Int)<l.length:=by omega
     have f4:(0:Int)<=(f.length:Int)+1:=by omega
     have f5:((f.length:Int)+1).toNat=f.length+1:=by omega
     have I:-9223372036854775808<=(f.length:Int)/\(f.length:Int)<=9223372036854775807:=by omega
     apply rn;simp[t,u,E,O,f1,Y,Z,f4,f5,I.1,I.2,C];refine⟨W _ _ _ _ K L ?_,W _ _ _ _ K L ?_⟩
     all_goals
      apply pg;simp;apply rn;simp
      by_cases P:c x z<0
      . have f7:f.length+1+1<=f.length+(r.length+(l.length-(i+2)+rest.length)+1+1):=by omega
        have f8:f.length+1<=f.length+(r.length+(l.length-(i+2)+rest.length)+1+1):=by omega
        have H:dZ lt x (z::f)=z::dZ lt x f:=by rw[D];simp[dZ,P]
        simp[t,O,P,f5,I.1,I.2,Y,Z,f4,C,f7,f8];apply rn;simp[O,I.1,I.2];refine V _ (by simp at hlen;omega) ⟨_,_,r++[z],f,rfl,by simp[t],by simp[u],by simp[v],by simp[E],by simp[w],by simp,by rw[G];simp,by simp at hlen;omega,by rw[p,H];simp,?_⟩
        rw[j];simp
      . have H:dZ lt x (z::f)=x::z::f:=by rw[D];simp[dZ,P]
        have o:g=σ.set b (.cells ((ez lt (l.take (i+1+1))).reverse.map int++((l.drop (i+1+1)).map int++rest))):=by rw[j,F,p,H];simp
        simp[w,P];refine⟨by omega,X _ (by omega) ⟨_,_,rfl,?_,?_,?_,?_,?_,o⟩⟩<;>simp[t,u,v,E]
 . have o:(ez lt (l.take (i+1))).reverse.map int++((l.drop (i+1)).map int++rest)=(ez lt l).reverse.map int++rest:=by
    rw[ZB (by omega),List.drop_of_length_le (by omega)];simp
   rw[o]at j;have g2:¬(i:Int)+1<l.length:=by omega
   apply rn;simp[v,w,g2];rw[j];exact .done h
theorem Ba{y c In l b cap rest}(q:CQ m y c In)(g:∀x∈l,In x)(w:l.length<20)(hb:σ b=some (.cells (l.map int++rest)))
 (h:KF (.val (.cH [])) (σ.set b (.cells ((ez (λa b=>decide (c a b<0)) l).reverse.map int++rest)))):aB prog m 130 [.gq b 0 l.length cap,int l.length,y] σ KF:=by
 refine fs [] Tryz.func130 rfl (by kernel_rfl) ?_;simp[Tryz.f130];have r:¬(20:Int)<=l.length:=by omega
 have t:¬(20:Int)<l.length:=by omega
 refine aa.loop 1 (λk s=>∃env,s=⟨env,σ,[],.no⟩/\env 0=.gq b 0 l.length cap/\env 1=int l.length/\env 2=y/\env 6=int 20/\env 7=int 0/\env 8=int 20) ⟨_,rfl,by simp⟩ ?_;rintro z k _ u ⟨env,rfl,j,e,n,f,o,p⟩ v;apply rn;simp[j,e,n,o,p,r];refine cf Tryz.func142 rfl (EK q g (by omega) hb ?_);apply rn;simp;refine aa.loop 1 (λk s=>∃env d,s=⟨env,d,[],.no⟩/\env 1=int l.length/\env 6=int 20/\d=σ.set b (.cells ((ez (λa b=>decide (c a b<0)) l).reverse.map int++rest))) ⟨_,_,rfl,by simp[e,f]⟩ ?_;clear j e n f o p;rintro A k _ u ⟨env,d,rfl,e,f,i⟩ v;apply rn;simp[e,f,t];rw[i];exact .done h
theorem sH{y c In l b cap rest}(e:CQ m y c In)(d:∀x∈l,In x)(f:l.length<20)(hb:σ b=some (.cells (l.map int++rest)))
 (h:KF (.val (.cH [])) (σ.set b (.cells ((ez (λa b=>decide (c a b<0)) l).reverse.map int++rest)))):aB prog m 111 [.gq b 0 l.length cap,y] σ KF:=by
 refine fs [] Tryz.func111 rfl (by kernel_rfl) ?_;simp[Tryz.f111];refine cf Tryz.func130 rfl (Ba e d f hb ?_);apply rn;simp;exact .done (by simpa using h)
theorem N5{y c In l}(r:CQ m y c In)(f:∀x∈l,In x)(s:l.length<20)(g:l≠[])(i:y.cells=[y]/\y.flat=true)(h:KF (.val (ints (ez (λa b=>decide (c a b<0)) l).reverse)) σ):aB prog m 72 [.agg [y],ints l] σ KF:=by
 refine fs [] Tryz.func72 rfl (by kernel_rfl) ?_;simp[Tryz.f72,i.2];refine cf Tryz.func110 rfl (Hv g (by omega) λa j k=>?_)
 obtain⟨b,cap,rest,rfl,n,o,v,p,q⟩:∃b cap rest,a=.gq b 0 (l.map int).length cap/\σ b=none/\(l.map int).length<=cap/\(∀e∈l.map int,e.cells.length=1)/\j b=some (.cells (flatten (l.map int)++rest))/\rest.length=(cap-(l.map int).length)*1:=by
  rcases k.2 with⟨e,_⟩|h
  . simp_all
  . exact h
 have d:∀l:abe,flatten (l.map int)=l.map int:=λl=>by
  induction l with
  |nil=>rfl
  |cons a l t=>simp[flatten_cons,AV.cells,t]
 rw[d]at p;rw[YV]at o q ⊢;apply rn;simp;refine cf Tryz.func111 rfl (sH r f s p ?_);apply rn;simp;refine cD.thaw (σ0:=σ) (kk:=1) (es:=(ez (λa b=>decide (c a b<0)) l).reverse.map int) ⟨ab.fW k.1 n,.inr ⟨b,cap,rest,?_,n,?_,λe u=>?_,?_,?_⟩⟩ h
 . simp[kS]
 . simpa[kS]using o
 . obtain⟨x,_,rfl⟩:=YN.1 u;rfl
 . rw[d];simp
 . simpa[kS]using q
def tJ(f:Fr)(a b:Int):Int:=AY (aK f a).hour (aK f b).hour
theorem N6{b mb f x y}(d:0<=x/\x<f.aA.length)(e:0<=y/\y<f.aA.length)(h:KF (.val (int (tJ f x y))) σ):aB prog m 70 [int x,int y,.cp (kH b mb f 0) 0] σ KF:=by
 have a:x.toNat<f.aA.length:=by omega
 have c:y.toNat<f.aA.length:=by omega
 have ex:aK f x=f.aA[x.toNat]:=by simp[aK,zA,a]
 have g:aK f y=f.aA[y.toNat]:=by simp[aK,zA,c]
 unfold tJ at h;rw[ex,g]at h;refine fs Vm Tryz.func70 rfl (by kernel_rfl) ?_;simp[Tryz.f70,a,c,d.1,e.1];refine cf Tryz.func71 rfl (EG ?_);apply pg;simp;apply rn;simp;exact .done h
theorem KA{b mb f}:CQ m (.fn (.func 70) [] [.cp (kH b mb f 0) 0]) (tJ f) (λn=>0<=n/\n<f.aA.length):=λx y σ KF a c h=>by refine gy Tryz.func70 rfl rfl rfl (N6 a c h)
structure M0(f:Fr)(l:abe):Prop where
 mem:∀n∈l,0<=n/\n<f.aA.length
 ne:l≠[]
 len:l.length<=1000000
def dN(f:Fr)(l:abe):Bool:=l.any λn=>decide ((aK f n).cP≠(aK f (l.getD 0 0)).cP)
theorem sI{f x}  h :aK f x=f.aA[x.toNat]:=by simp[aK,zA,h]
theorem EL{b mb f l}(u:M0 f l)(h:KF (.val (bool (dN f l))) σ):aB prog m 167 [.agg [],kH b mb f 0,ints l] σ KF:=by
 obtain⟨i,g,hlen⟩:=u;have a:0<l.length:=List.length_pos_iff.2 g;obtain⟨v,A⟩:=i _ (zD a);have j:l[0].toNat<f.aA.length:=by omega
 have w:l.getD 0 0=l[0]:=by simp_all
 unfold dN at h;rw[w]at h;refine fs Tz Tryz.func167 rfl (by kernel_rfl) ?_;simp[Tryz.f167];refine aa.loop l.length (λk s=>∃env,s=⟨env,σ,[],.no⟩/\env 1=kH b mb f 0/\env 2=ints l/\env 9=ints l/\env 10=int l.length/\env 11=int k/\∀n∈l.take k,(aK f n).cP=(aK f l[0]).cP) ⟨_,rfl,by simp⟩ ?_;rintro B k _ C ⟨env,rfl,o,p,q,c,d,e⟩ x;rcases Zb k l.length with g1|g1
 . obtain⟨y0,D⟩:=i _ (zD g1)
   have r:l[k].toNat<f.aA.length:=by omega
   have E:=sI r;have F:=sI j;apply rn;simp[o,p,q,c,d,g1,a,y0,r,v,j];apply rn;simp;by_cases t:f.aA[l[k].toNat].cP=f.aA[l[0].toNat].cP
   . simp[d,t]
     refine⟨by omega,x _ g1 ⟨_,rfl,by simp[o],by simp[p],by simp[q],by simp[c],by simp,λn y=>?_⟩⟩;rw[Yz g1,YH,lb]at y
     grind
   . have z:(f.aA[l[k].toNat].cP !=f.aA[l[0].toNat].cP)=true:=by simp[t]
     have:l.any (λn=>decide ((aK f n).cP≠(aK f l[0]).cP))=true:=Zc.2 ⟨_,zD g1,by simp_all⟩;rw[this]at h;simp[z];exact .done h
 . have:k=l.length:=by omega
   subst this;rw[YZ]at e;have:l.any (λn=>decide ((aK f n).cP≠(aK f l[0]).cP))=false:=by simp_all
   rw[this]at h;apply rn;simp[c,d];exact .done h
def cQ(f:Fr)(l:abe):Bool:=decide (fI f l=[])
theorem EM{b mb f l}(g:f.Good)(c:M0 f l)(h:KF (.val (bool (cQ f l))) σ):aB prog m 168 [.agg [],kH b mb f 0,ints l] σ KF:=by
 refine fs [] Tryz.func168 rfl (by kernel_rfl) ?_;simp[Tryz.f168];refine cf Tryz.func169 rfl (EI g c.ne c.len c.mem ?_);apply rn;simp;unfold cQ at h;cases d:fI f l with
 |nil=>rw[d]at h;exact .done h
 | cons a r=>
   rw[d]at h;have e:((r.length:Int)+1==0)=false:=by grind
   refine .done ?_;simpa[e]using h
def gi(f:Fr)(x y:Int):Bool:=decide ((aK f y).hour-(aK f x).hour<rd f.roads (aK f x).place.toNat (aK f y).place.toNat+f.cK*bL (aW (aK f x).marks) (aW (aK f y).marks))
def dp(f:Fr)(l:abe):Bool:=(List.range (l.length-1)).any λi=>gi f (l.getD i 0) (l.getD (i+1) 0)
theorem qa:∀{l p},sD p l=0->∀n∈l,0<=n/\n<=4
 |[],_,_,n,hn=>by simp at hn
 | a::l,p,h,n,hn=>by
   unfold sD at h;split at h
   . cases h
   next b=>
   split at h
   . cases h
   next c=>
   rcases YQ.1 hn with rfl|hn
   . simp[bE]at b;omega
   . exact qa h n hn
theorem Hw:∀a:Fin 32,∀n:Fin 5,0<=bR (a.val:Int) (n.val:Int)/\bR (a.val:Int) (n.val:Int)<32:=by decide
theorem jT{l}(h:∀n∈l,0<=n/\n<=4):0<=aW l/\aW l<32:=by
 have key:∀(l:abe) (a:Int),(∀n∈l,0<=n/\n<=4)->0<=a/\a<32->0<=l.foldl bR a/\l.foldl bR a<32:=by
  intro l;induction l with
  |nil=>simp_all
  | cons x l c=>
    intro a b e;rw[Zr];refine c _ (λn d=>b n (Zz _ d)) ?_;obtain⟨f,g⟩:=b x (aaq ..);have:=Hw ⟨a.toNat,by omega⟩ ⟨x.toNat,by omega⟩;have i:(a.toNat:Int)=a:=by omega
    have j:(x.toNat:Int)=x:=by omega
    simp_all
 exact key l 0 h (by omega)
theorem KB:∀a:Fin 32,∀b:Fin 32,sG 8 (xh (a.val:Int) (b.val:Int))=0/\0<=bL (a.val:Int) (b.val:Int)/\bL (a.val:Int) (b.val:Int)<=5:=by decide +kernel
theorem Gf{a b}(c:0<=a/\a<32)(hb:0<=b/\b<32):sG 8 (xh a b)=0/\0<=bL a b/\bL a b<=5:=by
 have:=KB ⟨a.toNat,by omega⟩ ⟨b.toNat,by omega⟩
 grind
theorem Fr.Good.row{f:Fr}(a:f.Good){i}(hi:i<f.roads.length):f.roads[i].length=f.roads.length/\∀x∈f.roads[i],0<=x/\x<=9:=by
 have h:=a.IK;unfold fC at h;split at h
 . cases h
 split at h
 . cases h
 split at h
 . omega
 next q=>
 obtain⟨b,c⟩:=kI (by simpa using q) _ (zD hi);exact⟨b,λx d=>dt (c x d)⟩
theorem EN{b mb f l}(j:f.Good)(Z:M0 f l)(h:KF (.val (bool (dp f l))) σ):aB prog m 173 [.agg [],kH b mb f 0,ints l] σ KF:=by
 obtain⟨S,a7,hlen⟩:=Z;have p:=j.cK;unfold dp at h;refine fs TC Tryz.func173 rfl (by kernel_rfl) ?_
 simp[Tryz.f173];refine aa.loop (l.length-1) (λk s=>∃env a,s=⟨env,a,[],.no⟩/\σ.Le a/\env 1=kH b mb f 0/\env 2=ints l/\env 7=int ((k:Int)+1)/\∀i<k,gi f (l.getD i 0) (l.getD (i+1) 0)=false) ⟨_,_,rfl,ab.le_refl _,by simp⟩ ?_
 rintro c0 k _ hk ⟨env,a,rfl,q,r,w,x,T⟩ U
 rcases Zb (k+1) l.length with g1|g1
 . have K:(k:Int)+1<l.length:=by omega
   have L:k<l.length:=by omega
   obtain⟨x0,x1⟩:=S _ (zD L);obtain⟨y0,y1⟩:=S _ (zD g1);have y:l[k].toNat<f.aA.length:=by omega
   have z:l[k+1].toNat<f.aA.length:=by omega
   have f1:-9223372036854775808<=(k:Int)/\(k:Int)<=9223372036854775807:=by omega
   have f2:((k:Int)+1).toNat=k+1:=by omega
   have f3:(0:Int)<=(k:Int)+1:=by omega
   obtain⟨A,C⟩:∃A,A=f.aA[l[k].toNat]:=⟨_,rfl⟩;obtain⟨B,D⟩:∃B,B=f.aA[l[k+1].toNat]:=⟨_,rfl⟩;have eA:=sI y;have V:=sI z;rw[<-C]at eA;rw[<-D]at V;have bA:=ov (j.sF A (by grind))
   have bB:=ov (j.sF B (by grind))
   apply rn;simp[r,w,x,K,L,g1,x0,y,y0,z,f1.1,f1.2,f2,f3,<-C,<-D];have e:=λ{c:Nat}(t:a c=none)=>q.none t
   have E:A.place.toNat<f.roads.length:=by omega
   obtain⟨r1,r2⟩:=j.row E;have F:B.place.toNat<f.roads[A.place.toNat].length:=by omega
   obtain⟨r3,r4⟩:=r2 _ (zD F);have M:rd f.roads A.place.toNat B.place.toNat=f.roads[A.place.toNat][B.place.toNat]:=m7 E F;have N:=qa bA.2.2.2.2.2;have O:=qa bB.2.2.2.2.2;have lA:=jT N;have lB:=jT O;obtain⟨W,P,X⟩:=Gf lA lB;obtain⟨ch,g⟩:∃ch,ch=bL (aW A.marks) (aW B.marks):=⟨_,rfl⟩;rw[<-g]at P X
   have hmul:0<=f.cK*ch/\f.cK*ch<=30:=by
    constructor
    . exact Int.mul_nonneg (by omega) P
    . calc f.cK*ch<=6*5:=Int.mul_le_mul p.2 X P (by omega)
       _=30:=by rfl
   have Y:gi f l[k] l[k+1]=decide (B.hour-A.hour<f.roads[A.place.toNat][B.place.toNat]+f.cK*ch):=by unfold gi;rw[eA,V,M,g]
   have a8:l.getD k 0=l[k]:=by simp[zA,L]
   have a9:l.getD (k+1) 0=l[k+1]:=by simp[zA,g1]
   have G:-9223372036854775808<=B.hour-A.hour/\B.hour-A.hour<=9223372036854775807:=by omega
   have H:-9223372036854775808<=f.cK*ch/\f.cK*ch<=9223372036854775807:=by omega
   have I:-9223372036854775808<=f.roads[A.place.toNat][B.place.toNat]+f.cK*ch/\f.roads[A.place.toNat][B.place.toNat]+f.cK*ch<=9223372036854775807:=by omega
   refine⟨rO.intro λc t=>?_,rO.intro λc t=>?_⟩
   . simp
     refine rO.intro λd hd=>?_
     obtain⟨J,u,hd⟩:=ab.aP hd;have Q:=e t;have R:=e hd;simp[J,u,ab.ah];refine aa.bu 8 (b:=c) (ba A) (by simp[u,ab.ah]) (by simp) rfl ?_
     refine aa.bu 9 (b:=d) (ba B) (by simp[J,ab.del]) (by simp) rfl ?_
     apply rn;simp[r,G.1,G.2,E,F];refine⟨by omega,by omega,?_⟩
     refine cf Tryz.func174 rfl (nX (by have:=j.fits.marks A (by rw[C];exact zD y);omega) (λn o=>(N n o).1) ?_)
     apply pg;simp;refine cf Tryz.func174 rfl (nX (by have:=j.fits.marks B (by rw[D];exact zD z);omega) (λn o=>(O n o).1) ?_)
     apply pg;simp;refine cf Tryz.func175 rfl (xj W ?_);rw[<-g];apply pg;simp[H.1,H.2,I.1,I.2];apply rn;simp
     by_cases v:B.hour-A.hour<f.roads[A.place.toNat][B.place.toNat]+f.cK*ch
     . simp[v]
       have:(List.range (l.length-1)).any (λi=>gi f (l.getD i 0) (l.getD (i+1) 0))=true:=Zc.2 ⟨k,YB.2 (by omega),by grind⟩
       rw[this]at h;exact .less (by repeat (first|exact ab.le_refl _|assumption|refine ab.fW ?_ (by assumption)|refine ab.nB ?_ (by assumption))) (.done h)
     . simp[x,v]
       refine⟨by omega,U _ (by omega) ⟨_,_,rfl,(by repeat (first|exact ab.le_refl _|assumption|refine ab.fW ?_ (by assumption)|refine ab.nB ?_ (by assumption))),by simp[r],by simp[w],by simp,λi hi=>?_⟩⟩
       grind
   . simp
     refine rO.intro λd hd=>?_
     obtain⟨J,u,hd⟩:=ab.aP hd;have Q:=e t;have R:=e hd;simp[u,ab.ah];refine aa.bu 8 (b:=d) (ba A) (by simp[J,ab.ah]) (by simp) rfl ?_
     refine aa.bu 9 (b:=c) (ba B) (by simp[u,ab.del]) (by simp) rfl ?_
     apply rn;simp[r,G.1,G.2,E,F];refine⟨by omega,by omega,?_⟩
     refine cf Tryz.func174 rfl (nX (by have:=j.fits.marks A (by rw[C];exact zD y);omega) (λn o=>(N n o).1) ?_)
     apply pg;simp;refine cf Tryz.func174 rfl (nX (by have:=j.fits.marks B (by rw[D];exact zD z);omega) (λn o=>(O n o).1) ?_)
     apply pg;simp;refine cf Tryz.func175 rfl (xj W ?_);rw[<-g];apply pg;simp[H.1,H.2,I.1,I.2];apply rn;simp
     by_cases v:B.hour-A.hour<f.roads[A.place.toNat][B.place.toNat]+f.cK*ch
     . simp[v]
       have:(List.range (l.length-1)).any (λi=>gi f (l.getD i 0) (l.getD (i+1) 0))=true:=Zc.2 ⟨k,YB.2 (by omega),by grind⟩
       rw[this]at h;exact .less (by repeat (first|exact ab.le_refl _|assumption|refine ab.fW ?_ (by assumption)|refine ab.nB ?_ (by assumption))) (.done h)
     . simp[x,v]
       refine⟨by omega,U _ (by omega) ⟨_,_,rfl,(by repeat (first|exact ab.le_refl _|assumption|refine ab.fW ?_ (by assumption)|refine ab.nB ?_ (by assumption))),by simp[r],by simp[w],by simp,λi hi=>?_⟩⟩
       grind
 . have g2:¬(k:Int)+1<l.length:=by omega
   have:(List.range (l.length-1)).any (λi=>gi f (l.getD i 0) (l.getD (i+1) 0))=false:=by grind
   rw[this]at h;apply rn;simp[w,x,g2];exact .less q (.done h)
theorem TF:(((prog.info? 157).bind λi=>i.methods.find? (·.name==  "palfrey/mark.breaks")).map λmt=>(mt.path,mt.func))=some (#[],some (167,false)):=by kernel_rfl
theorem TG:(((prog.info? 158).bind λi=>i.methods.find? (·.name==  "palfrey/mark.breaks")).map λmt=>(mt.path,mt.func))=some (#[],some (168,false)):=by kernel_rfl
theorem TH:(((prog.info? 159).bind λi=>i.methods.find? (·.name==  "palfrey/mark.breaks")).map λmt=>(mt.path,mt.func))=some (#[],some (173,false)):=by kernel_rfl
theorem Qg{a}:nC prog 157  "palfrey/mark.breaks" 167 a a:=by obtain⟨mt,b,e⟩:=YI.1 TF;obtain⟨info,c,d⟩:=ZY.1 b;obtain⟨f,g⟩:=Prod.mk.inj e;exact qY lay Tn c d (by rw[f]) g rfl
theorem Qh{a}:nC prog 158  "palfrey/mark.breaks" 168 a a:=by obtain⟨mt,b,e⟩:=YI.1 TG;obtain⟨info,c,d⟩:=ZY.1 b;obtain⟨f,g⟩:=Prod.mk.inj e;exact qY lay Tp c d (by rw[f]) g rfl
theorem Qi{a}:nC prog 159  "palfrey/mark.breaks" 173 a a:=by obtain⟨mt,b,e⟩:=YI.1 TH;obtain⟨info,c,d⟩:=ZY.1 b;obtain⟨f,g⟩:=Prod.mk.inj e;exact qY lay Tq c d (by rw[f]) g rfl
def aY(f:Fr)(l:abe):abe:=(ez (λa b=>decide (tJ f a b<0)) l).reverse
def jU(f:Fr)(l:abe):Int:=if dN f (aY f l)then 1 else if cQ f (aY f l)then 2 else if dp f (aY f l)then 3 else 0
abbrev TJ(n:Int):AV:=if n=1 then .kz 157 (.agg [])else if n=2 then .kz 158 (.agg [])else if n=3 then .kz 159 (.agg [])else .lit .nilIface
theorem M0.sort{f l}(h:M0 f l):M0 f (aY f l):=
 ⟨fun n a=>h.mem n ((tH _ _ _).1 (by simpa[aY]using a)),λe=>h.ne (by
   have:(aY f l).length=l.length:=by simp[aY,kS]
   grind),by simp[aY,kS,h.len]⟩
theorem KC{b mb f l}(y:f.Good)(v:M0 f l)(d:l.length<20)(h:KF (.val (TJ (jU f l))) σ):aB prog m 44 [kH b mb f 0,ints l] σ KF:=by
 have t:=v.sort;refine fs [] Tryz.func44 rfl (by kernel_rfl) ?_;simp[Tryz.f44];refine cz.intro λc B=>?_
 simp;refine cf Tryz.func72 rfl (N5 KA v.mem d v.ne ⟨rfl,rfl⟩ ?_);obtain⟨S,z⟩:∃S,S=(ez (λa b=>decide (tJ f a b<0)) l).reverse:=⟨_,rfl⟩;have r:aY f l=S:=z.symm;rw[r]at t;unfold jU at h;rw[r]at h;rw[<-z];apply rn;simp;refine aa.loop 3 (λk s=>∃env j,s=⟨env,j,[],.no⟩/\σ.Le j/\env 1=ints S/\env 2=.cp (kH b mb f 0) 0/\env 19=.sl 1 [.kz 157 (.agg []),.kz 158 (.agg []),.kz 159 (.agg [])] .exact/\env 20=int 3/\env 21=int k/\(1<=k->dN f S=false)/\(2<=k->cQ f S=false)/\(3<=k->dp f S=false)) ⟨_,_,rfl,ab.qR (ab.le_refl _) B,by simp⟩ ?_;rintro E k _ F ⟨env,j,rfl,e,o,p,i,d,g,w,A,C⟩ x;obtain rfl|rfl|rfl|rfl:k=0\/k=1\/k=2\/k=3:=by omega
 . apply rn
   simp[o,p,i,d,g];refine aa.invoke rfl rfl rfl (by simp) rfl Qg Tryz.func167 rfl rfl ?_;refine EL t ?_;apply rn;simp;cases hb:dN f S
   . simp[g]
     refine x _ (by omega) ⟨_,_,rfl,e,?_,?_,?_,?_,?_,λ_=>hb,λq=>(by omega),λq=>(by omega)⟩<;>simp[o,p,i,d]
   . simp
     simp[hb]at h;exact .less e (.done h)
 . have n:=w (by omega)
   apply rn;simp[o,p,i,d,g];refine aa.invoke rfl rfl rfl (by simp) rfl Qh Tryz.func168 rfl rfl ?_;refine EM y t ?_;apply rn;simp;cases hb:cQ f S
   . simp[g]
     refine x _ (by omega) ⟨_,_,rfl,e,?_,?_,?_,?_,?_,λ_=>n,λ_=>hb,λq=>(by omega)⟩<;>simp[o,p,i,d]
   . simp
     simp[hb,n]at h;exact .less e (.done h)
 . have n:=w (by omega)
   have u:=A (by omega);apply rn;simp[o,p,i,d,g];refine aa.invoke rfl rfl rfl (by simp) rfl Qi Tryz.func173 rfl rfl ?_;refine EN y t ?_;apply rn;simp;cases hb:dp f S
   . simp[g]
     refine x _ (by omega) ⟨_,_,rfl,e,?_,?_,?_,?_,?_,λ_=>n,λ_=>u,λ_=>hb⟩<;>simp[o,p,i,d]
   . simp
     simp[hb,n,u]at h;exact .less e (.done h)
 . have n:=w (by omega)
   have u:=A (by omega);have D:=C (by omega);simp[n,u,D]at h;apply rn;simp[d,g];exact .less e (.done h)
end
open Go Go.cr
abbrev nn:BV:=⟨56,57,90,91,123,125,77,78,92,76,122,124,133,134,136,137,139,221,176,21⟩
theorem KG:∀(a:Fl) b o kind,aM prog a [0,5] (LD prog nn b o kind) un=some (ti prog nn b o kind):=by intro a b o kind;kernel_rfl
theorem KH:∀(a:Fl) b o kind,aM prog a [0] (ti prog nn b o kind) tt=some (OV prog nn b o kind):=by intro a b o kind;kernel_rfl
theorem KI:∀(a:Fl) b o kind,aM prog a [0,2,3,4,5,12] (ti prog nn b o kind) ff=some (Ub prog nn b o kind):=by intro a b o kind;kernel_rfl
theorem KJ:∀(a:Fl) b o kind,aM prog a [8] (OV prog nn b o kind) un=some (Rc prog nn b o kind):=by intro a b o kind;kernel_rfl
theorem KL:∀(a:Fl) b o kind,aM prog a [9] (Rc prog nn b o kind) (pt b o)=some (OW prog nn b o kind):=by intro a b o kind;kernel_rfl
theorem KM:∀(a:Fl) b o kind,aM prog a [] (OW prog nn b o kind) un=some (BK nn kind):=by intro a b o kind;kernel_rfl
theorem Hx:∀(a:Fl) b o kind L K S aw sv it,oZ prog a [0,2,3,4,5,6] (PR prog nn b o kind aw sv it) (.word L K S 0)=some (HD prog nn b o kind L K S aw sv it):=by intro a b o kind L K S aw sv it;kernel_rfl
theorem Hy:∀(a:Fl) b o kind L K S aw sv it,oZ prog a [0,2,3,4,5,6] (FC prog nn b o kind aw sv it) (.word L K S 0)=some (HD prog nn b o kind L K S aw sv it):=by intro a b o kind L K S aw sv it;kernel_rfl
theorem Hz:∀(a:Fl) b o kind L K S aw sv it,oZ prog a [0,2,3,4,5,6] (PS prog nn b o kind aw sv it) (.word L K S 0)=some (HD prog nn b o kind L K S aw sv it):=by intro a b o kind L K S aw sv it;kernel_rfl
theorem KN:∀(a:Fl) b o kind K aw sv it,Sa prog a [0,2,3,4,5,6,17,18] (HD prog nn b o kind true K false aw sv it)=SQ prog nn b o kind K aw sv it:=by intro a b o kind K aw sv it;cases K<;>cases aw<;>cases sv<;>kernel_rfl
theorem KO:∀(a:Fl) b o kind L K S aw sv it,(L && !S)=false->(aw && !K)=false->Sa prog a [0,2,3,4,5,6,77,78,79] (HD prog nn b o kind L K S aw sv it)=BX prog nn b o kind L K S aw sv it:=by intro a b o kind L K S aw sv it c d;cases L<;>cases K<;>cases S<;>cases aw<;>cases sv<;>first|exact absurd c (by decide)|exact absurd d (by decide)|kernel_rfl
theorem HA:∀(a:Fl) b o kind it,aM prog {a with n0:=false} [0,2,3,4,5,33,36,37,39] (SQ prog nn b o kind false false false it) tt=some (SW prog nn b o kind it):=by intro a b o kind it;kernel_rfl
theorem EO:∀(a:Fl) b o kind n0 K aw sv it,(!aw && !K && !n0)=false->aM prog {a with n0:=n0} [0,2,3,4,5] (SQ prog nn b o kind K aw sv it) tt=some (DS prog nn b o kind aw sv it):=by intro a b o kind n0 K aw sv it h;cases n0<;>cases K<;>cases aw<;>cases sv<;>first|exact absurd h (by decide)|kernel_rfl
theorem HB:∀(a:Fl) b o kind K aw sv it,(aw && !K)=false->aM prog a [0,2,3,4,5,6,77,78,79] (SQ prog nn b o kind K aw sv it) ff=some (BX prog nn b o kind true K false aw sv it):=by intro a b o kind K aw sv it h;cases K<;>cases aw<;>cases sv<;>first|exact absurd h (by decide)|kernel_rfl
theorem HC:∀(a:Fl) b o kind r it,aM prog a [0,2,3,4,5] (SW prog nn b o kind it) (bl r)=some (DS prog nn b o kind r false it):=by intro a b o kind r it;cases r<;>kernel_rfl
theorem EP:∀(a:Fl) b o kind aw sv,aM prog a [0,2,3,4,5,47] (DS prog nn b o kind aw sv 0) un=some (FC prog nn b o kind aw sv 1):=by intro a b o kind aw sv;kernel_rfl
theorem ER:∀(a:Fl) b o kind aw sv,aM prog a [0,2,3,4,5,47] (DS prog nn b o kind aw sv 1) un=some (FC prog nn b o kind aw sv 2):=by intro a b o kind aw sv;kernel_rfl
theorem ES:∀(a:Fl) b o kind aw sv,aM prog a [0,2,3,4,5,47] (DS prog nn b o kind aw sv 2) un=some (FC prog nn b o kind aw sv 3):=by intro a b o kind aw sv;kernel_rfl
theorem ET:∀(a:Fl) b o kind aw sv,aM prog a [0,2,3,4,5,47] (DS prog nn b o kind aw sv 3) un=some (FC prog nn b o kind aw sv 4):=by intro a b o kind aw sv;kernel_rfl
theorem HE:∀(a:Fl) b o kind K aw sv it,aM prog a [0] (BX prog nn b o kind false K false aw sv it) tt=some (MR prog nn b o kind):=by intro a b o kind K aw sv it;cases K<;>kernel_rfl
theorem EU:∀(a:Fl) b o kind L K S aw sv it,(L||S)=true->aM prog {a with wz:=true} [0,3] (BX prog nn b o kind L K S aw sv it) tt=some (T1 prog nn b o kind sv):=by intro a b o kind L K S aw sv it h;cases L<;>cases K<;>cases S<;>first|exact absurd h (by decide)|kernel_rfl
theorem EV:∀(a:Fl) b o kind L K S aw sv it,(L||S)=true->aM prog {a with wz:=false} [0,2,3,91] (BX prog nn b o kind L K S aw sv it) tt=some (PK prog nn b o kind sv):=by intro a b o kind L K S aw sv it h;cases L<;>cases K<;>cases S<;>first|exact absurd h (by decide)|kernel_rfl
theorem HF:∀(a:Fl) b o kind L K S aw sv it,aM prog a [0,2,3,4,5,133] (BX prog nn b o kind L K S aw sv it) ff=some (PS prog nn b o kind aw sv it):=by intro a b o kind L K S aw sv it;kernel_rfl
theorem HG:∀(a:Fl) b o kind sv,aM prog a [0,2,3,91] (T1 prog nn b o kind sv) .GJ=some (PK prog nn b o kind sv):=by intro a b o kind sv;kernel_rfl
theorem EW:∀(a:Fl) b o kind,aM prog a [0,2,3,103] (PK prog nn b o kind true) un=some (UP prog nn b o kind true):=by intro a b o kind;kernel_rfl
theorem EX:∀(a:Fl) b o kind,aM prog a [0,2,95] (PK prog nn b o kind false) un=some (TQ prog nn b o kind):=by intro a b o kind;kernel_rfl
theorem HH:∀(a:Fl) b o kind x,aM prog {a with tb:=x} [0,2,3,103] (TQ prog nn b o kind) .now=some (UP prog nn b o kind x):=by intro a b o kind x;cases x<;>kernel_rfl
theorem HI:∀(a:Fl) b o kind sv n1,aM prog {a with n0:=false,n1:=n1} [0,128,129] (UP prog nn b o kind sv) (.word false false true 0)=some (AD prog nn b o kind (if !sv||n1 then -11 else -7)):=by intro a b o kind sv n1;cases sv<;>cases n1<;>kernel_rfl
theorem HJ:∀(a:Fl) b o kind L K sv,oZ prog a [0,2,3,4,5,6] (UP prog nn b o kind sv) (.word L K false 0)=some (HD prog nn b o kind L K false true sv 0):=by intro a b o kind L K sv;cases L<;>cases K<;>kernel_rfl
theorem HK:∀(a:Fl) b o kind d,aM prog a [0] (AD prog nn b o kind d) .cu=some (MR prog nn b o kind):=by intro a b o kind d;kernel_rfl
theorem HL:∀(a:Fl) b o kind,aM prog a [136] (MR prog nn b o kind) un=some (Rd prog nn b o kind):=by intro a b o kind;kernel_rfl
theorem HM:∀(a:Fl) b o kind,aM prog a [137] (Rd prog nn b o kind) (pt b o)=some (OY prog nn b o kind):=by intro a b o kind;kernel_rfl
theorem HN:∀(a:Fl) b o kind,aM prog a [] (OY prog nn b o kind) un=some (BK nn kind):=by intro a b o kind;kernel_rfl
theorem KP:∀(a:Fl) b o kind,aM prog a [0,7] (U0 prog nn b o kind) .cu=some (Re prog nn b o kind):=by intro a b o kind;kernel_rfl
theorem KQ:∀(a:Fl) b o kind,aM prog a [0,8] (Re prog nn b o kind) (pt b o)=some (UR prog nn b o kind):=by intro a b o kind;kernel_rfl
theorem KR:∀(a:Fl) b o kind,aM prog a [0] (UR prog nn b o kind) un=some (UD prog nn b o kind):=by intro a b o kind;kernel_rfl
theorem KS:∀(a:Fl) b o kind,aM prog a [0,13] (UD prog nn b o kind) un=some (qT prog nn b o kind):=by intro a b o kind;kernel_rfl
theorem KT:∀(a:Fl) b o kind n0 K,(n0||K)=true->aM prog {a with n0:=n0} [] (qT prog nn b o kind) (.word false K false 0)=some (UE prog nn b o kind):=by intro a b o kind n0 K h;cases n0<;>cases K<;>first|exact absurd h (by decide)|kernel_rfl
theorem HO:∀(a:Fl) b o kind n0 K,aM prog {a with n0:=n0} [41] (qT prog nn b o kind) (.word false K true 0)=some (G9 prog nn b o kind):=by intro a b o kind n0 K;cases n0<;>cases K<;>kernel_rfl
theorem HP:∀(a:Fl) b o kind,aM prog {a with n0:=false} [0,27,28,29] (qT prog nn b o kind) (.word false false false 0)=some (UC prog nn b o kind):=by intro a b o kind;kernel_rfl
theorem HQ:∀(a:Fl) b o kind,aM prog a [33] (UC prog nn b o kind) tt=some (G7 prog nn b o kind):=by intro a b o kind;kernel_rfl
theorem HR:∀(a:Fl) b o kind,aM prog a [0,37] (UC prog nn b o kind) ff=some (MT prog nn b o kind):=by intro a b o kind;kernel_rfl
theorem KU:∀(a:Fl) b o kind n0 L K S,(n0||L||K||S)=true->aM prog {a with n0:=n0} [] (MT prog nn b o kind) (.word L K S 0)=some (UE prog nn b o kind):=by intro a b o kind n0 L K S h;cases n0<;>cases L<;>cases K<;>cases S<;>first|exact absurd h (by decide)|kernel_rfl
theorem HS:∀(a:Fl) b o kind,aM prog {a with n0:=false} [0,27,28,29] (MT prog nn b o kind) (.word false false false 0)=some (UC prog nn b o kind):=by intro a b o kind;kernel_rfl
theorem KV:∀(a:Fl) b o kind,aM prog a [] (G7 prog nn b o kind) un=some (UE prog nn b o kind):=by intro a b o kind;kernel_rfl
theorem KW:∀(a:Fl) b o kind,aM prog a [] (G9 prog nn b o kind) un=some (UE prog nn b o kind):=by intro a b o kind;kernel_rfl
theorem HT:∀(a:Fl) b o kind,aM prog a [] (UE prog nn b o kind) un=some (Sj nn kind):=by intro a b o kind;kernel_rfl
theorem KX:∀b o kind,aZ (LD prog nn b o kind).1=some (nn.jb,[])/\(LD prog nn b o kind).1.kind=.normal:=by intro b o kind;exact⟨by kernel_rfl,by kernel_rfl⟩
theorem KY:∀b o kind,aZ (ti prog nn b o kind).1=some (nn.jX,[pt b o,i32 0,i32 1]):=by intro b o kind;kernel_rfl
theorem KZ:∀b o kind,aZ (OV prog nn b o kind).1=some (nn.en,[]):=by intro b o kind;kernel_rfl
theorem K0:∀b o kind,j7 (Rc prog nn b o kind).1=some (nn.tM,nn.tU,pt b o):=by intro b o kind;kernel_rfl
theorem K1:∀b o kind,aZ (OW prog nn b o kind).1=some (nn.acq,[pt b o]):=by intro b o kind;kernel_rfl
theorem HU:∀b o kind aw sv it,qm (PR prog nn b o kind aw sv it).1=some (nn.tI,pt b o):=by intro b o kind aw sv it;kernel_rfl
theorem HV:∀b o kind aw sv it,qm (FC prog nn b o kind aw sv it).1=some (nn.tI,pt b o):=by intro b o kind aw sv it;kernel_rfl
theorem HW:∀b o kind aw sv it,qm (PS prog nn b o kind aw sv it).1=some (nn.tI,pt b o):=by intro b o kind aw sv it;kernel_rfl
theorem K2:∀b o kind K aw sv it,aZ (SQ prog nn b o kind K aw sv it).1=some (nn.GL,[i64 it]):=by intro b o kind K aw sv it;kernel_rfl
theorem K3:∀b o kind it,aZ (SW prog nn b o kind it).1=some (nn.jX,[pt b o,.word true false false 0,.word true true false 0]):=by intro b o kind it;kernel_rfl
theorem K4:∀b o kind aw sv it,aZ (DS prog nn b o kind aw sv it).1=some (nn.th,[]):=by intro b o kind aw sv it;kernel_rfl
theorem HX:∀b o kind L K S aw sv it,aZ (BX prog nn b o kind L K S aw sv it).1=some (nn.jX,[pt b o,.word L K S 0,Nl L K S aw sv]):=by intro b o kind L K S aw sv it;kernel_rfl
theorem HY:∀b o kind sv,aZ (T1 prog nn b o kind sv).1=some (nn.nano,[]):=by intro b o kind sv;kernel_rfl
theorem HZ:∀b o kind sv,aZ (PK prog nn b o kind sv).1=some (nn.DX,[pt b (o+1),.cu,i64 2]):=by intro b o kind sv;kernel_rfl
theorem H2:∀b o kind,aZ (TQ prog nn b o kind).1=some (nn.nano,[]):=by intro b o kind;kernel_rfl
theorem H3:∀b o kind sv,qm (UP prog nn b o kind sv).1=some (nn.tI,pt b o):=by intro b o kind sv;kernel_rfl
theorem H4:∀b o kind d,aZ (AD prog nn b o kind d).1=some (nn.add,[pt b o,i32 d]):=by intro b o kind d;kernel_rfl
theorem H5:∀b o kind,aZ (MR prog nn b o kind).1=some (nn.en,[]):=by intro b o kind;kernel_rfl
theorem H6:∀b o kind,j7 (Rd prog nn b o kind).1=some (nn.tM,nn.tU,pt b o):=by intro b o kind;kernel_rfl
theorem H7:∀b o kind,aZ (OY prog nn b o kind).1=some (nn.acq,[pt b o]):=by intro b o kind;kernel_rfl
theorem H8:∀b o kind,qm (U0 prog nn b o kind).1=some (nn.tI,pt b o)/\(U0 prog nn b o kind).1.kind=.normal/\(U0 prog nn b o kind).1.fn=nn.ve:=by intro b o kind;exact⟨by kernel_rfl,by kernel_rfl,by kernel_rfl⟩
theorem H9:∀b o kind,j7 (Re prog nn b o kind).1=some (nn.tM,nn.tU,pt b o):=by intro b o kind;kernel_rfl
theorem Ia:∀b o kind,aZ (UR prog nn b o kind).1=some (nn.rel,[pt b o]):=by intro b o kind;kernel_rfl
theorem Ib:∀b o kind,aZ (UD prog nn b o kind).1=some (nn.jb,[]):=by intro b o kind;kernel_rfl
theorem Ic:∀b o kind,aZ (qT prog nn b o kind).1=some (nn.add,[pt b o,i32 (-1)]):=by intro b o kind;kernel_rfl
theorem Ie:∀b o kind,aZ (UC prog nn b o kind).1=some (nn.jX,[pt b o,wf,.word false true false (-1)]):=by intro b o kind;kernel_rfl
theorem Ig:∀b o kind,aZ (G7 prog nn b o kind).1=some (nn.nG,[pt b (o+1),ff,i64 2]):=by intro b o kind;kernel_rfl
theorem Ih:∀b o kind,aZ (G9 prog nn b o kind).1=some (nn.nG,[pt b (o+1),tt,i64 2]):=by intro b o kind;kernel_rfl
theorem Ii:∀b o kind,qm (MT prog nn b o kind).1=some (nn.tI,pt b o):=by intro b o kind;kernel_rfl
theorem Ij:∀b o kind,aZ (UE prog nn b o kind).1=some (nn.en,[]):=by intro b o kind;kernel_rfl
theorem K5:∀b o kind,(Sf prog nn b o kind).all (·.env.all plain)=true/\(LD prog nn b o kind).1.env.all plain=true/\(LD prog nn b o kind).2=Sf prog nn b o kind:=by intro b o kind;exact⟨by kernel_rfl,by kernel_rfl,by kernel_rfl⟩
theorem K6:∀b o kind,(Ua prog nn b o kind).all (·.env.all plain)=true:=by intro b o kind;kernel_rfl
theorem K7:∀b o kind,(Si prog nn b o kind).all (·.env.all plain)=true/\(U0 prog nn b o kind).1.env.all plain=true/\(U0 prog nn b o kind).2=Si prog nn b o kind:=by intro b o kind;exact⟨by kernel_rfl,by kernel_rfl,by kernel_rfl⟩
theorem K8:∀b o kind,(Uy prog nn b o kind).all (·.env.all plain)=true:=by intro b o kind;kernel_rfl
theorem zu:fQ prog nn where
 e1:=KG
 e2:=KH
 e3:=KI
 e4:=KJ
 e5:=KL
 e6:=KM
 VI:=Hx
 PT:=Hy
 VJ:=Hz
 e8:=KN
 e9:=KO
 bc:=HA
 Sk:=EO
 aX:=HB
 bO:=HC
 DZ:=EP
 D5:=ER
 Sl:=ES
 Sm:=ET
 wo:=HE
 Sn:=EU
 So:=EV
 ju:=HF
 iR:=HG
 Sp:=EW
 Sq:=EX
 MU:=HH
 Sr:=HI
 Rf:=HJ
 OZ:=HK
 Jv:=HL
 IJ:=HM
 vf:=HN
 u1:=KP
 u2:=KQ
 u3:=KR
 u4:=KS
 u5:=KT
 VK:=HO
 VL:=HP
 VM:=HQ
 VN:=HR
 u7:=KU
 VO:=HS
 u8:=KV
 u9:=KW
 VP:=HT
 o1:=KX
 o2:=KY
 o3:=KZ
 o4:=K0
 o5:=K1
 VQ:=HU
 VR:=HV
 VS:=HW
 o7:=K2
 o8:=K3
 o9:=K4
 Uz:=HX
 VT:=HY
 UA:=HZ
 VU:=H2
 VV:=H3
 VW:=H4
 VX:=H5
 VY:=H6
 VZ:=H7
 UB:=H8
 V0:=H9
 V1:=Ia
 V2:=Ib
 UF:=Ic
 UG:=Ie
 UH:=Ig
 UI:=Ih
 V3:=Ii
 V4:=Ij
 p1:=K5
 p2:=K6
 p3:=K7
 p4:=K8
theorem zv:fR prog nn where
 jb:=⟨_,rfl,rfl,rfl,rfl,rfl⟩
 en:=⟨_,rfl,rfl,rfl,rfl,rfl⟩
 acq:=⟨_,rfl,rfl,rfl,rfl,rfl⟩
 rel:=⟨_,rfl,rfl,rfl,rfl,rfl⟩
 jX:=⟨_,rfl,rfl,rfl,rfl,rfl⟩
 add:=⟨_,rfl,rfl,rfl,rfl,rfl⟩
 GL:=⟨_,rfl,rfl,rfl,rfl,rfl⟩
 th:=⟨_,rfl,rfl,rfl,rfl,rfl⟩
 nano:=⟨_,rfl,rfl,rfl,rfl,rfl⟩
 Jw:=⟨_,rfl,rfl⟩
 DX:=⟨_,rfl,rfl,rfl,rfl,rfl⟩
 nG:=⟨_,rfl,rfl,rfl,rfl,rfl⟩
 Ss:=by kernel_rfl
 V5:=⟨_,rfl,rfl,rfl⟩
 nS:=⟨_,rfl,rfl⟩
 nU:=⟨_,rfl,rfl⟩
 nV:=⟨_,rfl,rfl⟩

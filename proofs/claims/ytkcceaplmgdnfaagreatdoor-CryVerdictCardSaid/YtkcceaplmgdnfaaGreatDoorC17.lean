import Derived.Test.YtkcceaplmgdnfaaGreatDoorProg
import Derived.Test.YtkcceaplmgdnfaaGreatDoorC16
set_option linter.all false
set_option maxHeartbeats 1000000
set_option maxRecDepth 100000
namespace Go.Proofs.YtkcceaplmgdnfaaGreatDoor
open Go.Proofs.Tryz (prog)
section
open Go.cG
@[simp] def adU:TI:=⟨.func,1,8,.nilFunc,[]⟩
@[simp] def adY:TI:=⟨.int .i64,1,8,(.int .i64 0),[]⟩
@[simp] def aem:TI:=⟨.bool,1,1,(.bool false),[]⟩
@[simp] def adX:TI:=⟨.int .u8,1,1,(.int .u8 0),[]⟩
@[simp] def aed:TI:=⟨.struct,4,24,(.agg #[(.int .i64 0),(.int .i64 0),(.bool false),(.int .u8 0)]),[(0,1,2),(1,1,3),(2,1,4),(3,1,6)]⟩
@[simp] def aea:TI:=⟨.string,1,16,(.string ByteArray.empty),[]⟩
@[simp] def adZ:TI:=⟨.int .u64,1,8,(.int .u64 0),[]⟩
@[simp] def aee:TI:=⟨.struct,2,24,(.agg #[(.string ByteArray.empty),(.int .u64 0)]),[(0,1,9),(1,1,12)]⟩
@[simp] def aen:TI:=⟨.pointer 311,1,8,(.pointer none),[]⟩
@[simp] def aeo:TI:=⟨.pointer 314,1,8,(.pointer none),[]⟩
@[simp] def aep:TI:=⟨.pointer 322,1,8,(.pointer none),[]⟩
@[simp] def aeb:TI:=⟨.struct,1,8,(.agg #[(.pointer none)]),[(0,1,17)]⟩
@[simp] def adW:TI:=⟨.iface,1,16,.nilIface,[]⟩
@[simp] def aec:TI:=⟨.int .i32,1,4,(.int .i32 0),[]⟩
@[simp] def aeq:TI:=⟨.slice 3,1,24,(.slice none 0 0),[]⟩
@[simp] def aer:TI:=⟨.slice 56,1,24,(.slice none 0 0),[]⟩
@[simp] def aes:TI:=⟨.slice 22,1,24,(.slice none 0 0),[]⟩
@[simp] def aef:TI:=⟨.struct,2,16,(.agg #[(.int .i64 0),(.int .i64 0)]),[(0,1,3),(1,1,3)]⟩
@[simp] def aeg:TI:=⟨.struct,6,80,(.agg #[(.slice none 0 0),(.slice none 0 0),(.int .i64 0),(.int .i64 0),(.int .i64 0),(.int .i64 0)]),[(0,1,23),(1,1,24),(2,2,26),(4,1,3),(5,1,3)]⟩
@[simp] def aet:TI:=⟨.slice 50,1,24,(.slice none 0 0),[]⟩
@[simp] def aeu:TI:=⟨.slice 58,1,24,(.slice none 0 0),[]⟩
@[simp] def aeh:TI:=⟨.struct,9,136,(.agg #[(.slice none 0 0),(.slice none 0 0),(.int .i64 0),(.int .i64 0),(.int .i64 0),(.int .i64 0),(.int .i64 0),(.slice none 0 0),(.slice none 0 0)]),[(0,6,28),(6,1,3),(7,1,29),(8,1,30)]⟩
@[simp] def aev:TI:=⟨.pointer 83,1,8,(.pointer none),[]⟩
@[simp] def aei:TI:=⟨.struct,5,40,(.agg #[(.int .i64 0),(.int .i64 0),(.int .i64 0),(.int .i64 0),(.int .i64 0)]),[(0,1,3),(1,1,3),(2,1,3),(3,2,26)]⟩
@[simp] def aew:TI:=⟨.struct,6,64,(.agg #[(.int .i64 0),(.int .i64 0),(.int .i64 0),(.slice none 0 0),(.int .i64 0),(.int .i64 0)]),[(0,1,3),(1,1,3),(2,1,3),(3,1,22),(4,1,3),(5,1,3)]⟩
@[simp] def aex:TI:=⟨.struct,8,80,(.agg #[(.int .i64 0),(.int .i64 0),(.int .i64 0),(.slice none 0 0),(.int .i64 0),(.int .i64 0),(.int .i64 0),(.int .i64 0)]),[(0,6,56),(6,1,3),(7,1,3)]⟩
@[simp] def aey:TI:=⟨.slice 26,1,24,(.slice none 0 0),[]⟩
@[simp] def aez:TI:=⟨.struct,3,40,(.agg #[(.slice none 0 0),(.int .i64 0),(.int .u64 0)]),[(0,1,22),(1,1,3),(2,1,81)]⟩
@[simp] def aeA:TI:=⟨.pointer 158,1,8,(.pointer none),[]⟩
@[simp] def aeB:TI:=⟨.pointer 32,1,8,(.pointer none),[]⟩
@[simp] def aeC:TI:=⟨.struct,1,8,(.agg #[.nilFunc]),[(0,1,45)]⟩
@[simp] def adV:TI:=⟨.struct,0,0,(.agg #[]),[]⟩
@[simp] def aeD:TI:=⟨.struct,2,2,(.agg #[(.int .u8 0),(.int .u8 0)]),[(0,1,110),(1,1,110)]⟩
@[simp] def aeE:TI:=⟨.array 2 3,2,16,(.agg #[(.int .i64 0),(.int .i64 0)]),[]⟩
@[simp] def aej:TI:=⟨.struct,1,8,(.agg #[.nilFunc]),[(0,1,51)]⟩
@[simp] def aeF:TI:=⟨.int .u32,1,4,(.int .u32 0),[]⟩
@[simp] def aeG:TI:=⟨.struct,2,8,(.agg #[(.int .i32 0),(.int .u32 0)]),[(0,1,21),(1,1,150)]⟩
@[simp] def aeH:TI:=⟨.struct,2,8,(.agg #[(.int .i32 0),(.int .u32 0)]),[(0,0,149),(0,2,152)]⟩
@[simp] def aeI:TI:=⟨.array 3 3,3,24,(.agg #[(.int .i64 0),(.int .i64 0),(.int .i64 0)]),[]⟩
@[simp] def aeJ:TI:=⟨.map 112 193,1,8,(.map none),[]⟩
@[simp] def aeK:TI:=⟨.struct,15,176,(.agg #[(.slice none 0 0),(.slice none 0 0),(.int .i64 0),(.int .i64 0),(.int .i64 0),(.int .i64 0),(.int .i64 0),(.slice none 0 0),(.slice none 0 0),(.int .i32 0),(.int .u32 0),(.int .i64 0),(.int .i64 0),(.int .i64 0),(.map none)]),[(0,9,32),(9,2,154),(11,3,155),(14,1,156)]⟩
@[simp] def aeL:TI:=⟨.struct,1,8,(.agg #[(.int .u64 0)]),[(0,0,159),(0,0,160),(0,1,81)]⟩
@[simp] def aeM:TI:=⟨.struct,2,16,(.agg #[(.int .u64 0),(.int .u32 0)]),[(0,0,149),(0,1,162),(1,1,150)]⟩
@[simp] def aeN:TI:=⟨.array 4 3,4,32,(.agg #[(.int .i64 0),(.int .i64 0),(.int .i64 0),(.int .i64 0)]),[]⟩
@[simp] def aeO:TI:=⟨.array 3 110,3,3,(.agg #[(.int .u8 0),(.int .u8 0),(.int .u8 0)]),[]⟩
@[simp] def aeP:TI:=⟨.array 3 124,3,48,(.agg #[.nilIface,.nilIface,.nilIface]),[]⟩
@[simp] def aek:TI:=⟨.struct,1,4,(.agg #[(.int .u32 0)]),[(0,0,159),(0,1,150)]⟩
@[simp] def aeQ:TI:=⟨.struct,3,12,(.agg #[(.int .u32 0),(.int .i32 0),(.int .u32 0)]),[(0,0,149),(0,1,187),(1,2,154)]⟩
@[simp] def aeR:TI:=⟨.array 6 185,18,288,(.agg #[.nilIface,.nilIface,.nilIface,.nilIface,.nilIface,.nilIface,.nilIface,.nilIface,.nilIface,.nilIface,.nilIface,.nilIface,.nilIface,.nilIface,.nilIface,.nilIface,.nilIface,.nilIface]),[]⟩
@[simp] def aeS:TI:=⟨.struct,21,304,(.agg #[(.int .u32 0),(.int .i32 0),(.int .u32 0),.nilIface,.nilIface,.nilIface,.nilIface,.nilIface,.nilIface,.nilIface,.nilIface,.nilIface,.nilIface,.nilIface,.nilIface,.nilIface,.nilIface,.nilIface,.nilIface,.nilIface,.nilIface]),[(0,3,189),(3,18,190)]⟩
@[simp] def aeT:TI:=⟨.pointer 192,1,8,(.pointer none),[]⟩
@[simp] def ael:TI:=⟨.struct,1,8,(.agg #[(.int .i64 0)]),[(0,1,37)]⟩
@[simp] def aeU:TI:=⟨.pointer 197,1,8,(.pointer none),[]⟩
@[simp] def aeV:TI:=⟨.pointer 257,1,8,(.pointer none),[]⟩
@[simp] def aeW:TI:=⟨.pointer 164,1,8,(.pointer none),[]⟩
@[simp] def aeX:TI:=⟨.pointer 150,1,8,(.pointer none),[]⟩
@[simp] def aeY:TI:=⟨.pointer 154,1,8,(.pointer none),[]⟩
@[simp] def aeZ:TI:=⟨.slice 100,1,24,(.slice none 0 0),[]⟩
@[simp] def afa:TI:=⟨.struct,3,24,(.agg #[(.pointer none),(.pointer none),(.int .u64 0)]),[(0,1,17),(1,1,210),(2,1,243)]⟩
@[simp] def afb:TI:=⟨.map 291 4,1,8,(.map none),[]⟩
@[simp] def afc:TI:=⟨.struct,9,96,(.agg #[(.slice none 0 0),(.slice none 0 0),(.int .i64 0),(.int .i64 0),(.int .i64 0),(.int .i64 0),(.int .i32 0),(.int .u32 0),(.map none)]),[(0,6,28),(6,2,154),(8,1,255)]⟩
@[simp] def afd:TI:=⟨.chan 3,1,8,(.chan none),[]⟩
@[simp] def afe:TI:=⟨.pointer 273,1,8,(.pointer none),[]⟩
@[simp] def aff:TI:=⟨.struct,1,8,(.agg #[.nilFunc]),[(0,1,48)]⟩
@[simp] def afg:TI:=⟨.slice 239,1,24,(.slice none 0 0),[]⟩
@[simp] def afh:TI:=⟨.pointer 189,1,8,(.pointer none),[]⟩
@[simp] def afi:TI:=⟨.struct,1,1,(.agg #[(.int .u8 0)]),[(0,1,5)]⟩
@[simp] def afj:TI:=⟨.array 6 291,6,6,(.agg #[(.int .u8 0),(.int .u8 0),(.int .u8 0),(.int .u8 0),(.int .u8 0),(.int .u8 0)]),[]⟩
@[simp] def afk:TI:=⟨.pointer 187,1,8,(.pointer none),[]⟩
@[simp] def afl:TI:=⟨.struct,4,40,(.agg #[(.pointer none),(.pointer none),(.pointer none),(.string ByteArray.empty)]),[(0,1,17),(1,1,17),(2,1,17),(3,1,9)]⟩
@[simp] def afm:TI:=⟨.array 0 16,0,0,(.agg #[]),[]⟩
@[simp] def afn:TI:=⟨.struct,0,0,(.agg #[]),[(0,0,312)]⟩
@[simp] def afo:TI:=⟨.pointer 5,1,8,(.pointer none),[]⟩
@[simp] def afp:TI:=⟨.struct,11,48,(.agg #[(.int .u64 0),(.int .u64 0),(.int .u32 0),(.int .u8 0),(.int .u8 0),(.int .u8 0),(.int .u8 0),.nilFunc,(.pointer none),(.int .i32 0),(.int .i32 0)]),[(0,1,12),(1,1,12),(2,1,150),(3,1,316),(4,1,5),(5,1,5),(6,1,248),(7,1,317),(8,1,318),(9,1,319),(10,1,320)]⟩
def MA:List (Nat × TI):=[
 (1,adU),
 (2,adY),
 (3,adY),
 (4,aem),
 (5,adX),
 (6,adX),
 (7,aed),
 (8,aed),
 (9,aea),
 (10,aea),
 (11,aea),
 (12,adZ),
 (13,aee),
 (14,aee),
 (15,aen),
 (16,aeo),
 (17,aep),
 (18,aeb),
 (19,aeb),
 (20,adW),
 (21,aec),
 (22,aeq),
 (23,aer),
 (24,aes),
 (25,aef),
 (26,aef),
 (27,aeg),
 (28,aeg),
 (29,aet),
 (30,aeu),
 (31,aeh),
 (32,aeh),
 (34,adU),
 (35,aev),
 (37,adY),
 (40,adU),
 (43,adU),
 (44,adU),
 (45,adU),
 (46,adU),
 (48,adU),
 (49,aei),
 (50,aei),
 (51,adU),
 (56,aew),
 (58,aex),
 (59,aey),
 (67,adU),
 (72,adU),
 (73,adU),
 (81,adZ),
 (83,aez),
 (84,aeA),
 (87,adU),
 (88,adU),
 (90,aeB),
 (93,aeC),
 (99,adW),
 (100,adW),
 (102,adU),
 (105,adV),
 (106,adU),
 (107,adU),
 (108,adU),
 (110,adX),
 (112,aeD),
 (114,adU),
 (115,adU),
 (121,adU),
 (124,adW),
 (125,adV),
 (145,aeE),
 (147,aej),
 (148,aej),
 (149,adV),
 (150,aeF),
 (152,aeG),
 (154,aeH),
 (155,aeI),
 (156,aeJ),
 (158,aeK),
 (159,adV),
 (160,adV),
 (162,aeL),
 (164,aeM),
 (167,aeN),
 (170,adZ),
 (172,adW),
 (175,adU),
 (176,adU),
 (177,aeO),
 (184,adU),
 (185,aeP),
 (186,aek),
 (187,aek),
 (189,aeQ),
 (190,aeR),
 (192,aeS),
 (193,aeT),
 (195,adV),
 (197,ael),
 (199,aeU),
 (201,aeV),
 (204,adU),
 (208,aeW),
 (211,adY),
 (215,aeX),
 (219,aeY),
 (224,aeb),
 (226,adW),
 (229,adW),
 (231,adW),
 (232,aeZ),
 (239,adW),
 (243,adZ),
 (245,afa),
 (248,adX),
 (255,afb),
 (257,afc),
 (258,afd),
 (273,ael),
 (275,afe),
 (277,aff),
 (278,adV),
 (279,adV),
 (280,adV),
 (281,afg),
 (283,afh),
 (284,adV),
 (291,afi),
 (292,afj),
 (295,adU),
 (298,afk),
 (311,afl),
 (312,afm),
 (314,afn),
 (316,adX),
 (317,adU),
 (318,afo),
 (319,aec),
 (320,aec),
 (322,afp),
 (328,adX)]
theorem Jg:(MA.all λx=>x.2.check Tryz.prog x.1)=true:=by kernel_rfl
def Cc(t:Nat):Option TI:=(MA.find? λx=>x.1==t).map (·.2)
theorem Ge(t:Nat)(i:TI)(h:Cc t=some i):i.check Tryz.prog t=true:=by unfold Cc at h;obtain⟨x,a,rfl⟩:=aaH.1 h;have c:=List.find?_some a;have b:=aaD.1 Jg x (List.mem_of_find?_eq_some a);rw[abI.1 c]at b;exact b
def lay:jo Tryz.prog:=⟨Cc,Ge,by kernel_rfl⟩
theorem rn{m:Mo}{fid n:Nat}{ro:adw}{hold:adv}{s:St}{K:cG.Exit->St->Prop}{todo:adD}(h:bx lay m fid n ro [] hold 1000 todo s K):af Tryz.prog m fid n ro hold todo s K:=af.run lay [] h
theorem pg{m:Mo}{ops:adu}{n:Nat}{Kp:adm}{R:adh}{p:jN}{env:Env}{σ:aa}(h:iB lay m [] ops n Kp p env σ R):aM Tryz.prog m ops n Kp p env σ R:=aM.go lay [] h
theorem cf{m:Mo}{f:FuncId}{fn:Func}{args:adL}{σ:aa}{KF:adl}(a:Tryz.prog.funcs[f]?=some fn)(hb:(fn.body.isSome && !(fn.name== "runtime.NumGoroutine"))=true)(h:aA Tryz.prog m f args σ KF):bI Tryz.prog m (.fn (.func f) [] []) args σ KF:=by
 simp only[zj,acf]at hb;exact ar a hb.1 hb.2 h
theorem fs{m:Mo}{f:FuncId}{fn:Func}{args:adL}{σ:aa}{KF:adl}{body:Code}(hold:adv)(b:Tryz.prog.funcs[f]?=some fn)(hb:fn.body=some body)(c:(oC fn args.length&&lg hold body)=true)(h:bx lay m f fn.ntmps none [] hold 1000 [.code body] ⟨dw args,σ,[],.no⟩ (SN lay m fn.results.toList (nK KF))):aA Tryz.prog m f args σ KF:=by simp only[zj]at c;exact aA.start lay [] hold _ b hb rfl c.1 c.2 h
@[simp] theorem tt1:lay.tt 1=some adU:=rfl
@[simp] theorem tt2:lay.tt 2=some adY:=rfl
@[simp] theorem rD:lay.tt 3=some adY:=rfl
@[simp] theorem ZT:lay.tt 4=some aem:=rfl
@[simp] theorem Yt:lay.tt 5=some adX:=rfl
@[simp] theorem tt6:lay.tt 6=some adX:=rfl
@[simp] theorem tt7:lay.tt 7=some aed:=rfl
@[simp] theorem tt8:lay.tt 8=some aed:=rfl
@[simp] theorem tt9:lay.tt 9=some aea:=rfl
@[simp] theorem ZU:lay.tt 10=some aea:=rfl
@[simp] theorem ZV:lay.tt 11=some aea:=rfl
@[simp] theorem ZW:lay.tt 12=some adZ:=rfl
@[simp] theorem ZX:lay.tt 13=some aee:=rfl
@[simp] theorem ZY:lay.tt 14=some aee:=rfl
@[simp] theorem ZZ:lay.tt 15=some aen:=rfl
@[simp] theorem Z1:lay.tt 16=some aeo:=rfl
@[simp] theorem Z2:lay.tt 17=some aep:=rfl
@[simp] theorem Z3:lay.tt 18=some aeb:=rfl
@[simp] theorem Z4:lay.tt 19=some aeb:=rfl
@[simp] theorem Z5:lay.tt 20=some adW:=rfl
@[simp] theorem Z6:lay.tt 21=some aec:=rfl
@[simp] theorem dD:lay.tt 22=some aeq:=rfl
@[simp] theorem nB:lay.tt 23=some aer:=rfl
@[simp] theorem qv:lay.tt 24=some aes:=rfl
@[simp] theorem Z7:lay.tt 25=some aef:=rfl
@[simp] theorem Xo:lay.tt 26=some aef:=rfl
@[simp] theorem Z8:lay.tt 27=some aeg:=rfl
@[simp] theorem Z9:lay.tt 28=some aeg:=rfl
@[simp] theorem Sl:lay.tt 29=some aet:=rfl
@[simp] theorem P8:lay.tt 30=some aeu:=rfl
@[simp] theorem Z':lay.tt 31=some aeh:=rfl
@[simp] theorem aaa:lay.tt 32=some aeh:=rfl
@[simp] theorem aab:lay.tt 34=some adU:=rfl
@[simp] theorem aac:lay.tt 35=some aev:=rfl
@[simp] theorem aad:lay.tt 37=some adY:=rfl
@[simp] theorem aae:lay.tt 40=some adU:=rfl
@[simp] theorem aaf:lay.tt 43=some adU:=rfl
@[simp] theorem aag:lay.tt 44=some adU:=rfl
@[simp] theorem aah:lay.tt 45=some adU:=rfl
@[simp] theorem aai:lay.tt 46=some adU:=rfl
@[simp] theorem aaj:lay.tt 48=some adU:=rfl
@[simp] theorem aak:lay.tt 49=some aei:=rfl
@[simp] theorem Vn:lay.tt 50=some aei:=rfl
@[simp] theorem aal:lay.tt 51=some adU:=rfl
@[simp] theorem zJ:lay.tt 56=some aew:=rfl
@[simp] theorem Vo:lay.tt 58=some aex:=rfl
@[simp] theorem Vp:lay.tt 59=some aey:=rfl
@[simp] theorem aam:lay.tt 67=some adU:=rfl
@[simp] theorem aan:lay.tt 72=some adU:=rfl
@[simp] theorem aao:lay.tt 73=some adU:=rfl
@[simp] theorem aap:lay.tt 81=some adZ:=rfl
@[simp] theorem aaq:lay.tt 83=some aez:=rfl
@[simp] theorem aar:lay.tt 84=some aeA:=rfl
@[simp] theorem aas:lay.tt 87=some adU:=rfl
@[simp] theorem aat:lay.tt 88=some adU:=rfl
@[simp] theorem aau:lay.tt 90=some aeB:=rfl
@[simp] theorem aav:lay.tt 93=some aeC:=rfl
@[simp] theorem aaw:lay.tt 99=some adW:=rfl
@[simp] theorem AI:lay.tt 100=some adW:=rfl
@[simp] theorem Yu:lay.tt 102=some adU:=rfl
@[simp] theorem Yv:lay.tt 105=some adV:=rfl
@[simp] theorem Yw:lay.tt 106=some adU:=rfl
@[simp] theorem Yx:lay.tt 107=some adU:=rfl
@[simp] theorem Yy:lay.tt 108=some adU:=rfl
@[simp] theorem MB:lay.tt 110=some adX:=rfl
@[simp] theorem Yz:lay.tt 112=some aeD:=rfl
@[simp] theorem YA:lay.tt 114=some adU:=rfl
@[simp] theorem YB:lay.tt 115=some adU:=rfl
@[simp] theorem YC:lay.tt 121=some adU:=rfl
@[simp] theorem Rd:lay.tt 124=some adW:=rfl
@[simp] theorem YD:lay.tt 125=some adV:=rfl
@[simp] theorem Re:lay.tt 145=some aeE:=rfl
@[simp] theorem YE:lay.tt 147=some aej:=rfl
@[simp] theorem YF:lay.tt 148=some aej:=rfl
@[simp] theorem YG:lay.tt 149=some adV:=rfl
@[simp] theorem YH:lay.tt 150=some aeF:=rfl
@[simp] theorem YI:lay.tt 152=some aeG:=rfl
@[simp] theorem YJ:lay.tt 154=some aeH:=rfl
@[simp] theorem YK:lay.tt 155=some aeI:=rfl
@[simp] theorem YL:lay.tt 156=some aeJ:=rfl
@[simp] theorem YM:lay.tt 158=some aeK:=rfl
@[simp] theorem YN:lay.tt 159=some adV:=rfl
@[simp] theorem YO:lay.tt 160=some adV:=rfl
@[simp] theorem YP:lay.tt 162=some aeL:=rfl
@[simp] theorem YQ:lay.tt 164=some aeM:=rfl
@[simp] theorem YR:lay.tt 167=some aeN:=rfl
@[simp] theorem YS:lay.tt 170=some adZ:=rfl
@[simp] theorem YT:lay.tt 172=some adW:=rfl
@[simp] theorem YU:lay.tt 175=some adU:=rfl
@[simp] theorem YV:lay.tt 176=some adU:=rfl
@[simp] theorem Vq:lay.tt 177=some aeO:=rfl
@[simp] theorem YW:lay.tt 184=some adU:=rfl
@[simp] theorem YX:lay.tt 185=some aeP:=rfl
@[simp] theorem YY:lay.tt 186=some aek:=rfl
@[simp] theorem YZ:lay.tt 187=some aek:=rfl
@[simp] theorem Y0:lay.tt 189=some aeQ:=rfl
@[simp] theorem Y1:lay.tt 190=some aeR:=rfl
@[simp] theorem Y2:lay.tt 192=some aeS:=rfl
@[simp] theorem Vr:lay.tt 193=some aeT:=rfl
@[simp] theorem Y3:lay.tt 195=some adV:=rfl
@[simp] theorem Y4:lay.tt 197=some ael:=rfl
@[simp] theorem Y5:lay.tt 199=some aeU:=rfl
@[simp] theorem Y6:lay.tt 201=some aeV:=rfl
@[simp] theorem Y7:lay.tt 204=some adU:=rfl
@[simp] theorem Y8:lay.tt 208=some aeW:=rfl
@[simp] theorem Y9:lay.tt 211=some adY:=rfl
@[simp] theorem Y':lay.tt 215=some aeX:=rfl
@[simp] theorem Za:lay.tt 219=some aeY:=rfl
@[simp] theorem Zb:lay.tt 224=some aeb:=rfl
@[simp] theorem Zc:lay.tt 226=some adW:=rfl
@[simp] theorem Zd:lay.tt 229=some adW:=rfl
@[simp] theorem Ze:lay.tt 231=some adW:=rfl
@[simp] theorem Zf:lay.tt 232=some aeZ:=rfl
@[simp] theorem Rf:lay.tt 239=some adW:=rfl
@[simp] theorem Zg:lay.tt 243=some adZ:=rfl
@[simp] theorem Zh:lay.tt 245=some afa:=rfl
@[simp] theorem Zi:lay.tt 248=some adX:=rfl
@[simp] theorem Zj:lay.tt 255=some afb:=rfl
@[simp] theorem Zk:lay.tt 257=some afc:=rfl
@[simp] theorem HX:lay.tt 258=some afd:=rfl
@[simp] theorem Zl:lay.tt 273=some ael:=rfl
@[simp] theorem Zm:lay.tt 275=some afe:=rfl
@[simp] theorem Zn:lay.tt 277=some aff:=rfl
@[simp] theorem Vt:lay.tt 278=some adV:=rfl
@[simp] theorem Vu:lay.tt 279=some adV:=rfl
@[simp] theorem Vv:lay.tt 280=some adV:=rfl
@[simp] theorem Zo:lay.tt 281=some afg:=rfl
@[simp] theorem Zp:lay.tt 283=some afh:=rfl
@[simp] theorem Zq:lay.tt 284=some adV:=rfl
@[simp] theorem Zr:lay.tt 291=some afi:=rfl
@[simp] theorem Zs:lay.tt 292=some afj:=rfl
@[simp] theorem Zt:lay.tt 295=some adU:=rfl
@[simp] theorem Zu:lay.tt 298=some afk:=rfl
@[simp] theorem Zv:lay.tt 311=some afl:=rfl
@[simp] theorem Zw:lay.tt 312=some afm:=rfl
@[simp] theorem Zx:lay.tt 314=some afn:=rfl
@[simp] theorem Zy:lay.tt 316=some adX:=rfl
@[simp] theorem Zz:lay.tt 317=some adU:=rfl
@[simp] theorem ZA:lay.tt 318=some afo:=rfl
@[simp] theorem ZB:lay.tt 319=some aec:=rfl
@[simp] theorem ZC:lay.tt 320=some aec:=rfl
@[simp] theorem ZD:lay.tt 322=some afp:=rfl
@[simp] theorem ZE:lay.tt 328=some adX:=rfl
abbrev Xp:adv:=[⟨4,.take [0,1,2,3,4,5,6,7,8] true (.done)⟩]
abbrev Vw:adv:=[⟨8,.take [0,1,2,3,4,5,7] false (.both 6 (.both 8 (.take [9] false (.one 10 (.one 11 (.done)))) (.one 10 (.one 8 (.take [9] true (.one 11 (.done)))))) (.one 10 (.one 6 (.one 8 (.take [9] true (.one 11 (.done)))))))⟩,⟨12,.take [0,1,2,3,4,6,7,8,9] false (.one 5 (.one 10 (.done)))⟩]
abbrev Xq:adv:=[⟨3,.take [0,1,2] false (.both 3 (.one 4 (.one 5 (.one 6 (.one 7 (.one 8 (.one 9 (.done))))))) (.one 4 (.both 3 (.one 5 (.one 6 (.one 7 (.one 8 (.one 9 (.done)))))) (.one 5 (.both 3 (.one 6 (.one 7 (.one 8 (.one 9 (.done))))) (.one 6 (.both 3 (.one 7 (.one 8 (.one 9 (.done)))) (.one 7 (.one 3 (.one 8 (.one 9 (.done))))))))))))⟩]
abbrev Xr:adv:=[⟨26,.take [0,1,2,3] false (.one 4 (.one 5 (.one 6 (.take [7,8,9,10,11] true (.done)))))⟩]
abbrev Xs:adv:=[⟨19,.take [0,2,3,4,6,7,11] false (.both 1 (.both 5 (.one 8 (.one 9 (.take [10] true (.one 12 (.done))))) (.one 8 (.one 5 (.one 9 (.take [10] true (.one 12 (.done))))))) (.both 5 (.both 1 (.one 8 (.one 9 (.take [10] true (.one 12 (.done))))) (.one 8 (.both 1 (.one 9 (.take [10] true (.one 12 (.done)))) (.one 9 (.take [1,10] true (.one 12 (.done))))))) (.one 8 (.both 1 (.one 5 (.one 9 (.take [10] true (.one 12 (.done))))) (.one 5 (.both 1 (.one 9 (.take [10] true (.one 12 (.done)))) (.one 9 (.take [1,10] true (.one 12 (.done))))))))))⟩]
abbrev Xt:adv:=[⟨6,.take [0,1,2,3,4,5,6,7,8] true (.done)⟩]
abbrev Xu:adv:=[⟨3,.take [0,1,2,3,4,5,6,7,8,9] true (.done)⟩,⟨4,.take [0,1,2,3,4,5,6,7,8,9,10,11,12,13,14] true (.take [15] true (.done))⟩,⟨6,.take [0,1,2,3,5,6,7,11,12] false (.take [4,8,9,10] true (.one 13 (.done)))⟩]
abbrev Xv:adv:=[⟨7,.take [0,2,6] false (.both 1 (.one 3 (.one 4 (.one 5 (.one 7 (.done))))) (.one 3 (.both 1 (.one 4 (.one 5 (.one 7 (.done)))) (.one 4 (.take [1] true (.one 5 (.one 7 (.done))))))))⟩,⟨15,.take [0,2,5,6,8,11,12,13] false (.both 1 (.take [3,4,14] false (.one 7 (.take [9,10,16] false (.one 15 (.one 17 (.done)))))) (.one 7 (.take [9,10,16] false (.take [1,3,4,14] true (.one 15 (.one 17 (.done)))))))⟩,⟨21,.take [0,2,3,7] false (.both 1 (.one 4 (.one 5 (.one 6 (.one 8 (.done))))) (.one 4 (.both 1 (.one 5 (.one 6 (.one 8 (.done)))) (.one 5 (.take [1] true (.one 6 (.one 8 (.done))))))))⟩]
abbrev Vx:adv:=[⟨4,.take [0,1,2,3,4,5] false (.one 6 (.done))⟩]
abbrev Xw:adv:=[⟨16,.take [0,1,2,4,5,6,8,9,12] false (.both 3 (.one 7 (.one 10 (.one 11 (.one 13 (.done))))) (.one 7 (.both 3 (.one 10 (.one 11 (.one 13 (.done)))) (.one 10 (.take [3] true (.one 11 (.one 13 (.done))))))))⟩]
abbrev Rg:adv:=[⟨7,.take [0,1,2] false (.one 3 (.one 4 (.take [5,6,7,8,9] true (.done))))⟩]
abbrev Vy:adv:=[⟨1,.take [0,1,2,3,4] false (.both 5 (.one 6 (.one 7 (.done))) (.one 6 (.one 5 (.one 7 (.done)))))⟩,⟨4,.take [0,1,2,3,4,5] true (.one 6 (.done))⟩]
abbrev Vz:adv:=[⟨6,.take [0,1,2,3] true (.done)⟩]
abbrev VA:adv:=[⟨1,.take [0,1,2,3,4,5,6] true (.done)⟩]
abbrev VB:adv:=[⟨0,.take [0,1,3,4,6,7] false (.both 2 (.both 5 (.take [11] false (.both 8 (.take [12] false (.one 9 (.one 10 (.done)))) (.one 9 (.one 8 (.take [12] false (.one 10 (.done))))))) (.one 9 (.one 5 (.take [11] false (.one 8 (.take [12] false (.one 10 (.done)))))))) (.one 9 (.one 2 (.one 5 (.take [11] false (.one 8 (.take [12] false (.one 10 (.done)))))))))⟩,⟨8,.take [0,1,2,3,5,6,7,8] false (.one 4 (.one 9 (.done)))⟩]
abbrev VC:adv:=[⟨24,.take [0,1,2,3,4,5,6,7,8,9,10,11,12,13,14,15,16,17,18,19,20,21,22,23,24] true (.done)⟩,⟨29,.take [0,1,2,3,4,5,6,7,8,9,10,11,12,13,14,15,16,17,18,19,20,21,22] true (.done)⟩]
abbrev VD:adv:=[⟨1,.take [0,1,2,3,4,5,6,7,8,9,10,11,12,13,14,15,16,17] false (.one 18 (.take [19] true (.done)))⟩]
abbrev VE:adv:=[⟨4,.take [0,2,4] false (.take [1] true (.one 3 (.one 5 (.done))))⟩,⟨5,.take [0,1,2] false (.one 3 (.one 4 (.take [5,6,8,9,10,12,15,16,17] false (.both 7 (.both 11 (.both 13 (.both 14 (.one 18 (.one 19 (.take [20,21] true (.done)))) (.one 18 (.one 14 (.one 19 (.take [20,21] true (.done)))))) (.one 18 (.one 13 (.one 14 (.one 19 (.take [20,21] true (.done))))))) (.both 13 (.both 11 (.both 14 (.one 18 (.one 19 (.take [20,21] true (.done)))) (.one 18 (.one 14 (.one 19 (.take [20,21] true (.done)))))) (.one 18 (.one 11 (.one 14 (.one 19 (.take [20,21] true (.done))))))) (.one 18 (.both 11 (.one 13 (.one 14 (.one 19 (.take [20,21] true (.done))))) (.one 13 (.one 11 (.one 14 (.one 19 (.take [20,21] true (.done)))))))))) (.both 11 (.both 7 (.both 13 (.both 14 (.one 18 (.one 19 (.take [20,21] true (.done)))) (.one 18 (.one 14 (.one 19 (.take [20,21] true (.done)))))) (.one 18 (.one 13 (.one 14 (.one 19 (.take [20,21] true (.done))))))) (.both 13 (.both 7 (.both 14 (.one 18 (.one 19 (.take [20,21] true (.done)))) (.one 18 (.one 14 (.one 19 (.take [20,21] true (.done)))))) (.both 14 (.both 7 (.one 18 (.one 19 (.take [20,21] true (.done)))) (.one 18 (.one 7 (.one 19 (.take [20,21] true (.done)))))) (.one 18 (.both 7 (.one 14 (.one 19 (.take [20,21] true (.done)))) (.one 14 (.one 7 (.one 19 (.take [20,21] true (.done))))))))) (.one 18 (.both 7 (.one 13 (.one 14 (.one 19 (.take [20,21] true (.done))))) (.one 13 (.both 7 (.one 14 (.one 19 (.take [20,21] true (.done)))) (.one 14 (.one 7 (.one 19 (.take [20,21] true (.done))))))))))) (.both 13 (.both 7 (.both 11 (.both 14 (.one 18 (.one 19 (.take [20,21] true (.done)))) (.one 18 (.one 14 (.one 19 (.take [20,21] true (.done)))))) (.one 18 (.one 11 (.one 14 (.one 19 (.take [20,21] true (.done))))))) (.both 11 (.both 7 (.both 14 (.one 18 (.one 19 (.take [20,21] true (.done)))) (.one 18 (.one 14 (.one 19 (.take [20,21] true (.done)))))) (.both 14 (.both 7 (.one 18 (.one 19 (.take [20,21] true (.done)))) (.one 18 (.one 7 (.one 19 (.take [20,21] true (.done)))))) (.one 18 (.both 7 (.one 14 (.one 19 (.take [20,21] true (.done)))) (.one 14 (.one 7 (.one 19 (.take [20,21] true (.done))))))))) (.one 18 (.both 7 (.one 11 (.one 14 (.one 19 (.take [20,21] true (.done))))) (.one 11 (.both 7 (.one 14 (.one 19 (.take [20,21] true (.done)))) (.one 14 (.one 7 (.one 19 (.take [20,21] true (.done))))))))))) (.one 18 (.both 7 (.both 11 (.one 13 (.one 14 (.one 19 (.take [20,21] true (.done))))) (.one 13 (.one 11 (.one 14 (.one 19 (.take [20,21] true (.done))))))) (.both 11 (.both 7 (.one 13 (.one 14 (.one 19 (.take [20,21] true (.done))))) (.one 13 (.both 7 (.one 14 (.one 19 (.take [20,21] true (.done)))) (.one 14 (.one 7 (.one 19 (.take [20,21] true (.done)))))))) (.one 13 (.both 7 (.one 11 (.one 14 (.one 19 (.take [20,21] true (.done))))) (.one 11 (.both 7 (.one 14 (.one 19 (.take [20,21] true (.done)))) (.one 14 (.one 7 (.one 19 (.take [20,21] true (.done))))))))))))))))))⟩]
abbrev VF:adv:=[⟨1,.take [0,1,2,3,4,5] true (.one 6 (.done))⟩]
abbrev VG:adv:=[⟨3,.take [0,1,2,3] false (.one 4 (.one 5 (.take [6,7,8,9,10] true (.done))))⟩,⟨6,.take [0,1,2,3,4,5] true (.one 6 (.done))⟩]
abbrev VH:adv:=[⟨0,.take [0,1,2,3] false (.one 4 (.one 5 (.done)))⟩]
abbrev Rh:adv:=[⟨7,.take [0,1,2,3] true (.done)⟩]
abbrev VI:adv:=[⟨1,.take [0,1,2,3,4,5,6,7,8,9] true (.done)⟩]
abbrev VJ:adv:=[⟨4,.take [0,1,2,3,4,5,6,7,9,10,11,12] false (.both 8 (.one 13 (.one 14 (.take [15,16] true (.done)))) (.one 13 (.one 8 (.one 14 (.take [15,16] true (.done))))))⟩,⟨6,.take [0,1,2,3,4,5,6,7,8,10,11,12,14,16] false (.take [9,13] true (.one 15 (.one 17 (.done))))⟩]
abbrev VK:adv:=[⟨4,.take [0,1,2,3,4,5,6,7,8,9,10,11,12,13,14,15,16,17,18,19,20] true (.done)⟩]
abbrev VL:adv:=[⟨8,.take [0,1,2,3,4,5,6,7,8,9,10,11,12,13,14] true (.done)⟩,⟨11,.take [0,1,3,4,5,6,7,8,10] false (.one 2 (.take [9,11] false (.one 12 (.one 13 (.take [14] true (.done))))))⟩,⟨17,.take [0,1,2,3] false (.one 4 (.one 5 (.take [6] true (.done))))⟩]
abbrev VM:adv:=[⟨4,.take [0,1,2,3,4,5,6,7,8,9,10,11,12,13,14,15,16,17,18,19,20,21,22] false (.both 23 (.one 24 (.one 25 (.one 26 (.done)))) (.one 24 (.one 23 (.one 25 (.one 26 (.done))))))⟩,⟨5,.take [0,1,2,3,4,5,6,7,8,9,10,11,12,13,14,15,16,17,18,19,20,21,22,23,24,26,27] false (.one 25 (.one 28 (.one 29 (.take [30,31,32] true (.done)))))⟩]
attribute [simp] O6
abbrev int(n:Int):AV:=.lit (.int .i64 n)
abbrev u8(n:Int):AV:=.lit (.int .u8 n)
abbrev bool(b:Bool):AV:=.lit (.bool b)
abbrev ints(l:adG):AV:=.sl 1 (l.map int) .any
abbrev rows(l:acW):AV:=.sl 1 (l.map ints) .any
structure m5 where
 hour:Int
 place:Int
 cX:Int
 marks:adG
 br:Int
 jQ:Int
 deriving DecidableEq
structure Fr where
 aD:List m5
 roads:acW
 aU:Int
 eZ:Int
 cP:Int
 aR:Int
 deriving DecidableEq
abbrev bs(e:m5):AV:=.agg [int e.hour,int e.place,int e.cX,ints e.marks,int e.br,int e.jQ]
abbrev jI(l:List m5):AV:=.sl 6 (l.map bs) .any
abbrev Ee(f:Fr):adL:=[jI f.aD,rows f.roads,int f.aU,int f.eZ,int f.cP,int f.aR]
abbrev cz(f:Fr):AV:=.agg (Ee f)
abbrev kW(b mb:Nat)(f:Fr)(o:Nat):AV:=.kp b [jI f.aD,rows f.roads,int f.aU,int f.eZ,int f.cP,int f.aR,.lit (.int .i32 0),.lit (.int .u32 0),.map mb] [6,7] o
def bt(a lo hi:Int):Bool:=decide (lo<=a) && decide (a<=hi)
def rV:adB->Int->Bool
 |some q,h=>decide (h<=q)
 |none,_=>false
def tQ:adB->adG->Int
 |_,[]=>0
 |p,h::l=>if bt h 0 4=false then 3 else if rV p h=true then 5 else tQ (some h) l
def cL(places:Int)(e:m5):Int:=
 if bt e.hour 0 72=false then 1 else if bt e.place 0 (places-1)=false then 3 else if bt e.cX 0 5=false then 1 else if tQ none e.marks≠0 then tQ none e.marks
 else if bt e.br 0 30=false then 1 else if bt e.jQ 0 2=false then 8 else 0
def fW(f:m5->Int):List m5->Int
 |[]=>0
 |d::l=>if f d=0 then fW f l else f d
theorem P9(l:adG)(i:Nat)(h:i<l.length)(p:adB):tQ p (l.drop i)=if bt l[i] 0 4=false then 3 else if rV p l[i]=true then 5 else tQ (some l[i]) (l.drop (i+1)):=by rw[abc h,tQ]
theorem Ef(f:m5->Int)(l:List m5)(i:Nat)(h:i<l.length):fW f (l.drop i)=if f l[i]=0 then fW f (l.drop (i+1))else f l[i]:=by rw[abc h,fW]
theorem Cd{α:Type}{l a:List α}{k:Nat}(g:k<l.length)(g':k<a.length)(h:l.take k=a.take k)(e:l[k]=a[k]):l.take (k+1)=a.take (k+1):=by rw[zD g,zD g',h,e]
def rd(r:acW)(i j:Nat):Int:=(r.getD i []).getD j 0
def dR(r:acW)(i j:Nat):Bool:=rd r i i !=0||rd r i j !=rd r j i||(List.range r.length).any λk=>decide (rd r i j>rd r i k+rd r k j)
def mn(n:Nat)(l:adG):Int:=if l.length≠n then 9 else if l.all (bt · 0 9)then 0 else 1
def iq(n:Nat):acW->Int
 |[]=>0
 |l::r=>if mn n l=0 then iq n r else mn n l
def fX(r:acW):Int:=
 if r.length<1 then 7 else if 3<r.length then 6 else if iq r.length r≠0 then iq r.length r
 else if(List.range r.length).any (λi=>(List.range r.length).any λj=>dR r i j)then 9 else 0
def check(f:Fr):Int:=
 if fX f.roads≠0 then fX f.roads else if(bt f.aU 0 3 && bt f.eZ 0 3)=false then 1 else if f.eZ<f.aU then 5
 else if(bt f.cP 1 6 && bt f.aR 1 6)=false then 1 else if(6:Int)<f.aD.length then 6 else fW (cL f.roads.length) f.aD
theorem Gf(n:Nat)(l:acW)(i:Nat)(h:i<l.length):iq n (l.drop i)=if mn n l[i]=0 then iq n (l.drop (i+1))else mn n l[i]:=by rw[abc h,iq]
structure Fr.Fits(f:Fr):Prop where
 aD:f.aD.length<1152921504606846976
 roads:f.roads.length<1152921504606846976
 row:∀r∈f.roads,r.length<1152921504606846976
 marks:∀e∈f.aD,e.marks.length<1152921504606846976
def iI(i:Int):adG->Int->Int
 |[],_=>-1
 |x::l,v=>if x=v then i else iI (i+1) l v
def mJ(l:adG)(v:Int):Int:=iI 0 l v
theorem AJ(l:adG)(v:Int)(i:Nat)(h:i<l.length)(c:Int):iI c (l.drop i) v=if l[i]=v then c else iI (c+1) (l.drop (i+1)) v:=by rw[abc h,iI]
theorem yx(v:Int):∀(l:adG) (i:Int),0<=i->(0<=iI i l v↔v∈l)
 |[],i,h=>by simp[iI]
 | x::l,i,h=>by
   unfold iI;split
   . simp_all
   . next e=>rw[yx v l (i+1) (by omega)];grind
theorem kD(l:adG)(v:Int):0<=mJ l v↔v∈l:=yx v l 0 (abF _)
def jj(f:Fr)(e:m5):adG:=if e.jQ≠0 then(List.range (f.eZ-f.aU+1).toNat).map λi:Nat=>e.br-f.eZ+(i:Int)else[]
def bU(f:Fr)(e:m5):adG:=if e.jQ≠1/\e.br∉jj f e then jj f e++[e.br]else jj f e
def iS(first:adG)(others:acW):adG:=first.filter λx=>others.all λl=>decide (x∈l)
def aS(f:Fr)(i:Int):m5:=f.aD.getD i.toNat ⟨0,0,0,[],0,0⟩
def gk(f:Fr)(l:adG):adG:=match l.map λi=>bU f (aS f i)with|[]=>[]|a::r=>iS a r
def iW(f:Fr):adB->adG->Int
 |_,[]=>0
 |p,n::l=>if bt n 0 (f.aD.length-1)=false then 3 else if rV p n=true then 5 else iW f (some n) l
def u'(f:Fr)(l:adG):Int:=if l.length=0 then 7 else iW f none l
theorem Gg(f:Fr)(l:adG)(i:Nat)(h:i<l.length)(p:adB):iW f p (l.drop i)=if bt l[i] 0 (f.aD.length-1)=false then 3 else if rV p l[i]=true then 5 else iW f (some l[i]) (l.drop (i+1)):=by rw[abc h,iW]
abbrev Xx(n:Int):AV:=if n=0 then .lit .nilIface else .lM 273 (.agg [int n])
def VN(a b:Int):Int:=IntKind.u8.wrap (((BitVec.ofInt 8 a|||BitVec.ofInt 8 b).toNat:Nat):Int)
def Eg(a b:Int):Int:=IntKind.u8.wrap (((BitVec.ofInt 8 a &&& BitVec.ofInt 8 b).toNat:Nat):Int)
def yy(a b:Int):Int:=IntKind.u8.wrap (((BitVec.ofInt 8 a ^^^ BitVec.ofInt 8 b).toNat:Nat):Int)
def Rk(a b:Int):Int:=IntKind.u8.wrap (a-b)
theorem tR(a b:Int):pL .or .u8 a b=some (.int .u8 (VN a b)):=rfl
theorem va(a b:Int):pL .and .u8 a b=some (.int .u8 (Eg a b)):=rfl
theorem Jh(a b:Int):pL .xor .u8 a b=some (.int .u8 (yy a b)):=rfl
theorem Ji(a b:Int):pL .sub .u8 a b=some (.int .u8 (Rk a b)):=rfl
def bT(m n:Int):Int:=VN m (IntKind.u8.wrap (2 ^ min n.toNat IntKind.u8.bits))
def fR(m n:Int):Bool:=Eg (m.fdiv (2 ^ min n.toNat IntKind.u8.bits)) 1==1
def aB(m:Int):adG:=((List.range 6).map λn:Nat=>(n:Int)).filter λn=>fR m n
def aT(l:adG):Int:=l.foldl bT 0
end
section
open Go.cG Go.Conc
variable{m:Mo}{σ:aa}{KF:adl}
theorem dX{a lo hi:Int}(h:KF (.val (bool (bt a lo hi))) σ):aA prog m 155 [int a,int lo,int hi] σ KF:=by
 unfold bt at h;refine fs [] Tryz.func155 rfl (by kernel_rfl) ?_;simp[Tryz.f155];refine uu.intro (λb=>?_) (λb=>?_)<;>simp[b]
 . exact .done (by simp_all)
 . exact .done (by simp_all)
theorem Eh{l:adG}{v:Int}(j:l.length<1152921504606846976)(h:KF (.val (int (mJ l v))) σ):aA prog m 63 [ints l,int v] σ KF:=by
 refine fs [] Tryz.func63 rfl (by kernel_rfl) ?_;simp[Tryz.f63];refine af.loop l.length (λk s=>∃env,s=⟨env,σ,[],.no⟩/\env 0=ints l/\env 1=int v/\env 7=int l.length/\env 8=int k/\iI 0 l v=iI k (l.drop k) v) ⟨_,rfl,by simp⟩ ?_;rintro n k _ o ⟨env,rfl,e,f,g,d,a⟩ i;apply rn;simp[g,d];apply aH.intro<;>intro c<;>simp at c<;>simp[e,f,d,c]
 . rw[AJ l v k c]at a
   refine aH.intro (λb=>?_) (λb=>?_)<;>(try simp at b)<;>(try simp[b]at a)<;>(try simp[d,b])<;>(try exact .done a)
   . subst b
     unfold mJ at h;rw[a]at h;exact .done h
   . refine⟨by omega,i _ c ⟨_,rfl,?_,?_,?_,?_,by grind⟩⟩<;>simp[e,f,g]
 . have:k=l.length:=by omega
   subst this;unfold mJ at h;rw[a]at h;simp[iI]at h;exact .done h
theorem kF{l:adG}{v:Int}(a:l.length<1152921504606846976)(h:KF (.val (bool (decide (v∈l)))) σ):aA prog m 66 [ints l,int v] σ KF:=by
 refine fs [] Tryz.func66 rfl (by kernel_rfl) ?_;simp[Tryz.f66];refine cf Tryz.func63 rfl (Eh a ?_);apply rn;simp;rw[<-decide_eq_decide.2 (kD l v)]at h;exact .done h
theorem qw{l:adG}{v:Int}(i:l.length<1152921504606846976)(h:KF (.val (int (mJ l v))) σ):aA prog m 24 [ints l,int v] σ KF:=by
 refine fs [] Tryz.func24 rfl (by kernel_rfl) ?_;simp[Tryz.f24];refine af.loop l.length (λk s=>∃env,s=⟨env,σ,[],.no⟩/\env 0=ints l/\env 1=int v/\env 5=int k/\iI 0 l v=iI k (l.drop k) v) ⟨_,rfl,by simp⟩ ?_;rintro j k _ n ⟨env,rfl,d,f,e,a⟩ g;apply rn;simp[d,e];apply aH.intro<;>intro c<;>simp at c<;>simp[d,f,e,c]
 . rw[AJ l v k c]at a
   refine aH.intro (λb=>?_) (λb=>?_)<;>(try simp at b)<;>(try simp[b]at a)<;>(try simp[e,b])<;>(try exact .done a)
   . subst b
     unfold mJ at h;rw[a]at h;exact .done h
   . refine⟨by omega,g _ c ⟨_,rfl,?_,?_,?_,by grind⟩⟩<;>simp[d,f]
 . have:k=l.length:=by omega
   subst this;unfold mJ at h;rw[a]at h;simp[iI]at h;exact .done h
theorem vT{a b:adG}(r:a.length<1152921504606846976)(hb:b.length<1152921504606846976)(h:KF (.val (bool (decide (a=b)))) σ):aA prog m 15 [ints a,ints b] σ KF:=by
 refine fs Xp Tryz.func15 rfl (by kernel_rfl) ?_;simp[Tryz.f15];refine af.loop a.length (λk s=>∃env,s=⟨env,σ,[],.no⟩/\env 0=ints a/\env 1=ints b/\env 5=int k/\k<=b.length/\a.take k=b.take k) ⟨_,rfl,by simp⟩ ?_;rintro t k _ u ⟨env,rfl,d,i,f,o,n⟩ p;apply rn;simp[d,f];refine uu.intro (λc=>?_) (λc=>?_)<;>(try simp[-Nat.not_lt,-Nat.not_le]at c)<;>(try simp[d,i,f,c])
 . refine aH.intro (λg=>?_) (λg=>?_)<;>(try simp[-Nat.not_lt,-Nat.not_le]at g)<;>(try simp[d,i,f,g,c])
   . apply rn
     simp;apply aH.intro<;>intro j<;>simp at j<;>simp[f,j]
     . have:a≠b:=λe=>by simp_all
       simp[this]at h;exact .done h
     . refine⟨by omega,p _ c ⟨_,rfl,?_,?_,?_,by omega,Cd c g n j⟩⟩<;>simp[d,i]
   . have:a≠b:=λe=>by simp_all
     have l:((a.length:Int)==b.length)=false:=by grind
     rw[l];exact .done (by simp_all)
 . have:k=a.length:=by omega
   subst this;rw[aaJ]at n;by_cases e:a.length=b.length
   . have:a=b:=by grind
     exact .done (by grind)
   . have:a≠b:=λq=>e (by rw[q])
     have l:((a.length:Int)==b.length)=false:=by grind
     rw[l];exact .done (by grind)
theorem Ei{n:Int}(h:KF (.val (bool false)) σ):aA prog m 197 [int n] σ KF:=by
 refine fs [] Tryz.func197 rfl (by kernel_rfl) ?_;simp[Tryz.f197];exact .done h
def Ce(x y:Int):Int:=if x<y then -1 else if y<x then 1 else 0
theorem Gh{x y:Int}(h:KF (.val (int (Ce x y))) σ):aA prog m 176 [int x,int y] σ KF:=by
 unfold Ce at h;refine fs [] Tryz.func176 rfl (by kernel_rfl) ?_;simp[Tryz.f176];refine cf Tryz.func197 rfl (Ei ?_);apply rn;simp;refine cf Tryz.func197 rfl (Ei ?_);apply rn;simp;refine aH.intro (λa=>?_) (λa=>?_)<;>(try simp[-Int.not_lt,-Int.not_le]at a)<;>(try simp[a]at h)<;>(try simp[a])<;>(try exact .done h);refine aH.intro (λb=>?_) (λb=>?_)<;>(try simp[-Int.not_lt,-Int.not_le]at b)<;>(try simp[b]at h)<;>(try simp[b])<;>(try exact .done h)
theorem zK{e:m5}{places:Int}(w:0<=places/\places<1152921504606846976)(x:e.marks.length<1152921504606846976)(h:KF (.val (int (cL places e))) σ):aA prog m 156 [bs e,int places] σ KF:=by
 unfold cL at h;refine fs [] Tryz.func156 rfl (by kernel_rfl) ?_;simp[Tryz.f156];refine cf Tryz.func155 rfl (dX ?_);apply rn;simp;refine aH.intro (λi=>?_) (λi=>?_)<;>(try simp at i)<;>(try simp[i]at h)<;>(try simp[i])<;>(try exact .done h);refine⟨by omega,?_⟩;refine cf Tryz.func155 rfl (dX ?_);apply rn;simp;refine aH.intro (λj=>?_) (λj=>?_)<;>(try simp at j)<;>(try simp[j]at h)<;>(try simp[j])<;>(try exact .done h);refine cf Tryz.func155 rfl (dX ?_);apply rn;simp;refine aH.intro (λl=>?_) (λl=>?_)<;>(try simp at l)<;>(try simp[l]at h)<;>(try simp[l])<;>(try exact .done h);refine af.loop e.marks.length (λk s=>∃env,s=⟨env,σ,[],.no⟩/\env 2=.cp (bs e) 0/\env 22=ints e.marks/\env 23=int e.marks.length/\env 24=int k/\tQ none e.marks=tQ (if k=0 then none else e.marks[k-1]?) (e.marks.drop k)) ⟨_,rfl,by simp⟩ ?_
 rintro y k _ z ⟨env,rfl,n,f,g,b,a⟩ r;apply rn;simp[g,b];apply aH.intro<;>intro o<;>simp at o<;>simp[n,f,b,o]
 . rw [P9 _ k o]at a
   refine cf Tryz.func155 rfl (dX ?_);apply rn;simp;refine aH.intro (λc=>?_) (λc=>?_)<;>(try simp at c)<;>(try simp[c]at a)<;>(try simp[c])<;>(try exact .done a)
   . refine uu.intro (λd=>?_) (λd=>?_)<;>(try simp at d)<;>(try simp[d]at a)<;>(try simp[n,b,d])<;>(try exact .done a)
     . have t:(k:Int)-1=((k-1:Nat):Int):=by omega
       have q:k-1<e.marks.length:=by omega
       have u:¬k=0:=by omega
       simp[t,q];repeat refine⟨by omega,?_⟩
       try simp[q,u,rV]at a
       refine aH.intro (λp=>?_) (λp=>?_)<;>(try simp at p)<;>(try simp[p]at a)<;>(try simp[b,p])<;>(try exact .done a)
       . simp[a]at h
         exact .done h
       . refine⟨by omega,r _ o ⟨_,rfl,by simp[n],by simp[f],by simp[g],by simp,?_⟩⟩
         grind
     . have v:k=0:=by omega
       subst v;simp[rV]at a
       simp_all
   . simp[a]at h
     exact .done h
 . have:k=e.marks.length:=by omega
   subst this;simp[tQ]at a;simp[a]at h;refine cf Tryz.func155 rfl (dX ?_);apply rn;simp;refine aH.intro (λc=>?_) (λc=>?_)<;>(try simp at c)<;>(try simp[c]at h)<;>(try simp[n,c])<;>(try exact .done h);refine cf Tryz.func155 rfl (dX ?_);apply rn;simp;refine aH.intro (λd=>?_) (λd=>?_)<;>(try simp at d)<;>(try simp[d]at h)<;>(try simp[d])<;>(try exact .done h)
theorem lr{n:Nat}:∀{r:acW},iq n r=0->∀l∈r,l.length=n/\∀x∈l,bt x 0 9=true
 |[],_,l,b=>by simp at b
 | a :: r,h,l,b=>by
   unfold iq at h;split at h
   . next c=>
     rcases aaQ.1 b with rfl|b
     . unfold mn at c
       grind
     . exact lr h l b
   omega
theorem nZ{r:acW}{i j:Nat}(hi:i<r.length)(hj:j<r[i].length):rd r i j=r[i][j]:=by simp[rd,zA,hi,hj]
theorem dF{a lo hi:Int}(h:bt a lo hi=true):lo<=a/\a<=hi:=by simpa[bt]using h
theorem zL{r:acW}(hr:r.length<1152921504606846976)(hl:∀l∈r,l.length<1152921504606846976)(h:KF (.val (int (fX r))) σ):aA prog m 154 [rows r] σ KF:=by
 unfold fX at h;refine fs VC Tryz.func154 rfl (by kernel_rfl) ?_
 simp[Tryz.f154];refine aH.intro (λV=>?_) (λV=>?_)<;>simp at V<;>simp[V]
 . rw[aaB (show r.length<1 by omega)]at h
   exact .done h
 refine aH.intro (λW=>?_) (λW=>?_)<;>simp at W<;>simp[W]
 . have X:¬r.length<1:=by omega
   have P:3<r.length:=by omega
   rw[aay (show ¬r.length<1 by omega),aaB P]at h
   exact .done h
 have X:¬r.length<1:=by omega
 have P:¬3<r.length:=by omega
 rw[aay X,aay P]at h;refine af.loop r.length (λk s=>∃env,s=⟨env,σ,[],.no⟩/\env 0=rows r/\env 19=rows r/\env 20=int r.length/\env 21=int k/\iq r.length r=iq r.length (r.drop k)) ⟨_,rfl,by simp⟩ ?_
 rintro c0 k _ hk ⟨env,rfl,a,n,o,g,v⟩ Q
 apply rn;simp[o,g];apply aH.intro<;>intro H<;>simp at H<;>simp[a,n,g,H]
 . rw [Gf _ _ k H]at v
   obtain⟨l,I⟩:∃l,l=r[k]:=⟨_,rfl⟩;simp only[<-I]at v ⊢;have al:l.length<1152921504606846976:=hl l (by rw[I];exact zG H)
   refine aH.intro (λb=>?_) (λb=>?_)<;>simp at b<;>simp[b]
   . have w:l.length≠r.length:=λe=>b (by rw[e])
     simp[mn,w]at v;simp[v]at h;exact .done h
   have w:l.length=r.length:=by omega
   refine af.loop l.length (λj s=>∃env,s=⟨env,σ,[],.no⟩/\env 0=rows r/\env 19=rows r/\env 20=int r.length/\env 21=int k/\env 30=ints l/\env 31=int l.length/\env 32=int j/\(l.take j).all (bt · 0 9)=true) ⟨_,rfl,by simp[a,n,o,g,w]⟩ ?_
   clear a n o g
   rintro c1 j _ R ⟨env,rfl,a,n,o,g,J,K,B,x⟩ C
   apply rn;simp[K,B];apply aH.intro<;>intro p<;>simp at p<;>simp[g,J,B,p]
   . refine cf Tryz.func155 rfl (dX ?_)
     apply rn;simp;refine aH.intro (λu=>?_) (λu=>?_)<;>(try simp at u)<;>(try simp[B,u])
     . refine⟨by omega,C _ p ⟨_,rfl,by simp[a],by simp[n],by simp[o],by simp[g],by simp[J],by simp[K],by simp,?_⟩⟩
       rw[zD p,List.all_append,x];simp[u]
     . have:l.all (bt · 0 9)=false:=by
        rw[List.all_eq_false];exact⟨_,zG p,by simp[u]⟩
       simp[mn,w,this]at v;simp[v]at h;exact .done h
   . have:j=l.length:=by omega
     subst this;rw[aaJ]at x;have Y:mn r.length l=0:=by unfold mn;rw[aay (by simp[w]),aaB x]
     rw[aaB Y]at v;refine⟨by omega,Q _ H ⟨_,rfl,?_,?_,?_,?_,v⟩⟩<;>simp[a,n,o]
 have:k=r.length:=by omega
 subst this;simp[iq]at v;rw[aay (by omega)]at h
 clear Q;have ad:∀(i:Nat) (F:i<r.length),r[i].length=r.length:=λi F=>(lr v _ (zG F)).1
 have L:∀(i:Nat) (F:i<r.length) (j:Nat) (R:j<r[i].length),0<=r[i][j]/\r[i][j]<=9:=λi F j R=>dF ((lr v _ (zG F)).2 _ (zG R))
 refine af.loop r.length (λi s=>∃env,s=⟨env,σ,[],.no⟩/\env 0=rows r/\env 41=rows r/\env 42=int r.length/\env 43=int i/\∀i'<i,∀j<r.length,dR r i' j=false) ⟨_,rfl,by simp[a]⟩ ?_
 clear a n o g
 rintro c1 i _ F ⟨env,rfl,a,f,d,c,Z⟩ Q
 apply rn;simp[d,c];apply aH.intro<;>intro b<;>simp at b<;>simp[a,c,b]
 . refine af.loop r.length (λj s=>∃env,s=⟨env,σ,[],.no⟩/\env 0=rows r/\env 41=rows r/\env 42=int r.length/\env 43=int i/\env 8=int i/\env 46=rows r/\env 47=int r.length/\env 48=int j/\∀D<j,dR r i D=false) ⟨_,rfl,by simp[a,f,d,c]⟩ ?_
   clear a f d c
   rintro c2 j _ R ⟨env,rfl,a,f,d,c,z,y,t,q,av⟩ C
   apply rn;simp[t,q];apply aH.intro<;>intro p<;>simp at p<;>simp[a,c,z,q,p]
   . have q1 : i<r[i].length:=by grind
     have G:j<r[i].length:=by grind
     have q3:i<r[j].length:=by grind
     simp[z,b,q1];refine OV.intro (λu=>?_) (λu=>?_)<;>(try simp at u)<;>(try simp[a,z,u,b,p,G,q3])
     . apply rn
       simp;apply aH.intro<;>intro S<;>simp at S<;>simp[a,S]
       ·
        have hb:dR r i j=true:=by unfold dR;rw[nZ b G,nZ p q3];simp[S]
        have:((List.range r.length).any λi=>(List.range r.length).any λj=>dR r i j)=true:=aba.2 ⟨i,aax.2 b,aba.2 ⟨j,aax.2 p,hb⟩⟩
        rw[aaB this]at h;exact .done h
       . refine af.loop r.length (λk s=>∃env,s=⟨env,σ,[],.no⟩/\env 0=rows r/\env 41=rows r/\env 42=int r.length/\env 43=int i/\env 8=int i/\env 46=rows r/\env 47=int r.length/\env 48=int j/\env 9=int j/\env 76=rows r/\env 77=int r.length/\env 78=int k/\∀M<k,¬rd r i j>rd r i M+rd r M j) ⟨_,rfl,by simp[a,f,d,c,z,y,t,q]⟩ ?_
         clear a f d c z y t q
         rintro c3 k _ hk ⟨env,rfl,a,f,d,c,z,y,t,q,h9,a7,N,E,a8⟩ a9
         apply rn;simp[N,E];apply aH.intro<;>intro A<;>simp at A<;>simp[a,z,q,E,A]
         . have T:k<r[i].length:=by grind
           have U:j<r[k].length:=by grind
           have b1:=L i b k T;have b2:=L k A j U;have f1:-9223372036854775808<=r[i][k]+r[k][j]:=by omega
           have f2:r[i][k]+r[k][j]<=9223372036854775807:=by omega
           simp[a,z,h9,b,A,G,T,U,f1,f2];apply rn;simp;apply aH.intro<;>intro O<;>simp at O<;>simp[E,O]
           . have hb:dR r i j=true:=by
              unfold dR;have:((List.range r.length).any λk=>decide (rd r i j>rd r i k+rd r k j))=true:=aba.2 ⟨k,aax.2 A,by rw[nZ b G,nZ b T,nZ A U];grind⟩
              grind
             have:((List.range r.length).any λi=>(List.range r.length).any λj=>dR r i j)=true:=aba.2 ⟨i,aax.2 b,aba.2 ⟨j,aax.2 p,hb⟩⟩
             rw[aaB this]at h;exact .done h
           . refine⟨by omega,a9 _ A ⟨_,rfl,by simp[a],by simp[f],by simp[d],by simp[c],by simp[z],by simp[y],by simp[t],by simp[q],by simp[h9],by simp[a7],by simp[N],by simp,λM ax=>?_⟩⟩
             by_cases e:M=k
             . subst e
               rw[nZ b G,nZ b T,nZ A U];omega
             . exact a8 M (by omega)
         . have:k=r.length:=by omega
           subst this;refine⟨by omega,C _ p ⟨_,rfl,by simp[a],by simp[f],by simp[d],by simp[c],by simp[z],by simp[y],by simp[t],by simp,λD ab=>?_⟩⟩
           by_cases e:D=j
           . subst e
             unfold dR
             have X:((List.range r.length).any λk=>decide (rd r i D>rd r i k+rd r k D))=false:=by
              rw[abP]
              grind
             have P:rd r i i=0:=by rw[nZ b q1];exact u
             have e3:rd r i D=rd r D i:=by rw[nZ b G,nZ p q3];exact S
             grind
           grind
     . have e:(r[i][i] !=0)=true:=by simp[u]
       simp[e];apply rn;simp
       have hb:dR r i j=true:=by unfold dR;rw[nZ b q1];simp[u]
       have:((List.range r.length).any λi=>(List.range r.length).any λj=>dR r i j)=true:=aba.2 ⟨i,aax.2 b,aba.2 ⟨j,aax.2 p,hb⟩⟩
       rw[aaB this]at h;exact .done h
   . have:j=r.length:=by omega
     subst this;refine⟨by omega,Q _ b ⟨_,rfl,by simp[a],by simp[f],by simp[d],by simp,λi' ay j ab=>?_⟩⟩
     grind
 . have:i=r.length:=by omega
   subst this
   have:((List.range r.length).any λi=>(List.range r.length).any λj=>dR r i j)=false:=by grind
   rw[this]at h;exact .done (by grind)
theorem Ej{f:Fr}(g:f.Fits)(h:KF (.val (int (check f))) σ):aA prog m 112 [cz f] σ KF:=by
 unfold check at h;have z:=g.roads;have x:=g.aD;refine fs [] Tryz.func112 rfl (by kernel_rfl) ?_;simp[Tryz.f112];refine cf Tryz.func154 rfl (zL g.roads g.row ?_);apply rn;simp;refine aH.intro (λn=>?_) (λn=>?_)<;>(try simp at n)<;>(try simp[n]at h)<;>(try simp[n])<;>(try exact .done h);refine cf Tryz.func155 rfl (dX ?_);apply rn;simp;refine uu.intro (λo=>?_) (λo=>?_)<;>(try simp at o)<;>(try simp[o]at h)<;>(try simp[o])<;>(try exact .done h);refine cf Tryz.func155 rfl (dX ?_);apply rn;simp;refine aH.intro (λp=>?_) (λp=>?_)<;>(try simp at p)<;>(try simp[p]at h)<;>(try simp[p])<;>(try exact .done h);refine aH.intro (λq=>?_) (λq=>?_)<;>(try simp[-Int.not_lt,-Int.not_le]at q)<;>(try simp[q]at h)<;>(try simp[q])<;>(try exact .done h)
 refine cf Tryz.func155 rfl (dX ?_);apply rn;simp;refine uu.intro (λr=>?_) (λr=>?_)<;>(try simp at r)<;>(try simp[r]at h)<;>(try simp[r])<;>(try exact .done h);refine cf Tryz.func155 rfl (dX ?_);apply rn;simp;refine aH.intro (λt=>?_) (λt=>?_)<;>(try simp at t)<;>(try simp[t]at h)<;>(try simp[t])<;>(try exact .done h);refine aH.intro (λu=>?_) (λu=>?_)<;>(try simp[-Int.not_lt,-Int.not_le]at u)<;>(try simp[u]at h)<;>(try simp[u])<;>(try exact .done h);refine af.loop f.aD.length (λk s=>∃env a,s=⟨env,a,[],.no⟩/\σ.Le a/\env 1=.cp (cz f) 0/\env 47=jI f.aD/\env 48=int f.aD.length/\env 49=int k/\fW (cL f.roads.length) f.aD=fW (cL f.roads.length) (f.aD.drop k)) ⟨_,_,rfl,aa.le_refl _,by simp⟩ ?_;rintro A k _ B ⟨env,a,rfl,c,w,i,j,d,e⟩ y;apply rn;simp[j,d];apply aH.intro<;>intro l<;>simp at l<;>simp[i,d,l]
 . rw[Ef _ _ k l]at e
   refine bK.intro λb hb=>?_
   simp[w];refine cf Tryz.func156 rfl (zK ⟨by omega,by omega⟩ (g.marks _ (zG l)) ?_);apply rn;simp;refine aH.intro (λv=>?_) (λv=>?_)<;>(try simp at v)<;>(try simp[v]at e)<;>(try simp[d,v])<;>(try exact .done e)
   . rw[e]at h
     exact .less (aa.pZ c hb) (.done h)
   . refine⟨by omega,y _ l ⟨_,_,rfl,aa.pZ c hb,?_,?_,?_,?_,e⟩⟩<;>simp[w,i,j]
 . have:k=f.aD.length:=by omega
   subst this;simp[fW]at e;rw[e]at h;exact .less c (.done h)
structure tT(σ:aa)(b mb:Nat)(σ':aa):Prop where
 hb:σ b=none
 CJ:σ mb=none
 ne:b≠mb
 eq:σ'=(σ.set mb (mapA .u8 [])).set b (.part (bE 6))
def MC(f:Fr)(σ:aa):adl:=λr a=>∃b mb,r=.val (.ref b 0)/\σ b=none/\σ mb=none/\b≠mb/\a=(σ.set mb (mapA .u8 [])).set b (.cells [jI f.aD,rows f.roads,int f.aU,int f.eZ,int f.cP,int f.aR,.lit (.int .i32 0),.lit (.int .u32 0),.map mb])
theorem Gi{f:Fr}(h:∀b mb σ',tT σ b mb σ'->KF (.val (kW b mb f 0)) σ'):aA prog m 157 [cz f] σ KF:=by
 refine aA.share (KF0:=MC f σ) ?_ ?_
 . refine aA.start lay [6] [] 1 Tryz.func157 rfl rfl (by rfl) (by kernel_rfl) ?_
   simp[Tryz.f157];refine vG (Ix .u8) rfl λmb CJ=>?_
   refine af.run lay [6] ?_;simp[aK];refine bK.intro λb hb=>?_
   obtain⟨d,e,hb⟩:=aa.aP hb;simp;exact .done ⟨b,mb,rfl,hb,CJ,d,rfl⟩
 . rintro r σ' ⟨b,mb,rfl,hb,CJ,a,rfl⟩
   refine .inr ⟨b,_,[6,7],bE 6,rfl,aa.an _ _ _,λi v c=>?_,λi=>?_,?_⟩
   . unfold bE at c
     split at c
     . simp_all
     simp_all
   . unfold bE
     grind
   . exact h b mb _ ⟨hb,CJ,a,by simp⟩
def ir(f:Fr)(l:adG):Int:=if check f≠0 then check f else if l.all (bt · 0 (f.aD.length-1))then 0 else 3
theorem Cf{f:Fr}{l:adG}(o:f.Fits)(v:l.length<1152921504606846976)(h:ir f l≠0->KF (.val (.ck [.lit (.pointer none),int (ir f l)])) σ)
 (q:ir f l=0->∀b mb σ',tT σ b mb σ'->KF (.val (.ck [kW b mb f 0,int 0])) σ'):aA prog m 113 [cz f,ints l] σ KF:=by
 have r:=o.aD;refine fs [] Tryz.func113 rfl (by kernel_rfl) ?_
 simp[Tryz.f113];refine cf Tryz.func112 rfl (Ej o ?_);apply rn;simp;refine aH.intro (λi=>?_) (λi=>?_)<;>simp at i<;>simp[i]
 . have:ir f l=check f:=by unfold ir;omega
   rw[this]at h;exact .done (h i)
 refine af.loop l.length (λk s=>∃env,s=⟨env,σ,[],.no⟩/\env 2=.cp (cz f) 0/\env 14=ints l/\env 15=int l.length/\env 16=int k/\(l.take k).all (bt · 0 (f.aD.length-1))=true) ⟨_,rfl,by simp⟩ ?_
 rintro w k _ x ⟨env,rfl,p,d,g,c,a⟩ t
 apply rn;simp[g,c];apply aH.intro<;>intro j<;>simp at j<;>simp[p,d,c,j]
 . refine⟨by omega,?_⟩
   refine cf Tryz.func155 rfl (dX ?_);apply rn;simp;refine aH.intro (λn=>?_) (λn=>?_)<;>(try simp at n)<;>(try simp[c,n])
   . refine⟨by omega,t _ j ⟨_,rfl,by simp[p],by simp[d],by simp[g],by simp,?_⟩⟩
     rw[zD j,List.all_append,a];simp[n]
   . have e:l.all (bt · 0 (f.aD.length-1))=false:=by
      grind
     have:ir f l=3:=by unfold ir;simp_all
     rw[this]at h;exact .done (h (by simp))
 . have:k=l.length:=by omega
   subst this;rw[aaJ]at a;have:ir f l=0:=by unfold ir;simp_all
   refine cf Tryz.func157 rfl (Gi λb mb σ' u=>?_)
   apply rn;simp;exact .done (q this b mb σ' u)
theorem Qa{b mb:Nat}{f:Fr}{l:adG}(t:f.Fits)(z:l.length<1152921504606846976)(h:KF (.val (Xx (u' f l))) σ):aA prog m 174 [kW b mb f 0,ints l] σ KF:=by
 have u:=t.aD;unfold u' at h;refine fs [] Tryz.func174 rfl (by kernel_rfl) ?_;simp[Tryz.f174];refine aH.intro (λg=>?_) (λg=>?_)<;>simp at g<;>simp[g]
 . rw[aaB (by simp[g])]at h
   exact .done h
 rw[aay (by simp_all)]at h;refine af.loop l.length (λk s=>∃env,s=⟨env,σ,[],.no⟩/\env 0=kW b mb f 0/\env 1=ints l/\env 12=ints l/\env 13=int l.length/\env 14=int k/\iW f none l=iW f (if k=0 then none else l[k-1]?) (l.drop k)) ⟨_,rfl,by simp⟩ ?_;rintro A k _ B ⟨env,rfl,p,q,d,e,c,a⟩ v;apply rn;simp[e,c];apply aH.intro<;>intro i<;>simp at i<;>simp[p,d,c,i]
 . rw [Gg f _ k i]at a
   refine⟨by omega,?_⟩;refine cf Tryz.func155 rfl (dX ?_);apply rn;simp;refine aH.intro (λj=>?_) (λj=>?_)<;>(try simp at j)<;>(try simp[j]at a)<;>(try simp[j])<;>(try exact .done a)
   . refine uu.intro (λn=>?_) (λn=>?_)<;>(try simp at n)<;>(try simp[n]at a)<;>(try simp[q,c,n])<;>(try exact .done a)
     . have w:(k:Int)-1=((k-1:Nat):Int):=by omega
       have r:k-1<l.length:=by omega
       have x:¬k=0:=by omega
       simp[w,r];repeat refine⟨by omega,?_⟩
       try simp[r,x,rV]at a
       refine aH.intro (λo=>?_) (λo=>?_)<;>(try simp at o)<;>(try simp[o]at a)<;>(try simp[c,o])<;>(try exact .done a)
       . rw[a]at h
         exact .done h
       . refine⟨by omega,v _ i ⟨_,rfl,by simp[p],by simp[q],by simp[d],by simp[e],by simp,?_⟩⟩
         grind
     . have y:k=0:=by omega
       subst y;simp[rV]at a
       simp_all
   . rw[a]at h
     exact .done h
 . have:k=l.length:=by omega
   subst this;simp[iW]at a;rw[a]at h;exact .done h
theorem Rl{a:AV}(h:KF (.val (bool false)) σ):aA prog m 111 [.lit .nilIface,a] σ KF:=by
 refine fs [] Tryz.func111 rfl (by kernel_rfl) ?_;simp[Tryz.f111];refine dU lay rfl AI rfl (.inl ⟨rfl,rfl⟩) (.inl ⟨rfl,rfl⟩) ?_;apply rn;simp;exact .done h
end
open Go.cG Go.Conc
set_option maxRecDepth 4000
variable{m:Mo}{σ:aa}{KF:adl}
theorem rW(first:adG)(others:acW)(k:Nat)(h:k<first.length):iS (first.take (k+1)) others=iS (first.take k) others++if others.all (λl=>decide (first[k]∈l))then[first[k]]else[]:=by
 unfold iS;rw[zD h,abH]
 grind
theorem Cg(first:adG)(others:acW):(iS first others).length<=first.length:=abo _ _
theorem Jj{first:adG}{others:acW}{sp f:cU}(B:first.length<=1000000000)(C:others.length<1152921504606846976)(u:∀l∈others,l.length<1152921504606846976)(h:KF (.val (ints (iS first others))) σ):aA prog m 253 [.sl 1 (first.map int) sp,.sl 1 (others.map ints) f] σ KF:=by
 refine fs [] Tryz.func253 rfl (by kernel_rfl) ?_;simp[Tryz.f253];refine af.loop first.length (λk s=>∃env e,s=⟨env,e,[],.no⟩/\env 0=.sl 1 (first.map int) sp/\env 1=.sl 1 (others.map ints) f/\env 10=.sl 1 (first.map int) sp/\env 11=int first.length/\env 12=int k/\Tok σ e (env 5) 1 ((iS (first.take k) others).map int)) ⟨_,_,rfl,by simp,by simp,by simp,by simp,by simp,.nil σ 1⟩ ?_
 rintro D k _ E ⟨env,e,rfl,n,g,c,d,b,a⟩ x;apply rn;simp[d,b];have hlen:=Cg (first.take k) others;rw[abz]at hlen;apply aH.intro<;>intro o<;>simp at o<;>simp[g,c,b,o]
 . refine af.loop others.length (λj s=>∃env,s=⟨env,e,[],.no⟩/\env 0=.sl 1 (first.map int) sp/\env 1=.sl 1 (others.map ints) f/\env 10=.sl 1 (first.map int) sp/\env 11=int first.length/\env 12=int k/\Tok σ e (env 5) 1 ((iS (first.take k) others).map int)/\env 7=int first[k]/\env 16=.sl 1 (others.map ints) f/\env 17=int others.length/\env 18=int j/\∀l∈others.take j,first[k]∈l) ⟨_,rfl,by simp[n,g,c,d,b,a]⟩ ?_
   clear n g c d b a;rintro F j _ G ⟨env,rfl,n,g,c,d,b,a,y,p,q,i,r⟩ v;apply rn;simp[q,i];apply aH.intro<;>intro t<;>simp at t<;>simp[y,p,i,t]
   . refine cf Tryz.func66 rfl (kF (u _ (zG t)) ?_)
     apply rn;simp;apply aH.intro<;>intro z<;>simp at z<;>simp[b,i,z]
     . refine⟨by omega,v _ t ⟨_,rfl,by simp[n],by simp[g],by simp[c],by simp[d],by simp[b],by simpa using a,by simp[y],by simp[p],by simp[q],by simp,λl u=>?_⟩⟩
       rw[zD t,aaC,lb]at u
       grind
     . refine⟨by omega,x _ o ⟨_,_,rfl,by simp[n],by simp[g],by simp[c],by simp[d],by simp,?_⟩⟩
       have:others.all (λl=>decide (first[k]∈l))=false:=by grind
       rw[rW _ _ _ o,this];simpa using a
   . have:j=others.length:=by omega
     subst this;rw[aaJ]at r;refine aN lay rfl rfl rfl dD rfl dD rfl rD (by decide) (by simp;omega) (σ0:=σ) (es:=(iS (first.take k) others).map int) (xs:=[int first[k]]) (by simpa using a) (.inr ⟨_,rfl⟩) λH A w=>?_
     apply rn;simp[b];refine⟨by omega,x _ o ⟨_,_,rfl,by simp[n],by simp[g],by simp[c],by simp[d],by simp,?_⟩⟩;have:others.all (λl=>decide (first[k]∈l))=true:=by grind
     rw[rW _ _ _ o,this];simpa using w
 . have:k=first.length:=by omega
   subst this;rw[aaJ]at a;exact .pM a.W (.less a.1 (.done h))
structure Fr.Good(f:Fr):Prop where
 fits:f.Fits
 fr:0<=f.aU/\f.aU<=3
 to:0<=f.eZ/\f.eZ<=3
 le:f.aU<=f.eZ
 cP:1<=f.cP/\f.cP<=6
 aR:1<=f.aR/\f.aR<=6
 pJ:f.aD.length<=6
 sJ:∀e∈f.aD,cL f.roads.length e=0
 KJ:fX f.roads=0
theorem rX(g:m5->Int):∀{l:List m5},fW g l=0->∀e∈l,g e=0
 |[],_,e,he=>by simp at he
 | a ::l,h,e,he=>by
   unfold fW at h;split at h
   . next b=>
     rcases aaQ.1 he with rfl|he
     . exact b
     . exact rX g h e he
   omega
theorem Fr.n8{f:Fr}(c:f.Fits)(h:check f=0):f.Good:=by
 unfold check at h;split at h
 . omega
 next d=>
 split at h
 . cases h
 next a=>
 split at h
 . cases h
 next e=>
 split at h
 . cases h
 next b=>
 split at h
 . cases h
 next g=>
 simp only[Bool.not_eq_false,zj]at a b;exact⟨c,dF a.1,dF a.2,by omega,dF b.1,dF b.2,by omega,rX _ h,by omega⟩
theorem oa{p:Int}{e:m5}(h:cL p e=0):(0<=e.hour/\e.hour<=72)/\(0<=e.place/\e.place<=p-1)/\(0<=e.cX/\e.cX<=5)/\(0<=e.br/\e.br<=30)/\(0<=e.jQ/\e.jQ<=2)/\tQ none e.marks=0:=by
 unfold cL at h;split at h
 . cases h
 next a=>
 split at h
 . cases h
 next b=>
 split at h
 . cases h
 next c=>
 split at h
 . omega
 next g=>
 split at h
 . cases h
 next d=>
 split at h
 . cases h
 next f=>
 simp only[Bool.not_eq_false]at a b c d f;exact⟨dF a,dF b,dF c,dF d,dF f,by omega⟩
theorem AL{f:Fr}(a:f.Good)(e:m5):(jj f e).length<=4:=by
 unfold jj;have:=a.fr;have:=a.to
 grind
theorem AM{f:Fr}(a:f.Good)(e:m5):(bU f e).length<=5:=by
 unfold bU;have:=AL a e
 grind
theorem MD{f:Fr}{e:m5}(h:e.jQ≠0):jj f e=(List.range (f.eZ-f.aU+1).toNat).map λi:Nat=>e.br-f.eZ+(i:Int):=aaB h
theorem Gj{b mb:Nat}{f:Fr}{l:adG}(H:f.Good)(Y:l≠[])(hl:l.length<=1000000)(hb:∀n∈l,0<=n/\n<f.aD.length)(h:KF (.val (ints (gk f l))) σ):aA prog m 252 [kW b mb f 0,ints l] σ KF:=by
 have h6:=H.pJ;have ad:=H.fr;have al:=H.to;have av:=H.le;refine fs VL Tryz.func252 rfl (by kernel_rfl) ?_
 simp[Tryz.f252];refine af.loop l.length (λk s=>∃env A,s=⟨env,A,[],.no⟩/\env 0=kW b mb f 0/\env 11=ints l/\env 12=int l.length/\env 13=int k/\Tok σ A (env 5) 1 ((l.take k).map λn=>ints (bU f (aS f n)))) ⟨_,_,rfl,by simp,by simp,by simp,by simp,.nil σ 1⟩ ?_
 rintro c0 k _ hk ⟨env,A,rfl,C,p,g,o,d⟩ S
 rcases abe k l.length with g1|g1
 . obtain ⟨L,n1⟩:=hb _ (zG g1)
   have n2:l[k].toNat<f.aD.length:=by omega
   obtain⟨e,he⟩:∃e,e=f.aD[l[k].toNat]:=⟨_,rfl⟩;have Z:aS f l[k]=e:=by simp[aS,zA,n2,he]
   have ax:=oa (H.sJ e (by simp_all))
   have t:(l.take (k+1)).map (λn=>ints (bU f (aS f n)))=(l.take k).map (λn=>ints (bU f (aS f n)))++[ints (bU f e)]:=by rw[zD g1,aaN];simp[Z]
   apply rn;simp[C,p,g,o,g1,L,n2,<-he];refine bK.intro λc hc=>?_
   simp
   have a7:σ c=none:=by
    cases q:σ c with
    |none=>rfl
    |some x=>rw[d.1 c x q]at hc;cases hc
   have B:Tok σ (A.set c (.cells [int e.hour,int e.place,int e.cX,ints e.marks,int e.br,int e.jQ])) (env 5) 1 ((l.take k).map λn=>ints (bU f (aS f n))):=d.beside a7 (λq=>by obtain⟨_,x,hx⟩:=d.aY q;grind)
   have G:(A.set c (.cells [int e.hour,int e.place,int e.cX,ints e.marks,int e.br,int e.jQ])) c=some (.cells [int e.hour,int e.place,int e.cX,ints e.marks,int e.br,int e.jQ]):=aa.an _ _ _;generalize A.set c (.cells [int e.hour,int e.place,int e.cX,ints e.marks,int e.br,int e.jQ])=D at B G;refine aH.intro (λM=>?_) (λM=>?_)<;>simp at M<;>simp[M]
   . have f1:-9223372036854775808<=f.eZ-f.aU/\f.eZ-f.aU<=9223372036854775807:=by omega
     have f2:-9223372036854775808<=f.eZ-f.aU+1/\f.eZ-f.aU+1<=9223372036854775807:=by omega
     simp[C,f1.1,f1.2,f2.1,f2.2];apply rn;simp;obtain⟨a5,I⟩:∃a,a=env 5:=⟨_,rfl⟩;rw[<-I]at B;obtain⟨cnt,O⟩:∃cnt:Nat,(cnt:Int)=f.eZ-f.aU+1:=⟨(f.eZ-f.aU+1).toNat,by omega⟩
     have ay:cnt<=4:=by omega
     have a8:jj f e=(List.range cnt).map λi:Nat=>e.br-f.eZ+(i:Int):=by rw[MD M];grind
     refine af.loop cnt (λj s=>∃env J,s=⟨env,J,[],.no⟩/\env 0=kW b mb f 0/\env 11=ints l/\env 12=int l.length/\env 13=int k/\env 5=a5/\env 8=.ref c 0/\env 41=int cnt/\env 42=int j/\Tok D J (env 9) 1 (((List.range j).map λi:Nat=>e.br-f.eZ+(i:Int)).map int)) ⟨_,_,rfl,by simp[C,p,g,o,<-I,O,Tok.nil]⟩ ?_
     clear C p g o d I
     rintro c1 j _ hj ⟨env,J,rfl,C,p,g,o,T,N,E,F,u⟩ a9
     have v:=u.1 _ _ G
     rcases abe j cnt with g3|g3
     . have f3:-9223372036854775808<=e.br-f.eZ/\e.br-f.eZ<=9223372036854775807:=by omega
       have f4:-9223372036854775808<=e.br-f.eZ+j/\e.br-f.eZ+j<=9223372036854775807:=by omega
       apply rn;simp[C,N,E,F,g3,v,f3.1,f3.2,f4.1,f4.2];refine aN lay rfl rfl rfl dD rfl dD rfl rD (by decide) (by simp only[aaP,acj,aaW,abx];omega) (σ0:=D) (es:=((List.range j).map λi:Nat=>e.br-f.eZ+(i:Int)).map int) (xs:=[int (e.br-f.eZ+j)]) (by simpa using u) (.inr ⟨_,rfl⟩) λa' P w=>?_
       apply pg;simp;apply rn;simp[F];refine⟨by omega,a9 _ g3 ⟨_,_,rfl,by simp[C],by simp[p],by simp[g],by simp[o],by simp[T],by simp[N],by simp[E],by simp,?_⟩⟩
       rw[aaO,aaN,aaN];simpa using w
     . have:j=cnt:=by omega
       subst this;rw[<-a8]at u;have aC:=AL H e;have U:Wl [env 9,int e.br] [ints (jj f e),int e.br]:=.cons u.W (.cons (.refl _) .nil)
       by_cases V:e.jQ=1
       . refine af.Jb 9 u.W ?_
         have y:bU f e=jj f e:=aay λq=>q.1 V
         apply rn;simp[T,N,E,F,v,V];refine aN lay rfl rfl rfl qv rfl qv rfl dD (by decide) (by simp;omega) (σ0:=σ) (es:=(l.take k).map λn=>ints (bU f (aS f n))) (xs:=[ints (bU f e)]) (by simpa using B.up u.1) (.inr ⟨_,by rw[y];simp;rfl⟩) λa4 K z=>?_
         apply rn;simp[o];refine⟨by omega,S _ g1 ⟨_,_,rfl,by simp[C],by simp[p],by simp[g],by simp,?_⟩⟩
         rw[t];simpa using z
       . have Q:(e.jQ !=1)=true:=by simp[V]
         by_cases X:e.br∈jj f e
         . have y:bU f e=jj f e:=aay λq=>q.2 X
           apply rn;simp[N,E,F,v,Q];refine bP Tryz.func66 rfl rfl U (kF (by omega) ?_)
           refine af.Jb 9 (a':=ints (jj f e)) (by simpa using u.W) ?_
           apply rn;simp[T,X];refine aN lay rfl rfl rfl qv rfl qv rfl dD (by decide) (by simp;omega) (σ0:=σ) (es:=(l.take k).map λn=>ints (bU f (aS f n))) (xs:=[ints (bU f e)]) (by simpa using B.up u.1) (.inr ⟨_,by rw[y];simp;rfl⟩) λa4 K z=>?_
           apply rn;simp[o];refine⟨by omega,S _ g1 ⟨_,_,rfl,by simp[C],by simp[p],by simp[g],by simp,?_⟩⟩
           rw[t];simpa using z
         . have y:bU f e=jj f e++[e.br]:=aaB ⟨V,X⟩
           apply rn;simp[N,E,F,v,Q];refine bP Tryz.func66 rfl rfl U (kF (by omega) ?_)
           apply rn;simp[N,X,v];refine aN lay rfl rfl rfl dD rfl dD rfl rD (by decide) (by simp;omega) (σ0:=D) (es:=(jj f e).map int) (xs:=[int e.br]) (by simpa using u) (.inr ⟨_,rfl⟩) λa' P w=>?_
           refine af.Jb 74 (a':=AV.sl 1 ((jj f e).map int++[int e.br]) .any) (by simpa using w.W) ?_
           apply rn;simp[T];refine aN lay rfl rfl rfl qv rfl qv rfl dD (by decide) (by simp;omega) (σ0:=σ) (es:=(l.take k).map λn=>ints (bU f (aS f n))) (xs:=[ints (bU f e)]) (by simpa using B.up w.1) (.inr ⟨_,by rw[y];simp;rfl⟩) λa4 K z=>?_
           apply rn;simp[o];refine⟨by omega,S _ g1 ⟨_,_,rfl,by simp[C],by simp[p],by simp[g],by simp,?_⟩⟩
           rw[t];simpa using z
   . have y:bU f e=[e.br]:=by
      simp[bU,jj,M]
     simp[G,M];have U:Wl [AV.lit (.slice none 0 0),int e.br] [ints [],int e.br]:=.cons (fa 1) (.cons (.refl _) .nil);refine bP Tryz.func66 rfl rfl U (kF (by simp) ?_)
     apply rn;simp[G];refine aN lay rfl rfl rfl dD rfl dD rfl rD (by decide) (by simp) (σ0:=D) (es:=[]) (xs:=[int e.br]) (by simpa using Tok.nil D 1) (.inr ⟨_,rfl⟩) λa' P w=>?_
     refine af.Jb 74 (a':=AV.sl 1 [int e.br] .any) (by simpa using w.W) ?_
     apply rn;simp;refine aN lay rfl rfl rfl qv rfl qv rfl dD (by decide) (by simp;omega) (σ0:=σ) (es:=(l.take k).map λn=>ints (bU f (aS f n))) (xs:=[ints (bU f e)]) (by simpa using B.up w.1) (.inr ⟨_,by rw[y];simp;rfl⟩) λa4 K z=>?_
     apply rn;simp[o];refine⟨by omega,S _ g1 ⟨_,_,rfl,by simp[C],by simp[p],by simp[g],by simp,?_⟩⟩
     rw[t];simpa using z
 . have:k=l.length:=by omega
   subst this;rw[aaJ]at d;refine af.Jb 5 d.W ?_;have R:0<l.length:=List.length_pos_iff.2 Y;apply rn;simp[g,o,R];refine sd lay rfl qv rfl dD (es:=l.map λn=>ints (bU f (aS f n))) (sp:=.any) (l:=1) (h:=l.length) ?_ (λcap ab=>⟨rfl,⟨rfl,by simp⟩,⟨_,rfl⟩,by omega⟩) (by simp) ?_
   . simp
   obtain⟨L,r,rfl⟩:∃L r,l=L::r:=by
    cases l with
    |nil=>simp_all
    |cons a r=>simp_all
   apply pg;simp
   have e:List.take r.length (List.map (λn=>ints (bU f (aS f n))) r)=(r.map λn=>bU f (aS f n)).map ints:=by
    rw[abt (by simp)]
    simp
   rw[e];have hlen:=AM H (aS f L);refine cf Tryz.func253 rfl (Jj (first:=bU f (aS f L)) (others:=r.map λn=>bU f (aS f n)) (by omega) (by grind) (λx hx=>?_) ?_)
   . obtain⟨n,_,rfl⟩:=aaL.1 hx
     have:=AM H (aS f n);omega
   apply pg;simp;apply rn;simp;refine .less d.1 (.done ?_);simpa[gk]using h
theorem vU{f:Fr}(h:check f=0):ir f []=0:=by unfold ir;simp_all
theorem Gk{f:Fr}{l:adG}(h:check f=0)(a:∀n∈l,0<=n/\n<f.aD.length):ir f l=0:=by
 unfold ir;rw[aay (by simp[h]),aaB];rw[aaD];intro n b;have:=a n b;simp[bt];omega
theorem tT.le{σ σ':aa}{b mb:Nat}(h:tT σ b mb σ'):σ.Le σ':=by rw[h.eq];exact aa.pZ (aa.pZ (aa.le_refl _) h.CJ) (by rw[aa.ai _ _ h.ne];exact h.hb)
structure Sm(f:Fr)(l:adG):Prop where
 ok:u' f l=0
 len:l.length<=1000000
theorem HY(f:Fr):∀{l:adG}{p:adB},iW f p l=0->∀n∈l,0<=n/\n<f.aD.length
 |[],_,_,n,hn=>by simp at hn
 | a::l,p,h,n,hn=>by
   unfold iW at h;split at h
   . cases h
   next b=>
   split at h
   . cases h
   next c=>
   rcases aaQ.1 hn with rfl|hn
   . simp[bt]at b;omega
   . exact HY f h n hn
theorem Sm.mem{f:Fr}{l:adG}(h:Sm f l):∀n∈l,0<=n/\n<f.aD.length:=by
 have:=h.ok;unfold u' at this;split at this
 . cases this
 . exact HY f this
theorem Sm.ne{f:Fr}{l:adG}(h:Sm f l):l≠[]:=λe=>by have:=h.ok;subst e;simp[u']at this
theorem Jk{f:Fr}{l:adG}(e:f.Fits)(i:check f=0)(g:Sm f l)(h:∀b mb σ',tT σ b mb σ'->KF (.val (.ck [kW b mb f 0,int 0])) σ'):aA prog m 143 [cz f,ints l] σ KF:=by
 have j:=g.len;refine fs Vz Tryz.func143 rfl (by kernel_rfl) ?_;simp[Tryz.f143];have a:=vU i;have k:Wl [AV.agg (Ee f),AV.lit (.slice none 0 0)] [cz f,ints []]:=.cons (.refl _) (.cons (fa 1) .nil);refine bP Tryz.func113 rfl rfl k (Cf e (by simp) (λq=>absurd a q) λ_ b mb σ' n=>?_);apply rn;simp;refine bK.intro λc d=>?_
 simp;refine cf Tryz.func174 rfl (Qa e (by omega) ?_);rw[g.ok];apply rn;simp;refine cf Tryz.func111 rfl (Rl ?_);apply rn;simp;exact .less (aa.pZ (aa.le_refl _) d) (.done (h b mb σ' n))
theorem Ch{a n:Int}(b:0<=n)(h:KF (.val (u8 (bT a n))) σ):aA prog m 257 [u8 a,int n] σ KF:=by
 refine fs [] Tryz.func257 rfl (by kernel_rfl) ?_;simp[Tryz.f257];refine⟨b,?_⟩;simp[tR];exact .done h
theorem pf{l:adG}(o:l.length<1152921504606846976)(f:∀n∈l,0<=n)(h:KF (.val (u8 (aT l))) σ):aA prog m 255 [ints l] σ KF:=by
 refine fs [] Tryz.func255 rfl (by kernel_rfl) ?_;simp[Tryz.f255];refine af.loop l.length (λk s=>∃env,s=⟨env,σ,[],.no⟩/\env 3=u8 (aT (l.take k))/\env 4=.fn (.func 257) [u8 (aT (l.take k))] []/\env 9=ints l/\env 10=int l.length/\env 11=int k) ⟨_,rfl,by simp[aT]⟩ ?_;rintro p k _ q ⟨env,rfl,g,i,d,b,a⟩ j;apply rn;simp[b,a];apply aH.intro<;>intro c<;>simp at c<;>simp[g,i,d,a,c]
 . have e:aT (l.take (k+1))=bT (aT (l.take k)) l[k]:=by
    unfold aT;rw[zD c,abf];rfl
   refine dp Tryz.func257 rfl rfl rfl (Ch (f _ (zG c)) ?_);rw[<-e];apply rn;simp[a];exact⟨by omega,j _ c ⟨_,rfl,by simp[d,b]⟩⟩
 . have:k=l.length:=by omega
   subst this;rw[aaJ];exact .done h
def Ci(x:Int):Int:=Eg x (Rk x 1)
def tV:Nat->Int->Int
 |0,x=>x
 |n+1,x=>Ci (tV n x)
def Jl:Nat->Int->Int
 |0,_=>0
 |n+1,x=>if x=0 then 0 else 1+Jl n (Ci x)
def bM(a b:Int):Int:=Jl 8 (yy a b)
theorem yz{a b:Int}(l:tV 8 (yy a b)=0)(h:KF (.val (int (bM a b))) σ):aA prog m 256 [u8 a,u8 b] σ KF:=by
 refine fs [] Tryz.func256 rfl (by kernel_rfl) ?_
 simp[Tryz.f256,Jh];refine af.loop 8 (λk s=>∃env,s=⟨env,σ,[],.no⟩/\env 5=int k/\env 6=u8 (tV k (yy a b))/\bM a b=k+Jl (8-k) (tV k (yy a b))) ⟨_,rfl,by simp,by simp;rfl,by simp[tV,bM]⟩ ?_
 rintro n k _ o ⟨env,rfl,g,f,c⟩ i
 apply rn;simp[f];apply aH.intro<;>intro d<;>simp at d<;>simp[g,f,d]
 . have j:k<8:=by
    grind
   refine⟨by omega,?_⟩
   simp[va,Ji];refine i _ j ⟨_,rfl,by simp,by simp[tV,Ci],?_⟩
   have e:8-k=(8-(k+1))+1:=by omega
   rw[e,Jl,aay d]at c;rw[c];simp only[tV];omega
 . rw[d]at c
   have e:Jl (8-k) 0=0:=by cases 8-k<;>simp[Jl]
   rw[e]at c;rw[c]at h;exact .done (by grind)
abbrev yA(x:Int):AV:=.agg [u8 x]
theorem Qb{x n:Int}(a:0<=n)(h:KF (.val (yA (bT x n))) σ):aA prog m 187 [yA x,int n] σ KF:=by
 refine aA.start lay [2] VF 2 Tryz.func187 rfl rfl (by rfl) (by kernel_rfl) ?_;simp[Tryz.f187];refine bK.intro λc f=>?_
 simp;refine bK.intro λd hd=>?_
 obtain⟨b,e,hd⟩:=aa.aP hd;simp[e,aa.ai,tR,a];refine af.run lay [2] ?_;simp[b,aa.ai];exact .less (by repeat (first|exact aa.le_refl _|assumption|refine aa.fC ?_ (by assumption)|refine aa.lR ?_ (by assumption))) (.done h)
theorem ME{x:Int}(h:KF (.val (ints (aB x))) σ):aA prog m 205 [yA x] σ KF:=by
 refine fs [] Tryz.func205 rfl (by kernel_rfl) ?_;simp[Tryz.f205];refine af.loop 6 (λk s=>∃env b,s=⟨env,b,[],.no⟩/\env 1=.cp (yA x) 0/\env 5=int k/\Tok σ b (env 3) 1 ((((List.range k).map λn:Nat=>(n:Int)).filter λn=>fR x n).map int)) ⟨_,_,rfl,by simp,by simp,.nil σ 1⟩ ?_;rintro l k _ o ⟨env,b,rfl,d,c,a⟩ f;rcases abe k 6 with g1|g1
 . have e:(k:Int)<6:=by omega
   have p:(((List.range k).map λn:Nat=>(n:Int)).filter λn=>fR x n).length<=k:=by grind
   have q:(((List.range (k+1)).map λn:Nat=>(n:Int)).filter λn=>fR x n)=(((List.range k).map λn:Nat=>(n:Int)).filter λn=>fR x n)++if fR x k then[(k:Int)]else[]:=by
    rw[aaO,aaN,abH]
    grind
   apply rn;simp[d,c,e,va];have g:fR x k=(Eg (x.fdiv (2 ^ min k IntKind.u8.bits)) 1==1):=by simp[fR]
   rw[<-g];cases hb:fR x k
   . simp[c]
     refine⟨by omega,f _ g1 ⟨_,_,rfl,by simp[d],by simp,?_⟩⟩
     simp_all
   . simp
     refine aN lay rfl rfl rfl dD rfl dD rfl rD (by decide) (by grind) (σ0:=σ) (es:=(((List.range k).map λn:Nat=>(n:Int)).filter λn=>fR x n).map int) (xs:=[int k]) (by simp_all) (.inr ⟨_,rfl⟩) λr i j=>?_
     apply rn;simp[c];refine⟨by omega,f _ g1 ⟨_,_,rfl,by simp[d],by simp,?_⟩⟩
     simp_all
 . have:k=6:=by omega
   subst this;apply rn;simp[c];exact .pM a.W (.less a.1 (.done h))
def iu(a b:Int):Int:=if 0<a/\a<b then 3 else if a=b then 1 else 2
theorem Gl{a b:Int}(h:KF (.val (int (iu a b))) σ):aA prog m 202 [int a,int b] σ KF:=by
 unfold iu at h;refine fs [] Tryz.func202 rfl (by kernel_rfl) ?_;simp[Tryz.f202];refine uu.intro (λd=>?_) (λd=>?_)<;>(try simp[-Int.not_lt,-Int.not_le]at d)<;>(try simp[d]at h)<;>(try simp[d])<;>(try exact .done h)
 . refine aH.intro (λe=>?_) (λe=>?_)<;>(try simp[-Int.not_lt,-Int.not_le]at e)<;>(try simp[e]at h)<;>(try simp[e])<;>(try exact .done h)
   . have:a≠b:=by omega
     apply aH.intro<;>intro c<;>simp at c<;>simp[c]
     . omega
     . exact .done h
   . refine aH.intro (λc=>?_) (λc=>?_)<;>(try simp at c)<;>(try simp[c]at h)<;>(try simp[c])<;>(try exact .done h)
 . refine aH.intro (λc=>?_) (λc=>?_)<;>(try simp at c)<;>(try simp[c]at h)<;>(try simp[c])<;>(try exact .done h)
theorem Jm{l:adG}(b:l≠[])(c:l.length<=1000000000)(h:∀a σ',cJ σ σ' a 1 (l.map int)->KF (.val a) σ'):aA prog m 80 [ints l] σ KF:=by
 refine fs [] Tryz.func80 rfl (by kernel_rfl) ?_;simp[Tryz.f80];refine CX lay rfl dD rfl rfl (.inr (.inl ⟨rfl,by simp_all,rfl⟩)) (.inl ⟨rfl,rfl⟩) ?_;apply rn;simp;refine sV lay rfl rfl rfl dD rfl dD rfl rD (by decide) (by simp;omega) (σ0:=σ) (es:=[]) (xs:=l.map int) (.empty σ 1) (.inl (.inr ⟨_,rfl⟩)) (by simp) λd σ' e=>?_
 apply rn;simp;exact .done (h _ _ (by simp_all))
def eP(lt:ade)(x:Int):adG->adG
 |[]=>[x]
 |y::r=>if lt x y then y::eP lt x r else x::y::r
def fe(lt:ade)(l:adG):adG:=l.foldl (λr x=>eP lt x r) []
theorem Ek(lt:ade)(x:Int):∀r,(eP lt x r).length=r.length+1
 |[]=>rfl
 |y::r=>by unfold eP;split<;>simp[Ek lt x r]
theorem lI(lt:ade)(l:adG):(fe lt l).length=l.length:=by
 have key:∀(l r:adG),(l.foldl (λr x=>eP lt x r) r).length=r.length+l.length:=by
  intro l;induction l with
  |nil=>intro r;rfl
  |cons a l b=>intro r;rw[abr,b,Ek];simp;omega
 rw[fe,key];simp
theorem El(lt:ade)(x:Int):∀(r:adG) (y:Int),y∈eP lt x r↔y=x\/y∈r
 |[],y=>by simp[eP]
 | z ::r,y=>by
   unfold eP;split
   . rw[aaQ,El lt x r y,aaQ]
     grind
   . simp
theorem vb(lt:ade)(l:adG)(y:Int):y∈fe lt l↔y∈l:=by
 have key:∀(l r:adG),y∈l.foldl (λr x=>eP lt x r) r↔y∈r\/y∈l:=by
  intro l;induction l with
  |nil=>grind
  | cons a l b=>
    intro r;rw[abr,b,El,aaQ]
    grind
 rw[fe,key];simp
def Em(m:Mo)(y:AV)(c:adk)(In:Int->Prop):Prop:=∀(a b:Int) (σ:aa) (KF:adl),In a->In b->KF (.val (int (c a b))) σ->bI prog m y [int a,int b] σ KF
theorem Xy{α:Type}{A B:List α}{x y:α}{n:Nat}(a:A.length=n):(A++y::x::B)[n]?=some y/\(A++y::x::B)[n+1]?=some x/\((A++y::x::B).set n x).set (n+1) y=A++x::y::B/\((A++y::x::B).set (n+1) y).set n x=A++x::y::B:=by simp_all
theorem Gm{y:AV}{c:adk}{In:Int->Prop}{l:adG}{b cap:Nat}{rest:adL}(W:Em m y c In)(J:∀x∈l,In x)(hl:l.length<=1000000)(hb:σ b=some (.cells (l.map int++rest)))
 (h:KF (.val (.ck [])) (σ.set b (.cells ((fe (λa b=>decide (c a b<0)) l).reverse.map int++rest)))):aA prog m 209 [.ib b 0 l.length cap,int 0,int l.length,y] σ KF:=by
 refine fs VJ Tryz.func209 rfl (by kernel_rfl) ?_
 simp[Tryz.f209];obtain⟨lt,D⟩:∃lt,lt=λa b=>decide (c a b<0):=⟨_,rfl⟩
 rw[<-D]at h;refine af.loop l.length (λi s=>∃env g,s=⟨env,g,[],.no⟩/\env 0=.ib b 0 l.length cap/\env 1=int 0/\env 2=int l.length/\env 3=y/\env 8=int ((i:Int)+1)/\g=σ.set b (.cells ((fe lt (l.take (i+1))).reverse.map int++((l.drop (i+1)).map int++rest)))) ⟨_,_,rfl,by simp,by simp,by simp,by simp,by simp,?_⟩ ?_
 . have e:(fe lt (l.take 1)).reverse.map int++((l.drop 1).map int++rest)=l.map int++rest:=by
    cases l with
    |nil=>simp[fe]
    |cons a l=>simp[fe,eP]
   rw[e]
   funext d
   by_cases q:d=b
   . simp_all
   . rw[aa.ai _ _ q]
 rintro c0 i _ hi ⟨env,g,rfl,t,u,v,E,w,j⟩ X
 rcases abe (i+1) l.length with g1|g1
 . have Q:(i:Int)+1<l.length:=by omega
   obtain⟨S,M⟩:∃S,S=fe lt (l.take (i+1)):=⟨_,rfl⟩;have R:S.length=i+1:=by rw[M,lI,abz];omega
   have T:∀x∈S,In x:=λx N=>J x (aco ((vb lt _ x).1 (M ▸ N)))
   have F:fe lt (l.take (i+1+1))=eP lt l[i+1] S:=by rw[M,fe,zD g1,abf];rfl
   obtain⟨x,N⟩:∃x,x=l[i+1]:=⟨_,rfl⟩;have K:In x:=J x (by simp_all)
   have U:l.drop (i+1)=x::l.drop (i+2):=by rw[N];exact abc g1
   rw[<-M,U]at j;rw[<-N]at F;apply rn;simp[v,w,Q]
   refine af.loop (i+1) (λk s=>∃env g r f,s=⟨env,g,[],.no⟩/\env 0=.ib b 0 l.length cap/\env 1=int 0/\env 2=int l.length/\env 3=y/\env 8=int ((i:Int)+1)/\env 9=int f.length/\S=r++f/\f.length+k=i+1/\eP lt x S=r++eP lt x f/\
    g=σ.set b (.cells ((f.reverse.map int)++int x::(r.reverse.map int++((l.drop (i+2)).map int++rest))))) ⟨_,_,[],S,rfl,by simp[t],by simp[u],by simp[v],by simp[E],by simp[w],by simp[R],rfl,by omega,rfl,by grind⟩ ?_
   clear t u v E w j
   rintro c1 k _ hk ⟨env,g,r,f,rfl,t,u,v,E,w,O,G,hlen,p,j⟩ V
   cases f with
   | nil=>
     simp only[abx,abL]at hlen;simp only[abh]at G;subst G
     have o:g=σ.set b (.cells ((fe lt (l.take (i+1+1))).reverse.map int++((l.drop (i+1+1)).map int++rest))):=by rw[j,F,p];simp[eP]
     apply rn;simp[u,O];refine⟨?_,?_⟩
     all_goals
      apply rn;simp[w];refine⟨by omega,X _ (by omega) ⟨_,_,rfl,?_,?_,?_,?_,?_,o⟩⟩<;>simp[t,u,v,E]
   | cons z f=>
     obtain⟨e1,e2,e3,e4⟩:=Xy (A:=f.reverse.map int) (B:=r.reverse.map int++((l.drop (i+2)).map int++rest)) (x:=int x) (y:=int z) (n:=f.length) (by simp)
     have C:g b=some (.cells (f.reverse.map int++int z::int x::(r.reverse.map int++((l.drop (i+2)).map int++rest)))):=by rw[j,aa.an];simp
     have L:In z:=T z (by grind)
     have f1:(0:Int)<(f.length:Int)+1:=by omega
     have Y:(f.length:Int)+1<l.length:=by grind
     have Z:(f.length:Int)<l.length:=by omega
     have f4:(0:Int)<=(f.length:Int)+1:=by omega
     have f5:((f.length:Int)+1).toNat=f.length+1:=by omega
     have I:-9223372036854775808<=(f.length:Int)/\(f.length:Int)<=9223372036854775807:=by omega
     apply rn;simp[t,u,E,O,f1,Y,Z,f4,f5,I.1,I.2,C];refine⟨W _ _ _ _ K L ?_,W _ _ _ _ K L ?_⟩
     all_goals
      apply pg;simp;apply rn;simp
      by_cases P:c x z<0
      . have f7:f.length+1+1<=f.length+(r.length+(l.length-(i+2)+rest.length)+1+1):=by omega
        have f8:f.length+1<=f.length+(r.length+(l.length-(i+2)+rest.length)+1+1):=by omega
        have H:eP lt x (z::f)=z::eP lt x f:=by rw[D];simp[eP,P]
        simp[t,O,P,f5,I.1,I.2,Y,Z,f4,C,f7,f8];apply rn;simp[O,I.1,I.2];refine V _ (by simp at hlen;omega) ⟨_,_,r++[z],f,rfl,by simp[t],by simp[u],by simp[v],by simp[E],by simp[w],by simp,by rw[G];simp,by simp at hlen;omega,by rw[p,H];simp,?_⟩
        rw[j];simp
      . have H:eP lt x (z::f)=x::z::f:=by rw[D];simp[eP,P]
        have o:g=σ.set b (.cells ((fe lt (l.take (i+1+1))).reverse.map int++((l.drop (i+1+1)).map int++rest))):=by rw[j,F,p,H];simp
        simp[w,P];refine⟨by omega,X _ (by omega) ⟨_,_,rfl,?_,?_,?_,?_,?_,o⟩⟩<;>simp[t,u,v,E]
 . have o:(fe lt (l.take (i+1))).reverse.map int++((l.drop (i+1)).map int++rest)=(fe lt l).reverse.map int++rest:=by
    rw[abt (by omega),List.drop_of_length_le (by omega)];simp
   rw[o]at j;have g2:¬(i:Int)+1<l.length:=by omega
   apply rn;simp[v,w,g2];rw[j];exact .done h
theorem Cj{y:AV}{c:adk}{In:Int->Prop}{l:adG}{b cap:Nat}{rest:adL}(q:Em m y c In)(g:∀x∈l,In x)(w:l.length<20)(hb:σ b=some (.cells (l.map int++rest)))
 (h:KF (.val (.ck [])) (σ.set b (.cells ((fe (λa b=>decide (c a b<0)) l).reverse.map int++rest)))):aA prog m 206 [.ib b 0 l.length cap,int l.length,y] σ KF:=by
 refine fs [] Tryz.func206 rfl (by kernel_rfl) ?_;simp[Tryz.f206];have r:¬(20:Int)<=l.length:=by omega
 have t:¬(20:Int)<l.length:=by omega
 refine af.loop 1 (λk s=>∃env,s=⟨env,σ,[],.no⟩/\env 0=.ib b 0 l.length cap/\env 1=int l.length/\env 2=y/\env 6=int 20/\env 7=int 0/\env 8=int 20) ⟨_,rfl,by simp⟩ ?_;rintro z k _ u ⟨env,rfl,j,e,n,f,o,p⟩ v;apply rn;simp[j,e,n,o,p,r];refine cf Tryz.func209 rfl (Gm q g (by omega) hb ?_);apply rn;simp;refine af.loop 1 (λk s=>∃env d,s=⟨env,d,[],.no⟩/\env 1=int l.length/\env 6=int 20/\d=σ.set b (.cells ((fe (λa b=>decide (c a b<0)) l).reverse.map int++rest))) ⟨_,_,rfl,by simp[e,f]⟩ ?_;clear j e n f o p;rintro A k _ u ⟨env,d,rfl,e,f,i⟩ v;apply rn;simp[e,f,t];rw[i];exact .done h
theorem tW{y:AV}{c:adk}{In:Int->Prop}{l:adG}{b cap:Nat}{rest:adL}(e:Em m y c In)(d:∀x∈l,In x)(f:l.length<20)(hb:σ b=some (.cells (l.map int++rest)))
 (h:KF (.val (.ck [])) (σ.set b (.cells ((fe (λa b=>decide (c a b<0)) l).reverse.map int++rest)))):aA prog m 198 [.ib b 0 l.length cap,y] σ KF:=by
 refine fs [] Tryz.func198 rfl (by kernel_rfl) ?_;simp[Tryz.f198];refine cf Tryz.func206 rfl (Cj e d f hb ?_);apply rn;simp;exact .done (by simpa using h)
theorem Qc{y:AV}{c:adk}{In:Int->Prop}{l:adG}(r:Em m y c In)(f:∀x∈l,In x)(s:l.length<20)(g:l≠[])(i:y.cells=[y]/\y.flat=true)(h:KF (.val (ints (fe (λa b=>decide (c a b<0)) l).reverse)) σ):aA prog m 177 [.agg [y],ints l] σ KF:=by
 refine fs [] Tryz.func177 rfl (by kernel_rfl) ?_;simp[Tryz.f177,i.2];refine cf Tryz.func80 rfl (Jm g (by omega) λa j k=>?_)
 obtain⟨b,cap,rest,rfl,n,o,v,p,q⟩:∃b cap rest,a=.ib b 0 (l.map int).length cap/\σ b=none/\(l.map int).length<=cap/\(∀e∈l.map int,e.cells.length=1)/\j b=some (.cells (flatten (l.map int)++rest))/\rest.length=(cap-(l.map int).length)*1:=by
  rcases k.2 with⟨e,_⟩|h
  . simp_all
  . exact h
 have d:∀l:adG,flatten (l.map int)=l.map int:=λl=>by
  induction l with
  |nil=>rfl
  |cons a l t=>simp[flatten_cons,AV.cells,t]
 rw[d]at p;rw[aaP]at o q ⊢;apply rn;simp;refine cf Tryz.func198 rfl (tW r f s p ?_);apply rn;simp;refine cJ.thaw (σ0:=σ) (kk:=1) (es:=(fe (λa b=>decide (c a b<0)) l).reverse.map int) ⟨aa.fC k.1 n,.inr ⟨b,cap,rest,?_,n,?_,λe u=>?_,?_,?_⟩⟩ h
 . simp[lI]
 . simpa[lI]using o
 . obtain⟨x,_,rfl⟩:=aaL.1 u;rfl
 . rw[d];simp
 . simpa[lI]using q
def vd(f:Fr)(a b:Int):Int:=Ce (aS f a).hour (aS f b).hour
theorem Qd{b mb:Nat}{f:Fr}{x y:Int}(d:0<=x/\x<f.aD.length)(e:0<=y/\y<f.aD.length)(h:KF (.val (int (vd f x y))) σ):aA prog m 175 [int x,int y,.cp (kW b mb f 0) 0] σ KF:=by
 have a:x.toNat<f.aD.length:=by omega
 have c:y.toNat<f.aD.length:=by omega
 have ex:aS f x=f.aD[x.toNat]:=by simp[aS,zA,a]
 have g:aS f y=f.aD[y.toNat]:=by simp[aS,zA,c]
 unfold vd at h;rw[ex,g]at h;refine fs VD Tryz.func175 rfl (by kernel_rfl) ?_;simp[Tryz.f175,a,c,d.1,e.1];refine cf Tryz.func176 rfl (Gh ?_);apply pg;simp;apply rn;simp;exact .done h
theorem MF{b mb:Nat}{f:Fr}:Em m (.fn (.func 175) [] [.cp (kW b mb f 0) 0]) (vd f) (λn=>0<=n/\n<f.aD.length):=λx y σ KF a c h=>by refine dp Tryz.func175 rfl rfl rfl (Qd a c h)
structure O3(f:Fr)(l:adG):Prop where
 mem:∀n∈l,0<=n/\n<f.aD.length
 ne:l≠[]
 len:l.length<=1000000
def eo(f:Fr)(l:adG):Bool:=l.any λn=>decide ((aS f n).cX≠(aS f (l.getD 0 0)).cX)
theorem tX{f:Fr}{x:Int}(h:x.toNat<f.aD.length):aS f x=f.aD[x.toNat]:=by simp[aS,zA,h]
theorem Gn{b mb:Nat}{f:Fr}{l:adG}(u:O3 f l)(h:KF (.val (bool (eo f l))) σ):aA prog m 250 [.agg [],kW b mb f 0,ints l] σ KF:=by
 obtain⟨i,g,hlen⟩:=u;have a:0<l.length:=List.length_pos_iff.2 g;obtain⟨v,A⟩:=i _ (zG a);have j:l[0].toNat<f.aD.length:=by omega
 have w:l.getD 0 0=l[0]:=by simp_all
 unfold eo at h;rw[w]at h;refine fs VK Tryz.func250 rfl (by kernel_rfl) ?_;simp[Tryz.f250];refine af.loop l.length (λk s=>∃env,s=⟨env,σ,[],.no⟩/\env 1=kW b mb f 0/\env 2=ints l/\env 9=ints l/\env 10=int l.length/\env 11=int k/\∀n∈l.take k,(aS f n).cX=(aS f l[0]).cX) ⟨_,rfl,by simp⟩ ?_;rintro B k _ C ⟨env,rfl,o,p,q,c,d,e⟩ x;rcases abe k l.length with g1|g1
 . obtain⟨y0,D⟩:=i _ (zG g1)
   have r:l[k].toNat<f.aD.length:=by omega
   have E:=tX r;have F:=tX j;apply rn;simp[o,p,q,c,d,g1,a,y0,r,v,j];apply rn;simp;by_cases t:f.aD[l[k].toNat].cX=f.aD[l[0].toNat].cX
   . simp[d,t]
     refine⟨by omega,x _ g1 ⟨_,rfl,by simp[o],by simp[p],by simp[q],by simp[c],by simp,λn y=>?_⟩⟩;rw[zD g1,aaC,lb]at y
     grind
   . have z:(f.aD[l[k].toNat].cX !=f.aD[l[0].toNat].cX)=true:=by simp[t]
     have:l.any (λn=>decide ((aS f n).cX≠(aS f l[0]).cX))=true:=aba.2 ⟨_,zG g1,by simp_all⟩;rw[this]at h;simp[z];exact .done h
 . have:k=l.length:=by omega
   subst this;rw[aaJ]at e;have:l.any (λn=>decide ((aS f n).cX≠(aS f l[0]).cX))=false:=by simp_all
   rw[this]at h;apply rn;simp[c,d];exact .done h
def cY(f:Fr)(l:adG):Bool:=decide (gk f l=[])
theorem Gp{b mb:Nat}{f:Fr}{l:adG}(g:f.Good)(c:O3 f l)(h:KF (.val (bool (cY f l))) σ):aA prog m 251 [.agg [],kW b mb f 0,ints l] σ KF:=by
 refine fs [] Tryz.func251 rfl (by kernel_rfl) ?_;simp[Tryz.f251];refine cf Tryz.func252 rfl (Gj g c.ne c.len c.mem ?_);apply rn;simp;unfold cY at h;cases d:gk f l with
 |nil=>rw[d]at h;exact .done h
 | cons a r=>
   rw[d]at h;have e:((r.length:Int)+1==0)=false:=by grind
   refine .done ?_;simpa[e]using h
def gY(f:Fr)(x y:Int):Bool:=decide ((aS f y).hour-(aS f x).hour<rd f.roads (aS f x).place.toNat (aS f y).place.toNat+f.cP*bM (aT (aS f x).marks) (aT (aS f y).marks))
def dC(f:Fr)(l:adG):Bool:=(List.range (l.length-1)).any λi=>gY f (l.getD i 0) (l.getD (i+1) 0)
theorem rk:∀{l:adG}{p:adB},tQ p l=0->∀n∈l,0<=n/\n<=4
 |[],_,_,n,hn=>by simp at hn
 | a::l,p,h,n,hn=>by
   unfold tQ at h;split at h
   . cases h
   next b=>
   split at h
   . cases h
   next c=>
   rcases aaQ.1 hn with rfl|hn
   . simp[bt]at b;omega
   . exact rk h n hn
theorem Jn:∀a:Fin 32,∀n:Fin 5,0<=bT (a.val:Int) (n.val:Int)/\bT (a.val:Int) (n.val:Int)<32:=by decide
theorem kG{l:adG}(h:∀n∈l,0<=n/\n<=4):0<=aT l/\aT l<32:=by
 have key:∀(l:adG) (a:Int),(∀n∈l,0<=n/\n<=4)->0<=a/\a<32->0<=l.foldl bT a/\l.foldl bT a<32:=by
  intro l;induction l with
  |nil=>simp_all
  | cons x l c=>
    intro a b e;rw[abr];refine c _ (λn d=>b n (abD _ d)) ?_;obtain⟨f,g⟩:=b x (acy ..);have:=Jn ⟨a.toNat,by omega⟩ ⟨x.toNat,by omega⟩;have i:(a.toNat:Int)=a:=by omega
    have j:(x.toNat:Int)=x:=by omega
    simp_all
 exact key l 0 h (by omega)
theorem MG:∀a:Fin 32,∀b:Fin 32,tV 8 (yy (a.val:Int) (b.val:Int))=0/\0<=bM (a.val:Int) (b.val:Int)/\bM (a.val:Int) (b.val:Int)<=5:=by decide +kernel
theorem HZ{a b:Int}(c:0<=a/\a<32)(hb:0<=b/\b<32):tV 8 (yy a b)=0/\0<=bM a b/\bM a b<=5:=by
 have:=MG ⟨a.toNat,by omega⟩ ⟨b.toNat,by omega⟩
 grind
theorem Fr.Good.row{f:Fr}(a:f.Good){i:Nat}(hi:i<f.roads.length):f.roads[i].length=f.roads.length/\∀x∈f.roads[i],0<=x/\x<=9:=by
 have h:=a.KJ;unfold fX at h;split at h
 . cases h
 split at h
 . cases h
 split at h
 . omega
 next q=>
 obtain⟨b,c⟩:=lr (by simpa using q) _ (zG hi);exact⟨b,λx d=>dF (c x d)⟩
theorem Gq{b mb:Nat}{f:Fr}{l:adG}(j:f.Good)(hl:O3 f l)(h:KF (.val (bool (dC f l))) σ):aA prog m 254 [.agg [],kW b mb f 0,ints l] σ KF:=by
 obtain⟨S,a7,hlen⟩:=hl;have p:=j.cP;unfold dC at h;refine fs VM Tryz.func254 rfl (by kernel_rfl) ?_
 simp[Tryz.f254];refine af.loop (l.length-1) (λk s=>∃env a,s=⟨env,a,[],.no⟩/\σ.Le a/\env 1=kW b mb f 0/\env 2=ints l/\env 7=int ((k:Int)+1)/\∀i<k,gY f (l.getD i 0) (l.getD (i+1) 0)=false) ⟨_,_,rfl,aa.le_refl _,by simp⟩ ?_
 rintro c0 k _ hk ⟨env,a,rfl,q,r,w,x,T⟩ U
 rcases abe (k+1) l.length with g1|g1
 . have K:(k:Int)+1<l.length:=by omega
   have L:k<l.length:=by omega
   obtain⟨x0,x1⟩:=S _ (zG L);obtain⟨y0,y1⟩:=S _ (zG g1);have y:l[k].toNat<f.aD.length:=by omega
   have z:l[k+1].toNat<f.aD.length:=by omega
   have f1:-9223372036854775808<=(k:Int)/\(k:Int)<=9223372036854775807:=by omega
   have f2:((k:Int)+1).toNat=k+1:=by omega
   have f3:(0:Int)<=(k:Int)+1:=by omega
   obtain⟨A,C⟩:∃A,A=f.aD[l[k].toNat]:=⟨_,rfl⟩;obtain⟨B,D⟩:∃B,B=f.aD[l[k+1].toNat]:=⟨_,rfl⟩;have V:=tX y;have W:=tX z;rw[<-C]at V;rw[<-D]at W;have bA:=oa (j.sJ A (by grind))
   have bB:=oa (j.sJ B (by grind))
   apply rn;simp[r,w,x,K,L,g1,x0,y,y0,z,f1.1,f1.2,f2,f3,<-C,<-D];have e:=λ{c:Nat}(t:a c=none)=>q.none t
   have E:A.place.toNat<f.roads.length:=by omega
   obtain⟨r1,r2⟩:=j.row E;have F:B.place.toNat<f.roads[A.place.toNat].length:=by omega
   obtain⟨r3,r4⟩:=r2 _ (zG F);have M:rd f.roads A.place.toNat B.place.toNat=f.roads[A.place.toNat][B.place.toNat]:=nZ E F;have N:=rk bA.2.2.2.2.2;have O:=rk bB.2.2.2.2.2;have lA:=kG N;have lB:=kG O;obtain⟨X,P,Y⟩:=HZ lA lB;obtain⟨ch,g⟩:∃ch,ch=bM (aT A.marks) (aT B.marks):=⟨_,rfl⟩;rw[<-g]at P Y
   have hmul:0<=f.cP*ch/\f.cP*ch<=30:=by
    constructor
    . exact Int.mul_nonneg (by omega) P
    . calc f.cP*ch<=6*5:=Int.mul_le_mul p.2 Y P (by omega)
       _=30:=by rfl
   have Z:gY f l[k] l[k+1]=decide (B.hour-A.hour<f.roads[A.place.toNat][B.place.toNat]+f.cP*ch):=by unfold gY;rw[V,W,M,g]
   have a8:l.getD k 0=l[k]:=by simp[zA,L]
   have a9:l.getD (k+1) 0=l[k+1]:=by simp[zA,g1]
   have G:-9223372036854775808<=B.hour-A.hour/\B.hour-A.hour<=9223372036854775807:=by omega
   have H:-9223372036854775808<=f.cP*ch/\f.cP*ch<=9223372036854775807:=by omega
   have I:-9223372036854775808<=f.roads[A.place.toNat][B.place.toNat]+f.cP*ch/\f.roads[A.place.toNat][B.place.toNat]+f.cP*ch<=9223372036854775807:=by omega
   refine⟨uG.intro λc t=>?_,uG.intro λc t=>?_⟩
   . simp
     refine uG.intro λd hd=>?_
     obtain⟨J,u,hd⟩:=aa.aP hd;have Q:=e t;have R:=e hd;simp[J,u,aa.ai];refine af.bq 8 (b:=c) (bs A) (by simp[u,aa.ai]) (by simp) rfl ?_
     refine af.bq 9 (b:=d) (bs B) (by simp[J,aa.del]) (by simp) rfl ?_
     apply rn;simp[r,G.1,G.2,E,F];refine⟨by omega,by omega,?_⟩
     refine cf Tryz.func255 rfl (pf (by have:=j.fits.marks A (by rw[C];exact zG y);omega) (λn o=>(N n o).1) ?_)
     apply pg;simp;refine cf Tryz.func255 rfl (pf (by have:=j.fits.marks B (by rw[D];exact zG z);omega) (λn o=>(O n o).1) ?_)
     apply pg;simp;refine cf Tryz.func256 rfl (yz X ?_);rw[<-g];apply pg;simp[H.1,H.2,I.1,I.2];apply rn;simp
     by_cases v:B.hour-A.hour<f.roads[A.place.toNat][B.place.toNat]+f.cP*ch
     . simp[v]
       have:(List.range (l.length-1)).any (λi=>gY f (l.getD i 0) (l.getD (i+1) 0))=true:=aba.2 ⟨k,aax.2 (by omega),by grind⟩
       rw[this]at h;exact .less (by repeat (first|exact aa.le_refl _|assumption|refine aa.fC ?_ (by assumption)|refine aa.lR ?_ (by assumption))) (.done h)
     . simp[x,v]
       refine⟨by omega,U _ (by omega) ⟨_,_,rfl,(by repeat (first|exact aa.le_refl _|assumption|refine aa.fC ?_ (by assumption)|refine aa.lR ?_ (by assumption))),by simp[r],by simp[w],by simp,λi hi=>?_⟩⟩
       grind
   . simp
     refine uG.intro λd hd=>?_
     obtain⟨J,u,hd⟩:=aa.aP hd;have Q:=e t;have R:=e hd;simp[u,aa.ai];refine af.bq 8 (b:=d) (bs A) (by simp[J,aa.ai]) (by simp) rfl ?_
     refine af.bq 9 (b:=c) (bs B) (by simp[u,aa.del]) (by simp) rfl ?_
     apply rn;simp[r,G.1,G.2,E,F];refine⟨by omega,by omega,?_⟩
     refine cf Tryz.func255 rfl (pf (by have:=j.fits.marks A (by rw[C];exact zG y);omega) (λn o=>(N n o).1) ?_)
     apply pg;simp;refine cf Tryz.func255 rfl (pf (by have:=j.fits.marks B (by rw[D];exact zG z);omega) (λn o=>(O n o).1) ?_)
     apply pg;simp;refine cf Tryz.func256 rfl (yz X ?_);rw[<-g];apply pg;simp[H.1,H.2,I.1,I.2];apply rn;simp
     by_cases v:B.hour-A.hour<f.roads[A.place.toNat][B.place.toNat]+f.cP*ch
     . simp[v]
       have:(List.range (l.length-1)).any (λi=>gY f (l.getD i 0) (l.getD (i+1) 0))=true:=aba.2 ⟨k,aax.2 (by omega),by grind⟩
       rw[this]at h;exact .less (by repeat (first|exact aa.le_refl _|assumption|refine aa.fC ?_ (by assumption)|refine aa.lR ?_ (by assumption))) (.done h)
     . simp[x,v]
       refine⟨by omega,U _ (by omega) ⟨_,_,rfl,(by repeat (first|exact aa.le_refl _|assumption|refine aa.fC ?_ (by assumption)|refine aa.lR ?_ (by assumption))),by simp[r],by simp[w],by simp,λi hi=>?_⟩⟩
       grind
 . have g2:¬(k:Int)+1<l.length:=by omega
   have:(List.range (l.length-1)).any (λi=>gY f (l.getD i 0) (l.getD (i+1) 0))=false:=by grind
   rw[this]at h;apply rn;simp[w,x,g2];exact .less q (.done h)
theorem VO:(((prog.info? 278).bind λi=>i.methods.find? (·.name==  "palfrey/mark.breaks")).map λmt=>(mt.path,mt.func))=some (#[],some (250,false)):=by kernel_rfl
theorem VP:(((prog.info? 279).bind λi=>i.methods.find? (·.name==  "palfrey/mark.breaks")).map λmt=>(mt.path,mt.func))=some (#[],some (251,false)):=by kernel_rfl
theorem VQ:(((prog.info? 280).bind λi=>i.methods.find? (·.name==  "palfrey/mark.breaks")).map λmt=>(mt.path,mt.func))=some (#[],some (254,false)):=by kernel_rfl
theorem Sn{a:AV}:oE prog 278  "palfrey/mark.breaks" 250 a a:=by obtain⟨mt,b,e⟩:=aaH.1 VO;obtain⟨info,c,d⟩:=ace.1 b;obtain⟨f,g⟩:=Prod.mk.inj e;exact sA lay Vt c d (by rw[f]) g rfl
theorem So{a:AV}:oE prog 279  "palfrey/mark.breaks" 251 a a:=by obtain⟨mt,b,e⟩:=aaH.1 VP;obtain⟨info,c,d⟩:=ace.1 b;obtain⟨f,g⟩:=Prod.mk.inj e;exact sA lay Vu c d (by rw[f]) g rfl
theorem Sp{a:AV}:oE prog 280  "palfrey/mark.breaks" 254 a a:=by obtain⟨mt,b,e⟩:=aaH.1 VQ;obtain⟨info,c,d⟩:=ace.1 b;obtain⟨f,g⟩:=Prod.mk.inj e;exact sA lay Vv c d (by rw[f]) g rfl
def aZ(f:Fr)(l:adG):adG:=(fe (λa b=>decide (vd f a b<0)) l).reverse
def jJ(f:Fr)(l:adG):Int:=if eo f (aZ f l)then 1 else if cY f (aZ f l)then 2 else if dC f (aZ f l)then 3 else 0
abbrev VR(n:Int):AV:=if n=1 then .lM 278 (.agg [])else if n=2 then .lM 279 (.agg [])else if n=3 then .lM 280 (.agg [])else .lit .nilIface
theorem O3.sort{f:Fr}{l:adG}(h:O3 f l):O3 f (aZ f l):=
 ⟨fun n a=>h.mem n ((vb _ _ _).1 (by simpa[aZ]using a)),λe=>h.ne (by
   have:(aZ f l).length=l.length:=by simp[aZ,lI]
   grind),by simp[aZ,lI,h.len]⟩
theorem MH{b mb:Nat}{f:Fr}{l:adG}(y:f.Good)(v:O3 f l)(d:l.length<20)(h:KF (.val (VR (jJ f l))) σ):aA prog m 144 [kW b mb f 0,ints l] σ KF:=by
 have t:=v.sort;refine fs [] Tryz.func144 rfl (by kernel_rfl) ?_;simp[Tryz.f144];refine bK.intro λc B=>?_
 simp;refine cf Tryz.func177 rfl (Qc MF v.mem d v.ne ⟨rfl,rfl⟩ ?_);obtain⟨S,z⟩:∃S,S=(fe (λa b=>decide (vd f a b<0)) l).reverse:=⟨_,rfl⟩;have r:aZ f l=S:=z.symm;rw[r]at t;unfold jJ at h;rw[r]at h;rw[<-z];apply rn;simp;refine af.loop 3 (λk s=>∃env j,s=⟨env,j,[],.no⟩/\σ.Le j/\env 1=ints S/\env 2=.cp (kW b mb f 0) 0/\env 19=.sl 1 [.lM 278 (.agg []),.lM 279 (.agg []),.lM 280 (.agg [])] .exact/\env 20=int 3/\env 21=int k/\(1<=k->eo f S=false)/\(2<=k->cY f S=false)/\(3<=k->dC f S=false)) ⟨_,_,rfl,aa.pZ (aa.le_refl _) B,by simp⟩ ?_;rintro E k _ F ⟨env,j,rfl,e,o,p,i,d,g,w,A,C⟩ x;obtain rfl|rfl|rfl|rfl:k=0\/k=1\/k=2\/k=3:=by omega
 . apply rn
   simp[o,p,i,d,g];refine af.invoke rfl rfl rfl (by simp) rfl Sn Tryz.func250 rfl rfl ?_;refine Gn t ?_;apply rn;simp;cases hb:eo f S
   . simp[g]
     refine x _ (by omega) ⟨_,_,rfl,e,?_,?_,?_,?_,?_,λ_=>hb,λq=>(by omega),λq=>(by omega)⟩<;>simp[o,p,i,d]
   . simp
     simp[hb]at h;exact .less e (.done h)
 . have n:=w (by omega)
   apply rn;simp[o,p,i,d,g];refine af.invoke rfl rfl rfl (by simp) rfl So Tryz.func251 rfl rfl ?_;refine Gp y t ?_;apply rn;simp;cases hb:cY f S
   . simp[g]
     refine x _ (by omega) ⟨_,_,rfl,e,?_,?_,?_,?_,?_,λ_=>n,λ_=>hb,λq=>(by omega)⟩<;>simp[o,p,i,d]
   . simp
     simp[hb,n]at h;exact .less e (.done h)
 . have n:=w (by omega)
   have u:=A (by omega);apply rn;simp[o,p,i,d,g];refine af.invoke rfl rfl rfl (by simp) rfl Sp Tryz.func254 rfl rfl ?_;refine Gq y t ?_;apply rn;simp;cases hb:dC f S
   . simp[g]
     refine x _ (by omega) ⟨_,_,rfl,e,?_,?_,?_,?_,?_,λ_=>n,λ_=>u,λ_=>hb⟩<;>simp[o,p,i,d]
   . simp
     simp[hb,n,u]at h;exact .less e (.done h)
 . have n:=w (by omega)
   have u:=A (by omega);have D:=C (by omega);simp[n,u,D]at h;apply rn;simp[d,g];exact .less e (.done h)

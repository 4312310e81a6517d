import Derived.Test.YtkcceaplmgdnfaaGreatDoorProg
import Derived.Test.YtkcceaplmgdnfaaGreatDoorC15
set_option linter.all false
set_option maxHeartbeats 1000000
set_option maxRecDepth 100000
namespace Go.Proofs.YtkcceaplmgdnfaaGreatDoor
open Go.Proofs.Tryz (prog)
section
open Go.cz
@[simp] def adK:TI:=⟨.func,1,8,.nilFunc,[]⟩
@[simp] def adO:TI:=⟨.int .i64,1,8,(.int .i64 0),[]⟩
@[simp] def aeb:TI:=⟨.bool,1,1,(.bool false),[]⟩
@[simp] def adN:TI:=⟨.int .u8,1,1,(.int .u8 0),[]⟩
@[simp] def adT:TI:=⟨.struct,4,24,(.agg #[(.int .i64 0),(.int .i64 0),(.bool false),(.int .u8 0)]),[(0,1,2),(1,1,3),(2,1,4),(3,1,6)]⟩
@[simp] def adQ:TI:=⟨.string,1,16,(.string ByteArray.empty),[]⟩
@[simp] def adP:TI:=⟨.int .u64,1,8,(.int .u64 0),[]⟩
@[simp] def adU:TI:=⟨.struct,2,24,(.agg #[(.string ByteArray.empty),(.int .u64 0)]),[(0,1,9),(1,1,12)]⟩
@[simp] def aec:TI:=⟨.pointer 311,1,8,(.pointer none),[]⟩
@[simp] def aed:TI:=⟨.pointer 314,1,8,(.pointer none),[]⟩
@[simp] def aee:TI:=⟨.pointer 322,1,8,(.pointer none),[]⟩
@[simp] def adR:TI:=⟨.struct,1,8,(.agg #[(.pointer none)]),[(0,1,17)]⟩
@[simp] def adM:TI:=⟨.iface,1,16,.nilIface,[]⟩
@[simp] def adS:TI:=⟨.int .i32,1,4,(.int .i32 0),[]⟩
@[simp] def aef:TI:=⟨.slice 3,1,24,(.slice none 0 0),[]⟩
@[simp] def aeg:TI:=⟨.slice 56,1,24,(.slice none 0 0),[]⟩
@[simp] def aeh:TI:=⟨.slice 22,1,24,(.slice none 0 0),[]⟩
@[simp] def adV:TI:=⟨.struct,2,16,(.agg #[(.int .i64 0),(.int .i64 0)]),[(0,1,3),(1,1,3)]⟩
@[simp] def adW:TI:=⟨.struct,6,80,(.agg #[(.slice none 0 0),(.slice none 0 0),(.int .i64 0),(.int .i64 0),(.int .i64 0),(.int .i64 0)]),[(0,1,23),(1,1,24),(2,2,26),(4,1,3),(5,1,3)]⟩
@[simp] def aei:TI:=⟨.slice 50,1,24,(.slice none 0 0),[]⟩
@[simp] def aej:TI:=⟨.slice 58,1,24,(.slice none 0 0),[]⟩
@[simp] def adX:TI:=⟨.struct,9,136,(.agg #[(.slice none 0 0),(.slice none 0 0),(.int .i64 0),(.int .i64 0),(.int .i64 0),(.int .i64 0),(.int .i64 0),(.slice none 0 0),(.slice none 0 0)]),[(0,6,28),(6,1,3),(7,1,29),(8,1,30)]⟩
@[simp] def aek:TI:=⟨.pointer 83,1,8,(.pointer none),[]⟩
@[simp] def adY:TI:=⟨.struct,5,40,(.agg #[(.int .i64 0),(.int .i64 0),(.int .i64 0),(.int .i64 0),(.int .i64 0)]),[(0,1,3),(1,1,3),(2,1,3),(3,2,26)]⟩
@[simp] def ael:TI:=⟨.struct,6,64,(.agg #[(.int .i64 0),(.int .i64 0),(.int .i64 0),(.slice none 0 0),(.int .i64 0),(.int .i64 0)]),[(0,1,3),(1,1,3),(2,1,3),(3,1,22),(4,1,3),(5,1,3)]⟩
@[simp] def aem:TI:=⟨.struct,8,80,(.agg #[(.int .i64 0),(.int .i64 0),(.int .i64 0),(.slice none 0 0),(.int .i64 0),(.int .i64 0),(.int .i64 0),(.int .i64 0)]),[(0,6,56),(6,1,3),(7,1,3)]⟩
@[simp] def aen:TI:=⟨.slice 26,1,24,(.slice none 0 0),[]⟩
@[simp] def aeo:TI:=⟨.struct,3,40,(.agg #[(.slice none 0 0),(.int .i64 0),(.int .u64 0)]),[(0,1,22),(1,1,3),(2,1,81)]⟩
@[simp] def aep:TI:=⟨.pointer 158,1,8,(.pointer none),[]⟩
@[simp] def aeq:TI:=⟨.pointer 32,1,8,(.pointer none),[]⟩
@[simp] def aer:TI:=⟨.struct,1,8,(.agg #[.nilFunc]),[(0,1,45)]⟩
@[simp] def adL:TI:=⟨.struct,0,0,(.agg #[]),[]⟩
@[simp] def aes:TI:=⟨.struct,2,2,(.agg #[(.int .u8 0),(.int .u8 0)]),[(0,1,110),(1,1,110)]⟩
@[simp] def aet:TI:=⟨.array 2 3,2,16,(.agg #[(.int .i64 0),(.int .i64 0)]),[]⟩
@[simp] def adZ:TI:=⟨.struct,1,8,(.agg #[.nilFunc]),[(0,1,51)]⟩
@[simp] def aeu:TI:=⟨.int .u32,1,4,(.int .u32 0),[]⟩
@[simp] def aev:TI:=⟨.struct,2,8,(.agg #[(.int .i32 0),(.int .u32 0)]),[(0,1,21),(1,1,150)]⟩
@[simp] def aew:TI:=⟨.struct,2,8,(.agg #[(.int .i32 0),(.int .u32 0)]),[(0,0,149),(0,2,152)]⟩
@[simp] def aex:TI:=⟨.array 3 3,3,24,(.agg #[(.int .i64 0),(.int .i64 0),(.int .i64 0)]),[]⟩
@[simp] def aey:TI:=⟨.map 112 193,1,8,(.map none),[]⟩
@[simp] def aez:TI:=⟨.struct,15,176,(.agg #[(.slice none 0 0),(.slice none 0 0),(.int .i64 0),(.int .i64 0),(.int .i64 0),(.int .i64 0),(.int .i64 0),(.slice none 0 0),(.slice none 0 0),(.int .i32 0),(.int .u32 0),(.int .i64 0),(.int .i64 0),(.int .i64 0),(.map none)]),[(0,9,32),(9,2,154),(11,3,155),(14,1,156)]⟩
@[simp] def aeA:TI:=⟨.struct,1,8,(.agg #[(.int .u64 0)]),[(0,0,159),(0,0,160),(0,1,81)]⟩
@[simp] def aeB:TI:=⟨.struct,2,16,(.agg #[(.int .u64 0),(.int .u32 0)]),[(0,0,149),(0,1,162),(1,1,150)]⟩
@[simp] def aeC:TI:=⟨.array 4 3,4,32,(.agg #[(.int .i64 0),(.int .i64 0),(.int .i64 0),(.int .i64 0)]),[]⟩
@[simp] def aeD:TI:=⟨.array 3 110,3,3,(.agg #[(.int .u8 0),(.int .u8 0),(.int .u8 0)]),[]⟩
@[simp] def aeE:TI:=⟨.array 3 124,3,48,(.agg #[.nilIface,.nilIface,.nilIface]),[]⟩
@[simp] def aea:TI:=⟨.struct,1,4,(.agg #[(.int .u32 0)]),[(0,0,159),(0,1,150)]⟩
@[simp] def aeF:TI:=⟨.struct,3,12,(.agg #[(.int .u32 0),(.int .i32 0),(.int .u32 0)]),[(0,0,149),(0,1,187),(1,2,154)]⟩
@[simp] def aeG:TI:=⟨.array 6 185,18,288,(.agg #[.nilIface,.nilIface,.nilIface,.nilIface,.nilIface,.nilIface,.nilIface,.nilIface,.nilIface,.nilIface,.nilIface,.nilIface,.nilIface,.nilIface,.nilIface,.nilIface,.nilIface,.nilIface]),[]⟩
@[simp] def aeH:TI:=⟨.struct,21,304,(.agg #[(.int .u32 0),(.int .i32 0),(.int .u32 0),.nilIface,.nilIface,.nilIface,.nilIface,.nilIface,.nilIface,.nilIface,.nilIface,.nilIface,.nilIface,.nilIface,.nilIface,.nilIface,.nilIface,.nilIface,.nilIface,.nilIface,.nilIface]),[(0,3,189),(3,18,190)]⟩
@[simp] def aeI:TI:=⟨.pointer 192,1,8,(.pointer none),[]⟩
@[simp] def aeJ:TI:=⟨.struct,1,8,(.agg #[(.int .i64 0)]),[(0,1,37)]⟩
@[simp] def aeK:TI:=⟨.pointer 197,1,8,(.pointer none),[]⟩
@[simp] def aeL:TI:=⟨.pointer 257,1,8,(.pointer none),[]⟩
@[simp] def aeM:TI:=⟨.pointer 164,1,8,(.pointer none),[]⟩
@[simp] def aeN:TI:=⟨.pointer 150,1,8,(.pointer none),[]⟩
@[simp] def aeO:TI:=⟨.pointer 154,1,8,(.pointer none),[]⟩
@[simp] def aeP:TI:=⟨.slice 100,1,24,(.slice none 0 0),[]⟩
@[simp] def aeQ:TI:=⟨.struct,3,24,(.agg #[(.pointer none),(.pointer none),(.int .u64 0)]),[(0,1,17),(1,1,210),(2,1,243)]⟩
@[simp] def aeR:TI:=⟨.map 291 4,1,8,(.map none),[]⟩
@[simp] def aeS:TI:=⟨.struct,9,96,(.agg #[(.slice none 0 0),(.slice none 0 0),(.int .i64 0),(.int .i64 0),(.int .i64 0),(.int .i64 0),(.int .i32 0),(.int .u32 0),(.map none)]),[(0,6,28),(6,2,154),(8,1,255)]⟩
@[simp] def aeT:TI:=⟨.chan 3,1,8,(.chan none),[]⟩
@[simp] def aeU:TI:=⟨.struct,1,8,(.agg #[.nilFunc]),[(0,1,48)]⟩
@[simp] def aeV:TI:=⟨.slice 239,1,24,(.slice none 0 0),[]⟩
@[simp] def aeW:TI:=⟨.pointer 189,1,8,(.pointer none),[]⟩
@[simp] def aeX:TI:=⟨.struct,1,1,(.agg #[(.int .u8 0)]),[(0,1,5)]⟩
@[simp] def aeY:TI:=⟨.array 6 291,6,6,(.agg #[(.int .u8 0),(.int .u8 0),(.int .u8 0),(.int .u8 0),(.int .u8 0),(.int .u8 0)]),[]⟩
@[simp] def aeZ:TI:=⟨.pointer 187,1,8,(.pointer none),[]⟩
@[simp] def afa:TI:=⟨.struct,4,40,(.agg #[(.pointer none),(.pointer none),(.pointer none),(.string ByteArray.empty)]),[(0,1,17),(1,1,17),(2,1,17),(3,1,9)]⟩
@[simp] def afb:TI:=⟨.array 0 16,0,0,(.agg #[]),[]⟩
@[simp] def afc:TI:=⟨.struct,0,0,(.agg #[]),[(0,0,312)]⟩
@[simp] def afd:TI:=⟨.pointer 5,1,8,(.pointer none),[]⟩
@[simp] def afe:TI:=⟨.struct,11,48,(.agg #[(.int .u64 0),(.int .u64 0),(.int .u32 0),(.int .u8 0),(.int .u8 0),(.int .u8 0),(.int .u8 0),.nilFunc,(.pointer none),(.int .i32 0),(.int .i32 0)]),[(0,1,12),(1,1,12),(2,1,150),(3,1,316),(4,1,5),(5,1,5),(6,1,248),(7,1,317),(8,1,318),(9,1,319),(10,1,320)]⟩
def MD:List (Nat × TI):=[
 (1,adK),
 (2,adO),
 (3,adO),
 (4,aeb),
 (5,adN),
 (6,adN),
 (7,adT),
 (8,adT),
 (9,adQ),
 (10,adQ),
 (11,adQ),
 (12,adP),
 (13,adU),
 (14,adU),
 (15,aec),
 (16,aed),
 (17,aee),
 (18,adR),
 (19,adR),
 (20,adM),
 (21,adS),
 (22,aef),
 (23,aeg),
 (24,aeh),
 (25,adV),
 (26,adV),
 (27,adW),
 (28,adW),
 (29,aei),
 (30,aej),
 (31,adX),
 (32,adX),
 (34,adK),
 (35,aek),
 (36,adK),
 (37,adO),
 (39,adK),
 (40,adK),
 (41,adK),
 (42,adK),
 (43,adK),
 (44,adK),
 (45,adK),
 (46,adK),
 (48,adK),
 (49,adY),
 (50,adY),
 (51,adK),
 (56,ael),
 (58,aem),
 (59,aen),
 (67,adK),
 (72,adK),
 (73,adK),
 (81,adP),
 (83,aeo),
 (84,aep),
 (87,adK),
 (88,adK),
 (90,aeq),
 (93,aer),
 (99,adM),
 (100,adM),
 (102,adK),
 (105,adL),
 (108,adK),
 (110,adN),
 (112,aes),
 (114,adK),
 (115,adK),
 (121,adK),
 (124,adM),
 (125,adL),
 (145,aet),
 (147,adZ),
 (148,adZ),
 (149,adL),
 (150,aeu),
 (152,aev),
 (154,aew),
 (155,aex),
 (156,aey),
 (158,aez),
 (159,adL),
 (160,adL),
 (162,aeA),
 (164,aeB),
 (167,aeC),
 (170,adP),
 (172,adM),
 (175,adK),
 (176,adK),
 (177,aeD),
 (184,adK),
 (185,aeE),
 (186,aea),
 (187,aea),
 (189,aeF),
 (190,aeG),
 (192,aeH),
 (193,aeI),
 (195,adL),
 (197,aeJ),
 (199,aeK),
 (201,aeL),
 (204,adK),
 (208,aeM),
 (211,adO),
 (215,aeN),
 (219,aeO),
 (224,adR),
 (226,adM),
 (229,adM),
 (231,adM),
 (232,aeP),
 (239,adM),
 (243,adP),
 (245,aeQ),
 (248,adN),
 (255,aeR),
 (257,aeS),
 (258,aeT),
 (277,aeU),
 (278,adL),
 (279,adL),
 (280,adL),
 (281,aeV),
 (283,aeW),
 (284,adL),
 (291,aeX),
 (292,aeY),
 (295,adK),
 (298,aeZ),
 (311,afa),
 (312,afb),
 (314,afc),
 (316,adN),
 (317,adK),
 (318,afd),
 (319,adS),
 (320,adS),
 (322,afe),
 (328,adN)]
theorem Jh:(MD.all λx=>x.2.check Tryz.prog x.1)=true:=by kernel_rfl
def Cb(t:Nat):Option TI:=(MD.find? λx=>x.1==t).map (·.2)
theorem Gb(t:Nat)(i:TI)(h:Cb t=some i):i.check Tryz.prog t=true:=by unfold Cb at h;obtain⟨x,a,rfl⟩:=aaS.1 h;have c:=List.find?_some a;have b:=aaL.1 Jh x (List.mem_of_find?_eq_some a);rw[abS.1 c]at b;exact b
def lay:jo Tryz.prog:=⟨Cb,Gb,by kernel_rfl⟩
theorem rn{m:Mo}{fid n:Nat}{ro:adt}{hold:adr}{s:St}{K:cz.Exit->St->Prop}{todo:adx}(h:bz lay m fid n ro [] hold 1000 todo s K):aa Tryz.prog m fid n ro hold todo s K:=aa.run lay [] h
theorem pg{m:Mo}{ops:ads}{n:Nat}{Kp:adl}{R:adk}{p:oh}{env:Env}{σ:ab}(h:iz lay m [] ops n Kp p env σ R):aN Tryz.prog m ops n Kp p env σ R:=aN.go lay [] h
theorem cf{m:Mo}{f:FuncId}{fn:Func}{args:adF}{σ:ab}{KF:adm}(a:Tryz.prog.funcs[f]?=some fn)(hb:(fn.body.isSome && !(fn.name== "runtime.NumGoroutine"))=true)(h:az Tryz.prog m f args σ KF):cr Tryz.prog m (.fn (.func f) [] []) args σ KF:=by
 simp only[za,abZ]at hb;exact ak a hb.1 hb.2 h
theorem fs{m:Mo}{f:FuncId}{fn:Func}{args:adF}{σ:ab}{KF:adm}{body:Code}(hold:adr)(b:Tryz.prog.funcs[f]?=some fn)(hb:fn.body=some body)(c:(oi fn args.length&&kZ hold body)=true)(h:bz lay m f fn.ntmps none [] hold 1000 [.code body] ⟨dv args,σ,[],.no⟩ (SU lay m fn.results.toList (nE KF))):az Tryz.prog m f args σ KF:=by simp only[za]at c;exact az.start lay [] hold _ b hb rfl c.1 c.2 h
@[simp] theorem tt1:lay.tt 1=some adK:=rfl
@[simp] theorem tt2:lay.tt 2=some adO:=rfl
@[simp] theorem rH:lay.tt 3=some adO:=rfl
@[simp] theorem ZY:lay.tt 4=some aeb:=rfl
@[simp] theorem YC:lay.tt 5=some adN:=rfl
@[simp] theorem tt6:lay.tt 6=some adN:=rfl
@[simp] theorem tt7:lay.tt 7=some adT:=rfl
@[simp] theorem tt8:lay.tt 8=some adT:=rfl
@[simp] theorem tt9:lay.tt 9=some adQ:=rfl
@[simp] theorem ZZ:lay.tt 10=some adQ:=rfl
@[simp] theorem Z1:lay.tt 11=some adQ:=rfl
@[simp] theorem Z2:lay.tt 12=some adP:=rfl
@[simp] theorem Z3:lay.tt 13=some adU:=rfl
@[simp] theorem Z4:lay.tt 14=some adU:=rfl
@[simp] theorem Z5:lay.tt 15=some aec:=rfl
@[simp] theorem Z6:lay.tt 16=some aed:=rfl
@[simp] theorem Z7:lay.tt 17=some aee:=rfl
@[simp] theorem Z8:lay.tt 18=some adR:=rfl
@[simp] theorem Z9:lay.tt 19=some adR:=rfl
@[simp] theorem Z':lay.tt 20=some adM:=rfl
@[simp] theorem aaa:lay.tt 21=some adS:=rfl
@[simp] theorem dD:lay.tt 22=some aef:=rfl
@[simp] theorem nk:lay.tt 23=some aeg:=rfl
@[simp] theorem qe:lay.tt 24=some aeh:=rfl
@[simp] theorem aab:lay.tt 25=some adV:=rfl
@[simp] theorem Xx:lay.tt 26=some adV:=rfl
@[simp] theorem aac:lay.tt 27=some adW:=rfl
@[simp] theorem aad:lay.tt 28=some adW:=rfl
@[simp] theorem So:lay.tt 29=some aei:=rfl
@[simp] theorem Qb:lay.tt 30=some aej:=rfl
@[simp] theorem aae:lay.tt 31=some adX:=rfl
@[simp] theorem aaf:lay.tt 32=some adX:=rfl
@[simp] theorem aag:lay.tt 34=some adK:=rfl
@[simp] theorem aah:lay.tt 35=some aek:=rfl
@[simp] theorem aai:lay.tt 36=some adK:=rfl
@[simp] theorem aaj:lay.tt 37=some adO:=rfl
@[simp] theorem aak:lay.tt 39=some adK:=rfl
@[simp] theorem aal:lay.tt 40=some adK:=rfl
@[simp] theorem aam:lay.tt 41=some adK:=rfl
@[simp] theorem aan:lay.tt 42=some adK:=rfl
@[simp] theorem aao:lay.tt 43=some adK:=rfl
@[simp] theorem aap:lay.tt 44=some adK:=rfl
@[simp] theorem aaq:lay.tt 45=some adK:=rfl
@[simp] theorem aar:lay.tt 46=some adK:=rfl
@[simp] theorem aas:lay.tt 48=some adK:=rfl
@[simp] theorem aat:lay.tt 49=some adY:=rfl
@[simp] theorem Vq:lay.tt 50=some adY:=rfl
@[simp] theorem aau:lay.tt 51=some adK:=rfl
@[simp] theorem zE:lay.tt 56=some ael:=rfl
@[simp] theorem Vr:lay.tt 58=some aem:=rfl
@[simp] theorem Vt:lay.tt 59=some aen:=rfl
@[simp] theorem aav:lay.tt 67=some adK:=rfl
@[simp] theorem aaw:lay.tt 72=some adK:=rfl
@[simp] theorem aax:lay.tt 73=some adK:=rfl
@[simp] theorem aay:lay.tt 81=some adP:=rfl
@[simp] theorem aaz:lay.tt 83=some aeo:=rfl
@[simp] theorem aaA:lay.tt 84=some aep:=rfl
@[simp] theorem aaB:lay.tt 87=some adK:=rfl
@[simp] theorem aaC:lay.tt 88=some adK:=rfl
@[simp] theorem aaD:lay.tt 90=some aeq:=rfl
@[simp] theorem aaE:lay.tt 93=some aer:=rfl
@[simp] theorem aaF:lay.tt 99=some adM:=rfl
@[simp] theorem HX:lay.tt 100=some adM:=rfl
@[simp] theorem YD:lay.tt 102=some adK:=rfl
@[simp] theorem YE:lay.tt 105=some adL:=rfl
@[simp] theorem YF:lay.tt 108=some adK:=rfl
@[simp] theorem ME:lay.tt 110=some adN:=rfl
@[simp] theorem YG:lay.tt 112=some aes:=rfl
@[simp] theorem YH:lay.tt 114=some adK:=rfl
@[simp] theorem YI:lay.tt 115=some adK:=rfl
@[simp] theorem YJ:lay.tt 121=some adK:=rfl
@[simp] theorem Rk:lay.tt 124=some adM:=rfl
@[simp] theorem YK:lay.tt 125=some adL:=rfl
@[simp] theorem Rl:lay.tt 145=some aet:=rfl
@[simp] theorem YL:lay.tt 147=some adZ:=rfl
@[simp] theorem YM:lay.tt 148=some adZ:=rfl
@[simp] theorem YN:lay.tt 149=some adL:=rfl
@[simp] theorem YO:lay.tt 150=some aeu:=rfl
@[simp] theorem YP:lay.tt 152=some aev:=rfl
@[simp] theorem YQ:lay.tt 154=some aew:=rfl
@[simp] theorem YR:lay.tt 155=some aex:=rfl
@[simp] theorem YS:lay.tt 156=some aey:=rfl
@[simp] theorem YT:lay.tt 158=some aez:=rfl
@[simp] theorem YU:lay.tt 159=some adL:=rfl
@[simp] theorem YV:lay.tt 160=some adL:=rfl
@[simp] theorem YW:lay.tt 162=some aeA:=rfl
@[simp] theorem YX:lay.tt 164=some aeB:=rfl
@[simp] theorem YY:lay.tt 167=some aeC:=rfl
@[simp] theorem YZ:lay.tt 170=some adP:=rfl
@[simp] theorem Y0:lay.tt 172=some adM:=rfl
@[simp] theorem Y1:lay.tt 175=some adK:=rfl
@[simp] theorem Y2:lay.tt 176=some adK:=rfl
@[simp] theorem Vu:lay.tt 177=some aeD:=rfl
@[simp] theorem Y3:lay.tt 184=some adK:=rfl
@[simp] theorem Y4:lay.tt 185=some aeE:=rfl
@[simp] theorem Y5:lay.tt 186=some aea:=rfl
@[simp] theorem Y6:lay.tt 187=some aea:=rfl
@[simp] theorem Y7:lay.tt 189=some aeF:=rfl
@[simp] theorem Y8:lay.tt 190=some aeG:=rfl
@[simp] theorem Y9:lay.tt 192=some aeH:=rfl
@[simp] theorem Vv:lay.tt 193=some aeI:=rfl
@[simp] theorem Y':lay.tt 195=some adL:=rfl
@[simp] theorem Za:lay.tt 197=some aeJ:=rfl
@[simp] theorem Zb:lay.tt 199=some aeK:=rfl
@[simp] theorem Zc:lay.tt 201=some aeL:=rfl
@[simp] theorem Zd:lay.tt 204=some adK:=rfl
@[simp] theorem Ze:lay.tt 208=some aeM:=rfl
@[simp] theorem Zf:lay.tt 211=some adO:=rfl
@[simp] theorem Zg:lay.tt 215=some aeN:=rfl
@[simp] theorem Zh:lay.tt 219=some aeO:=rfl
@[simp] theorem Zi:lay.tt 224=some adR:=rfl
@[simp] theorem Zj:lay.tt 226=some adM:=rfl
@[simp] theorem Zk:lay.tt 229=some adM:=rfl
@[simp] theorem Zl:lay.tt 231=some adM:=rfl
@[simp] theorem Zm:lay.tt 232=some aeP:=rfl
@[simp] theorem Vw:lay.tt 239=some adM:=rfl
@[simp] theorem Zn:lay.tt 243=some adP:=rfl
@[simp] theorem Zo:lay.tt 245=some aeQ:=rfl
@[simp] theorem Zp:lay.tt 248=some adN:=rfl
@[simp] theorem Zq:lay.tt 255=some aeR:=rfl
@[simp] theorem Zr:lay.tt 257=some aeS:=rfl
@[simp] theorem HY:lay.tt 258=some aeT:=rfl
@[simp] theorem Zs:lay.tt 277=some aeU:=rfl
@[simp] theorem Vx:lay.tt 278=some adL:=rfl
@[simp] theorem Vy:lay.tt 279=some adL:=rfl
@[simp] theorem Vz:lay.tt 280=some adL:=rfl
@[simp] theorem Zt:lay.tt 281=some aeV:=rfl
@[simp] theorem Zu:lay.tt 283=some aeW:=rfl
@[simp] theorem Zv:lay.tt 284=some adL:=rfl
@[simp] theorem Zw:lay.tt 291=some aeX:=rfl
@[simp] theorem Zx:lay.tt 292=some aeY:=rfl
@[simp] theorem Zy:lay.tt 295=some adK:=rfl
@[simp] theorem Zz:lay.tt 298=some aeZ:=rfl
@[simp] theorem ZA:lay.tt 311=some afa:=rfl
@[simp] theorem ZB:lay.tt 312=some afb:=rfl
@[simp] theorem ZC:lay.tt 314=some afc:=rfl
@[simp] theorem ZD:lay.tt 316=some adN:=rfl
@[simp] theorem ZE:lay.tt 317=some adK:=rfl
@[simp] theorem ZF:lay.tt 318=some afd:=rfl
@[simp] theorem ZG:lay.tt 319=some adS:=rfl
@[simp] theorem ZH:lay.tt 320=some adS:=rfl
@[simp] theorem ZI:lay.tt 322=some afe:=rfl
@[simp] theorem ZJ:lay.tt 328=some adN:=rfl
abbrev pl6:adr:=[⟨18,.take [0,1,2,3,4,5,6,7,8,9,10,11,12,13,14,15,16,17,18,19,20] false (.one 21 (.take [22,23,24,25,26,27,28,29,30,31,32,33,34,35,36,37,38,39,40,41] false (.one 42 (.take [43,44] true (.done)))))⟩]
abbrev Xy:adr:=[⟨4,.take [0,1,2,3,4,5,6,7,8] true (.done)⟩]
abbrev Xz:adr:=[⟨5,.take [0,1,3,4,8] false (.one 2 (.take [6] false (.one 5 (.take [7] true (.done)))))⟩]
abbrev XA:adr:=[⟨2,.take [0,1,2,3,4,5,6,7,8,9,10,11,13] false (.one 12 (.one 14 (.done)))⟩]
abbrev XB:adr:=[⟨3,.take [0,1,2] false (.both 3 (.one 4 (.one 5 (.one 6 (.one 7 (.one 8 (.one 9 (.done))))))) (.one 4 (.both 3 (.one 5 (.one 6 (.one 7 (.one 8 (.one 9 (.done)))))) (.one 5 (.both 3 (.one 6 (.one 7 (.one 8 (.one 9 (.done))))) (.one 6 (.both 3 (.one 7 (.one 8 (.one 9 (.done)))) (.one 7 (.one 3 (.one 8 (.one 9 (.done))))))))))))⟩]
abbrev XC:adr:=[⟨26,.take [0,1,2,3] false (.one 4 (.one 5 (.one 6 (.take [7,8,9,10,11] true (.done)))))⟩]
abbrev XD:adr:=[⟨19,.take [0,2,3,4,6,7,11] false (.both 1 (.both 5 (.one 8 (.one 9 (.take [10] true (.one 12 (.done))))) (.one 8 (.one 5 (.one 9 (.take [10] true (.one 12 (.done))))))) (.both 5 (.both 1 (.one 8 (.one 9 (.take [10] true (.one 12 (.done))))) (.one 8 (.both 1 (.one 9 (.take [10] true (.one 12 (.done)))) (.one 9 (.take [1,10] true (.one 12 (.done))))))) (.one 8 (.both 1 (.one 5 (.one 9 (.take [10] true (.one 12 (.done))))) (.one 5 (.both 1 (.one 9 (.take [10] true (.one 12 (.done)))) (.one 9 (.take [1,10] true (.one 12 (.done))))))))))⟩]
abbrev XE:adr:=[⟨6,.take [0,1,2,3,4,5,6,7,8] true (.done)⟩]
abbrev XF:adr:=[⟨3,.take [0,1,2,3,4,5,6,7,8,9] true (.done)⟩,⟨4,.take [0,1,2,3,4,5,6,7,8,9,10,11,12,13,14] true (.take [15] true (.done))⟩,⟨6,.take [0,1,2,3,5,6,7,11,12] false (.take [4,8,9,10] true (.one 13 (.done)))⟩]
abbrev XG:adr:=[⟨5,.take [0,1,2,3,4,5,6,7,8,9,10,11,12,13] true (.done)⟩]
abbrev XH:adr:=[⟨7,.take [0,2,6] false (.both 1 (.one 3 (.one 4 (.one 5 (.one 7 (.done))))) (.one 3 (.both 1 (.one 4 (.one 5 (.one 7 (.done)))) (.one 4 (.take [1] true (.one 5 (.one 7 (.done))))))))⟩,⟨15,.take [0,2,5,6,8,11,12,13] false (.both 1 (.take [3,4,14] false (.one 7 (.take [9,10,16] false (.one 15 (.one 17 (.done)))))) (.one 7 (.take [9,10,16] false (.take [1,3,4,14] true (.one 15 (.one 17 (.done)))))))⟩,⟨21,.take [0,2,3,7] false (.both 1 (.one 4 (.one 5 (.one 6 (.one 8 (.done))))) (.one 4 (.both 1 (.one 5 (.one 6 (.one 8 (.done)))) (.one 5 (.take [1] true (.one 6 (.one 8 (.done))))))))⟩]
abbrev VA:adr:=[⟨4,.take [0,1,2,3,4,5] false (.one 6 (.done))⟩]
abbrev XI:adr:=[⟨16,.take [0,1,2,4,5,6,8,9,12] false (.both 3 (.one 7 (.one 10 (.one 11 (.one 13 (.done))))) (.one 7 (.both 3 (.one 10 (.one 11 (.one 13 (.done)))) (.one 10 (.take [3] true (.one 11 (.one 13 (.done))))))))⟩]
abbrev VB:adr:=[⟨9,.take [0,1,2,3,4,5,6,7,8,9,10,11] false (.one 12 (.take [13,14] true (.done)))⟩]
abbrev VC:adr:=[⟨5,.take [0,1,2,3,4,5,6,7,8,9,10,11,12,13,14,15,16] false (.both 17 (.one 18 (.one 19 (.one 20 (.done)))) (.one 18 (.one 17 (.one 19 (.one 20 (.done))))))⟩,⟨6,.take [0,1,2,3,4,5,6,7,8,9,10,11,12,13,14,15,16,17,18] false (.one 19 (.take [20,21,22] true (.done)))⟩]
abbrev VD:adr:=[⟨1,.take [0,1,2,3,4] false (.both 5 (.one 6 (.one 7 (.done))) (.one 6 (.one 5 (.one 7 (.done)))))⟩,⟨4,.take [0,1,2,3,4,5] true (.one 6 (.done))⟩]
abbrev VE:adr:=[⟨15,.take [0,1,2,3,4,5] false (.one 6 (.take [7] true (.done)))⟩]
abbrev VF:adr:=[⟨8,.take [0,1,2,3,4,5,6,7,8,9,10,11,12,13,14,15,16,17,18,19,20] true (.done)⟩]
abbrev VG:adr:=[⟨0,.take [0,1,3,4,6,7] false (.both 2 (.both 5 (.take [11] false (.both 8 (.take [12] false (.one 9 (.one 10 (.done)))) (.one 9 (.one 8 (.take [12] false (.one 10 (.done))))))) (.one 9 (.one 5 (.take [11] false (.one 8 (.take [12] false (.one 10 (.done)))))))) (.one 9 (.one 2 (.one 5 (.take [11] false (.one 8 (.take [12] false (.one 10 (.done)))))))))⟩,⟨8,.take [0,1,2,3,5,6,7,8] false (.one 4 (.one 9 (.done)))⟩]
abbrev VH:adr:=[⟨24,.take [0,1,2,3,4,5,6,7,8,9,10,11,12,13,14,15,16,17,18,19,20,21,22,23,24] true (.done)⟩,⟨29,.take [0,1,2,3,4,5,6,7,8,9,10,11,12,13,14,15,16,17,18,19,20,21,22] true (.done)⟩]
abbrev VI:adr:=[⟨22,.take [0,1,2,3,4,5,6,7,8,9,10,11,12,13,14,15,16,17,18,19,20,21,22,23,24,25,26,27,28,29] true (.done)⟩,⟨27,.take [0,1,2,3,4,5,6,7,8,9,10,11,12,13,14,15,16,17,18,19,20,21,22] true (.done)⟩]
abbrev VJ:adr:=[⟨12,.take [0,1,2,3,4,5,6,7,8,9,10,11,12,13,14,15] true (.done)⟩]
abbrev VK:adr:=[⟨1,.take [0,1,2,3,4,5,6,7,8,9,10,11,12,13,14,15,16,17] false (.one 18 (.take [19] true (.done)))⟩]
abbrev VL:adr:=[⟨4,.take [0,2,4] false (.take [1] true (.one 3 (.one 5 (.done))))⟩,⟨5,.take [0,1,2] false (.one 3 (.one 4 (.take [5,6,8,9,10,12,15,16,17] false (.both 7 (.both 11 (.both 13 (.both 14 (.one 18 (.one 19 (.take [20,21] true (.done)))) (.one 18 (.one 14 (.one 19 (.take [20,21] true (.done)))))) (.one 18 (.one 13 (.one 14 (.one 19 (.take [20,21] true (.done))))))) (.both 13 (.both 11 (.both 14 (.one 18 (.one 19 (.take [20,21] true (.done)))) (.one 18 (.one 14 (.one 19 (.take [20,21] true (.done)))))) (.one 18 (.one 11 (.one 14 (.one 19 (.take [20,21] true (.done))))))) (.one 18 (.both 11 (.one 13 (.one 14 (.one 19 (.take [20,21] true (.done))))) (.one 13 (.one 11 (.one 14 (.one 19 (.take [20,21] true (.done)))))))))) (.both 11 (.both 7 (.both 13 (.both 14 (.one 18 (.one 19 (.take [20,21] true (.done)))) (.one 18 (.one 14 (.one 19 (.take [20,21] true (.done)))))) (.one 18 (.one 13 (.one 14 (.one 19 (.take [20,21] true (.done))))))) (.both 13 (.both 7 (.both 14 (.one 18 (.one 19 (.take [20,21] true (.done)))) (.one 18 (.one 14 (.one 19 (.take [20,21] true (.done)))))) (.both 14 (.both 7 (.one 18 (.one 19 (.take [20,21] true (.done)))) (.one 18 (.one 7 (.one 19 (.take [20,21] true (.done)))))) (.one 18 (.both 7 (.one 14 (.one 19 (.take [20,21] true (.done)))) (.one 14 (.one 7 (.one 19 (.take [20,21] true (.done))))))))) (.one 18 (.both 7 (.one 13 (.one 14 (.one 19 (.take [20,21] true (.done))))) (.one 13 (.both 7 (.one 14 (.one 19 (.take [20,21] true (.done)))) (.one 14 (.one 7 (.one 19 (.take [20,21] true (.done))))))))))) (.both 13 (.both 7 (.both 11 (.both 14 (.one 18 (.one 19 (.take [20,21] true (.done)))) (.one 18 (.one 14 (.one 19 (.take [20,21] true (.done)))))) (.one 18 (.one 11 (.one 14 (.one 19 (.take [20,21] true (.done))))))) (.both 11 (.both 7 (.both 14 (.one 18 (.one 19 (.take [20,21] true (.done)))) (.one 18 (.one 14 (.one 19 (.take [20,21] true (.done)))))) (.both 14 (.both 7 (.one 18 (.one 19 (.take [20,21] true (.done)))) (.one 18 (.one 7 (.one 19 (.take [20,21] true (.done)))))) (.one 18 (.both 7 (.one 14 (.one 19 (.take [20,21] true (.done)))) (.one 14 (.one 7 (.one 19 (.take [20,21] true (.done))))))))) (.one 18 (.both 7 (.one 11 (.one 14 (.one 19 (.take [20,21] true (.done))))) (.one 11 (.both 7 (.one 14 (.one 19 (.take [20,21] true (.done)))) (.one 14 (.one 7 (.one 19 (.take [20,21] true (.done))))))))))) (.one 18 (.both 7 (.both 11 (.one 13 (.one 14 (.one 19 (.take [20,21] true (.done))))) (.one 13 (.one 11 (.one 14 (.one 19 (.take [20,21] true (.done))))))) (.both 11 (.both 7 (.one 13 (.one 14 (.one 19 (.take [20,21] true (.done))))) (.one 13 (.both 7 (.one 14 (.one 19 (.take [20,21] true (.done)))) (.one 14 (.one 7 (.one 19 (.take [20,21] true (.done)))))))) (.one 13 (.both 7 (.one 11 (.one 14 (.one 19 (.take [20,21] true (.done))))) (.one 11 (.both 7 (.one 14 (.one 19 (.take [20,21] true (.done)))) (.one 14 (.one 7 (.one 19 (.take [20,21] true (.done))))))))))))))))))⟩]
abbrev VM:adr:=[⟨1,.take [0,1,2,3,4,5] true (.one 6 (.done))⟩]
abbrev VN:adr:=[⟨3,.take [0,1,2,3] false (.one 4 (.one 5 (.take [6,7,8,9,10] true (.done))))⟩,⟨6,.take [0,1,2,3,4,5] true (.one 6 (.done))⟩]
abbrev VO:adr:=[⟨0,.take [0,1,2,3] false (.one 4 (.one 5 (.done)))⟩]
abbrev Rm:adr:=[⟨7,.take [0,1,2,3] true (.done)⟩]
abbrev VP:adr:=[⟨1,.take [0,1,2,3,4,5,6,7,8,9] true (.done)⟩]
abbrev VQ:adr:=[⟨4,.take [0,1,2,3,4,5,6,7,9,10,11,12] false (.both 8 (.one 13 (.one 14 (.take [15,16] true (.done)))) (.one 13 (.one 8 (.one 14 (.take [15,16] true (.done))))))⟩,⟨6,.take [0,1,2,3,4,5,6,7,8,10,11,12,14,16] false (.take [9,13] true (.one 15 (.one 17 (.done))))⟩]
abbrev VR:adr:=[⟨4,.take [0,1,2,3,4,5,6,7,8,9,10,11,12,13,14,15,16,17,18,19,20] true (.done)⟩]
abbrev VS:adr:=[⟨8,.take [0,1,2,3,4,5,6,7,8,9,10,11,12,13,14] true (.done)⟩,⟨11,.take [0,1,3,4,5,6,7,8,10] false (.one 2 (.take [9,11] false (.one 12 (.one 13 (.take [14] true (.done))))))⟩,⟨17,.take [0,1,2,3] false (.one 4 (.one 5 (.take [6] true (.done))))⟩]
abbrev VT:adr:=[⟨4,.take [0,1,2,3,4,5,6,7,8,9,10,11,12,13,14,15,16,17,18,19,20,21,22] false (.both 23 (.one 24 (.one 25 (.one 26 (.done)))) (.one 24 (.one 23 (.one 25 (.one 26 (.done))))))⟩,⟨5,.take [0,1,2,3,4,5,6,7,8,9,10,11,12,13,14,15,16,17,18,19,20,21,22,23,24,26,27] false (.one 25 (.one 28 (.one 29 (.take [30,31,32] true (.done)))))⟩]
attribute [simp] O8
abbrev int(n:Int):AV:=.lit (.int .i64 n)
abbrev u8(n:Int):AV:=.lit (.int .u8 n)
abbrev bool(b:Bool):AV:=.lit (.bool b)
abbrev ints(l:adA):AV:=.sl 1 (l.map int) .any
abbrev rows(l:adg):AV:=.sl 1 (l.map ints) .any
structure wu where
 hour:Int
 place:Int
 bX:Int
 marks:adA
 aX:Int
 gg:Int
 deriving DecidableEq
structure Fr where
 aA:List wu
 roads:adg
 aT:Int
 eL:Int
 cB:Int
 aY:Int
 deriving DecidableEq
abbrev bc(e:wu):AV:=.agg [int e.hour,int e.place,int e.bX,ints e.marks,int e.aX,int e.gg]
abbrev jF(l:List wu):AV:=.sl 6 (l.map bc) .any
abbrev HZ(f:Fr):adF:=[jF f.aA,rows f.roads,int f.aT,int f.eL,int f.cB,int f.aY]
abbrev bI(f:Fr):AV:=.agg (HZ f)
abbrev mc(b mb:Nat)(f:Fr)(o:Nat):AV:=.kp b [jF f.aA,rows f.roads,int f.aT,int f.eL,int f.cB,int f.aY,.lit (.int .i32 0),.lit (.int .u32 0),.map mb] [6,7] o
def br(a lo hi:Int):Bool:=decide (lo<=a) && decide (a<=hi)
def yj:Option Int->Int->Bool
 |some q,h=>decide (h<=q)
 |none,_=>false
def mE:Option Int->adA->Int
 |_,[]=>0
 |p,h::l=>if br h 0 4=false then 3 else if yj p h=true then 5 else mE (some h) l
def bL(places:Int)(e:wu):Int:=
 if br e.hour 0 72=false then 1 else if br e.place 0 (places-1)=false then 3 else if br e.bX 0 5=false then 1 else if mE none e.marks≠0 then mE none e.marks
 else if br e.aX 0 30=false then 1 else if br e.gg 0 2=false then 8 else 0
def eh(f:wu->Int):List wu->Int
 |[]=>0
 |d::l=>if f d=0 then eh f l else f d
theorem H2(l:adA)  i   h   p :mE p (l.drop i)=if br l[i] 0 4=false then 3 else if yj p l[i]=true then 5 else mE (some l[i]) (l.drop (i+1)):=by rw[abu h,mE]
theorem vv  f  (l:List wu)  i   h :eh f (l.drop i)=if f l[i]=0 then eh f (l.drop (i+1))else f l[i]:=by rw[abu h,eh]
theorem tz{α:Type}{l:List α}{n k}  g  (h:n∉l.take k) (a:l[k]≠n):n∉l.take (k+1):=by
 rw[zG g,aaN,lb]
 grind
theorem Cc{α:Type}{l a:List α}{k}  g  (g':k<a.length) (h:l.take k=a.take k) (e:l[k]=a[k]):l.take (k+1)=a.take (k+1):=by rw[zG g,zG g',h,e]
def rd(r:adg)(i j:Nat):Int:=(r.getD i []).getD j 0
def bY(r:adg)(i j:Nat):Bool:=rd r i i !=0||rd r i j !=rd r j i||(List.range r.length).any λk=>decide (rd r i j>rd r i k+rd r k j)
def jb(n:Nat)(l:adA):Int:=if l.length≠n then 9 else if l.all (br · 0 9)then 0 else 1
def fB(n:Nat):adg->Int
 |[]=>0
 |l::r=>if jb n l=0 then fB n r else jb n l
def eT(r:adg):Int:=
 if r.length<1 then 7 else if 3<r.length then 6 else if fB r.length r≠0 then fB r.length r
 else if(List.range r.length).any (λi=>(List.range r.length).any λj=>bY r i j)then 9 else 0
def check(f:Fr):Int:=
 if eT f.roads≠0 then eT f.roads else if(br f.aT 0 3 && br f.eL 0 3)=false then 1 else if f.eL<f.aT then 5
 else if(br f.cB 1 6 && br f.aY 1 6)=false then 1 else if(6:Int)<f.aA.length then 6 else eh (bL f.roads.length) f.aA
theorem yk  n  (l:adg)  i   h :fB n (l.drop i)=if jb n l[i]=0 then fB n (l.drop (i+1))else jb n l[i]:=by rw[abu h,fB]
structure Fr.Fits(f:Fr):Prop where
 aA:f.aA.length<1152921504606846976
 roads:f.roads.length<1152921504606846976
 row:∀r∈f.roads,r.length<1152921504606846976
 marks:∀e∈f.aA,e.marks.length<1152921504606846976
def jG(i:Int):adA->Int->Int
 |[],_=>-1
 |x::l,v=>if x=v then i else jG (i+1) l v
def qf(l:adA)(v:Int):Int:=jG 0 l v
theorem AB(l:adA)  v   i   h   c :jG c (l.drop i) v=if l[i]=v then c else jG (c+1) (l.drop (i+1)) v:=by rw[abu h,jG]
theorem yl  v :∀  l   i ,0<=i->(0<=jG i l v↔v∈l)
 |[],i,h=>by simp[jG]
 | x::l,i,h=>by
   unfold jG;split
   . simp_all
   . next e=>rw[yl v l (i+1) (by omega)];grind
theorem kA  l   v :0<=qf l v↔v∈l:=yl v l 0 (acL _)
def gY(f:Fr)(e:wu):adA:=if e.gg≠0 then(List.range (f.eL-f.aT+1).toNat).map λi:Nat=>e.aX-f.eL+(i:Int)else[]
def bH(f:Fr)(e:wu):adA:=if e.gg≠1/\e.aX∉gY f e then gY f e++[e.aX]else gY f e
def iP(first:adA)(others:adg):adA:=first.filter λx=>others.all λl=>decide (x∈l)
def aJ(f:Fr)(i:Int):wu:=f.aA.getD i.toNat ⟨0,0,0,[],0,0⟩
def fH(f:Fr)(l:adA):adA:=match l.map λi=>bH f (aJ f i)with|[]=>[]|a::r=>iP a r
def VU(a b:Int):Int:=IntKind.u8.wrap (((BitVec.ofInt 8 a|||BitVec.ofInt 8 b).toNat:Nat):Int)
def Eh(a b:Int):Int:=IntKind.u8.wrap (((BitVec.ofInt 8 a &&& BitVec.ofInt 8 b).toNat:Nat):Int)
def ym(a b:Int):Int:=IntKind.u8.wrap (((BitVec.ofInt 8 a ^^^ BitVec.ofInt 8 b).toNat:Nat):Int)
def Rn(a b:Int):Int:=IntKind.u8.wrap (a-b)
theorem tA  a b :pz .or .u8 a b=some (.int .u8 (VU a b)):=rfl
theorem uG  a b :pz .and .u8 a b=some (.int .u8 (Eh a b)):=rfl
theorem Ji  a b :pz .xor .u8 a b=some (.int .u8 (ym a b)):=rfl
theorem Jj  a b :pz .sub .u8 a b=some (.int .u8 (Rn a b)):=rfl
def bV(m n:Int):Int:=VU m (IntKind.u8.wrap (2 ^ min n.toNat IntKind.u8.bits))
def fW(m n:Int):Bool:=Eh (m.fdiv (2 ^ min n.toNat IntKind.u8.bits)) 1==1
def aB(m:Int):adA:=((List.range 6).map λn:Nat=>(n:Int)).filter λn=>fW m n
def aR(l:adA):Int:=l.foldl bV 0
end
section
open Go.cz Go.Conc
variable{m:Mo}{σ:ab}{KF:adm}
theorem eM{a lo hi}(h:KF (.val (bool (br a lo hi))) σ):az prog m 155 [int a,int lo,int hi] σ KF:=by
 unfold br at h;refine fs [] Tryz.func155 rfl (by kernel_rfl) ?_;simp[Tryz.f155];refine sm.intro (λb=>?_) (λb=>?_)<;>simp[b]
 . exact .done (by simp_all)
 . exact .done (by simp_all)
theorem MF{l v}(j:l.length<1152921504606846976)(h:KF (.val (int (qf l v))) σ):az prog m 63 [ints l,int v] σ KF:=by
 refine fs [] Tryz.func63 rfl (by kernel_rfl) ?_;simp[Tryz.f63];refine aa.loop l.length (λk s=>∃env,s=⟨env,σ,[],.no⟩/\env 0=ints l/\env 1=int v/\env 7=int l.length/\env 8=int k/\jG 0 l v=jG k (l.drop k) v) ⟨_,rfl,by simp⟩ ?_;rintro n k _ o ⟨env,rfl,e,f,g,d,a⟩ i;apply rn;simp[g,d];apply aG.intro<;>intro c<;>simp at c<;>simp[e,f,d,c]
 . rw[AB l v k c]at a
   refine aG.intro (λb=>?_) (λb=>?_)<;>(try simp at b)<;>(try simp[b]at a)<;>(try simp[d,b])<;>(try exact .done a)
   . subst b
     unfold qf at h;rw[a]at h;exact .done h
   . refine⟨by omega,i _ c ⟨_,rfl,?_,?_,?_,?_,by grind⟩⟩<;>simp[e,f,g]
 . have:k=l.length:=by omega
   subst this;unfold qf at h;rw[a]at h;simp[jG]at h;exact .done h
theorem mV{l v}(a:l.length<1152921504606846976)(h:KF (.val (bool (decide (v∈l)))) σ):az prog m 66 [ints l,int v] σ KF:=by
 refine fs [] Tryz.func66 rfl (by kernel_rfl) ?_;simp[Tryz.f66];refine cf Tryz.func63 rfl (MF a ?_);apply rn;simp;rw[<-decide_eq_decide.2 (kA l v)]at h;exact .done h
theorem qg{l v}(i:l.length<1152921504606846976)(h:KF (.val (int (qf l v))) σ):az prog m 24 [ints l,int v] σ KF:=by
 refine fs [] Tryz.func24 rfl (by kernel_rfl) ?_;simp[Tryz.f24];refine aa.loop l.length (λk s=>∃env,s=⟨env,σ,[],.no⟩/\env 0=ints l/\env 1=int v/\env 5=int k/\jG 0 l v=jG k (l.drop k) v) ⟨_,rfl,by simp⟩ ?_;rintro j k _ n ⟨env,rfl,d,f,e,a⟩ g;apply rn;simp[d,e];apply aG.intro<;>intro c<;>simp at c<;>simp[d,f,e,c]
 . rw[AB l v k c]at a
   refine aG.intro (λb=>?_) (λb=>?_)<;>(try simp at b)<;>(try simp[b]at a)<;>(try simp[e,b])<;>(try exact .done a)
   . subst b
     unfold qf at h;rw[a]at h;exact .done h
   . refine⟨by omega,g _ c ⟨_,rfl,?_,?_,?_,by grind⟩⟩<;>simp[d,f]
 . have:k=l.length:=by omega
   subst this;unfold qf at h;rw[a]at h;simp[jG]at h;exact .done h
theorem vw{a b}(r:a.length<1152921504606846976)(hb:b.length<1152921504606846976)(h:KF (.val (bool (decide (a=b)))) σ):az prog m 15 [ints a,ints b] σ KF:=by
 refine fs Xy Tryz.func15 rfl (by kernel_rfl) ?_;simp[Tryz.f15];refine aa.loop a.length (λk s=>∃env,s=⟨env,σ,[],.no⟩/\env 0=ints a/\env 1=ints b/\env 5=int k/\k<=b.length/\a.take k=b.take k) ⟨_,rfl,by simp⟩ ?_;rintro t k _ u ⟨env,rfl,d,i,f,o,n⟩ p;apply rn;simp[d,f];refine sm.intro (λc=>?_) (λc=>?_)<;>(try simp[-Nat.not_lt,-Nat.not_le]at c)<;>(try simp[d,i,f,c])
 . refine aG.intro (λg=>?_) (λg=>?_)<;>(try simp[-Nat.not_lt,-Nat.not_le]at g)<;>(try simp[d,i,f,g,c])
   . apply rn
     simp;apply aG.intro<;>intro j<;>simp at j<;>simp[f,j]
     . have:a≠b:=λe=>by simp_all
       simp[this]at h;exact .done h
     . refine⟨by omega,p _ c ⟨_,rfl,?_,?_,?_,by omega,Cc c g n j⟩⟩<;>simp[d,i]
   . have:a≠b:=λe=>by simp_all
     have l:((a.length:Int)==b.length)=false:=by grind
     rw[l];exact .done (by simp_all)
 . have:k=a.length:=by omega
   subst this;rw[aaQ]at n;by_cases e:a.length=b.length
   . have:a=b:=by grind
     exact .done (by grind)
   . have:a≠b:=λq=>e (by rw[q])
     have l:((a.length:Int)==b.length)=false:=by grind
     rw[l];exact .done (by grind)
theorem Ei{n}(h:KF (.val (bool false)) σ):az prog m 197 [int n] σ KF:=by
 refine fs [] Tryz.func197 rfl (by kernel_rfl) ?_;simp[Tryz.f197];exact .done h
def Cd(x y:Int):Int:=if x<y then -1 else if y<x then 1 else 0
theorem Gc{x y}(h:KF (.val (int (Cd x y))) σ):az prog m 176 [int x,int y] σ KF:=by
 unfold Cd at h;refine fs [] Tryz.func176 rfl (by kernel_rfl) ?_;simp[Tryz.f176];refine cf Tryz.func197 rfl (Ei ?_);apply rn;simp;refine cf Tryz.func197 rfl (Ei ?_);apply rn;simp;refine aG.intro (λa=>?_) (λa=>?_)<;>(try simp[-Int.not_lt,-Int.not_le]at a)<;>(try simp[a]at h)<;>(try simp[a])<;>(try exact .done h);refine aG.intro (λb=>?_) (λb=>?_)<;>(try simp[-Int.not_lt,-Int.not_le]at b)<;>(try simp[b]at h)<;>(try simp[b])<;>(try exact .done h)
theorem zF{e places}(w:0<=places/\places<1152921504606846976)(x:e.marks.length<1152921504606846976)(h:KF (.val (int (bL places e))) σ):az prog m 156 [bc e,int places] σ KF:=by
 unfold bL at h;refine fs [] Tryz.func156 rfl (by kernel_rfl) ?_;simp[Tryz.f156];refine cf Tryz.func155 rfl (eM ?_);apply rn;simp;refine aG.intro (λi=>?_) (λi=>?_)<;>(try simp at i)<;>(try simp[i]at h)<;>(try simp[i])<;>(try exact .done h);refine⟨by omega,?_⟩;refine cf Tryz.func155 rfl (eM ?_);apply rn;simp;refine aG.intro (λj=>?_) (λj=>?_)<;>(try simp at j)<;>(try simp[j]at h)<;>(try simp[j])<;>(try exact .done h);refine cf Tryz.func155 rfl (eM ?_);apply rn;simp;refine aG.intro (λl=>?_) (λl=>?_)<;>(try simp at l)<;>(try simp[l]at h)<;>(try simp[l])<;>(try exact .done h);refine aa.loop e.marks.length (λk s=>∃env,s=⟨env,σ,[],.no⟩/\env 2=.cp (bc e) 0/\env 22=ints e.marks/\env 23=int e.marks.length/\env 24=int k/\mE none e.marks=mE (if k=0 then none else e.marks[k-1]?) (e.marks.drop k)) ⟨_,rfl,by simp⟩ ?_
 rintro y k _ z ⟨env,rfl,n,f,g,b,a⟩ r;apply rn;simp[g,b];apply aG.intro<;>intro o<;>simp at o<;>simp[n,f,b,o]
 . rw [H2 _ k o]at a
   refine cf Tryz.func155 rfl (eM ?_);apply rn;simp;refine aG.intro (λc=>?_) (λc=>?_)<;>(try simp at c)<;>(try simp[c]at a)<;>(try simp[c])<;>(try exact .done a)
   . refine sm.intro (λd=>?_) (λd=>?_)<;>(try simp at d)<;>(try simp[d]at a)<;>(try simp[n,b,d])<;>(try exact .done a)
     . have t:(k:Int)-1=((k-1:Nat):Int):=by omega
       have q:k-1<e.marks.length:=by omega
       have u:¬k=0:=by omega
       simp[t,q];repeat refine⟨by omega,?_⟩
       try simp[q,u,yj]at a
       refine aG.intro (λp=>?_) (λp=>?_)<;>(try simp at p)<;>(try simp[p]at a)<;>(try simp[b,p])<;>(try exact .done a)
       . simp[a]at h
         exact .done h
       . refine⟨by omega,r _ o ⟨_,rfl,by simp[n],by simp[f],by simp[g],by simp,?_⟩⟩
         grind
     . have v:k=0:=by omega
       subst v;simp[yj]at a
       simp_all
   . simp[a]at h
     exact .done h
 . have:k=e.marks.length:=by omega
   subst this;simp[mE]at a;simp[a]at h;refine cf Tryz.func155 rfl (eM ?_);apply rn;simp;refine aG.intro (λc=>?_) (λc=>?_)<;>(try simp at c)<;>(try simp[c]at h)<;>(try simp[n,c])<;>(try exact .done h);refine cf Tryz.func155 rfl (eM ?_);apply rn;simp;refine aG.intro (λd=>?_) (λd=>?_)<;>(try simp at d)<;>(try simp[d]at h)<;>(try simp[d])<;>(try exact .done h)
theorem iq{n}:∀{r},fB n r=0->∀l∈r,l.length=n/\∀x∈l,br x 0 9=true
 |[],_,l,b=>by simp at b
 | a :: r,h,l,b=>by
   unfold fB at h;split at h
   . next c=>
     rcases abf.1 b with rfl|b
     . unfold jb at c
       grind
     . exact iq h l b
   omega
theorem dC{r i j}  hi  (hj:j<r[i].length):rd r i j=r[i][j]:=by simp[rd,zD,hi,hj]
theorem dA{a lo hi}(h:br a lo hi=true):lo<=a/\a<=hi:=by simpa[br]using h
theorem zI{r}(hr:r.length<1152921504606846976)(hl:∀l∈r,l.length<1152921504606846976)(h:KF (.val (int (eT r))) σ):az prog m 154 [rows r] σ KF:=by
 unfold eT at h;refine fs VH Tryz.func154 rfl (by kernel_rfl) ?_
 simp[Tryz.f154];refine aG.intro (λV=>?_) (λV=>?_)<;>simp at V<;>simp[V]
 . rw[aaK (show r.length<1 by omega)]at h
   exact .done h
 refine aG.intro (λW=>?_) (λW=>?_)<;>simp at W<;>simp[W]
 . have X:¬r.length<1:=by omega
   have P:3<r.length:=by omega
   rw[aaJ (show ¬r.length<1 by omega),aaK P]at h
   exact .done h
 have X:¬r.length<1:=by omega
 have P:¬3<r.length:=by omega
 rw[aaJ X,aaJ P]at h;refine aa.loop r.length (λk s=>∃env,s=⟨env,σ,[],.no⟩/\env 0=rows r/\env 19=rows r/\env 20=int r.length/\env 21=int k/\fB r.length r=fB r.length (r.drop k)) ⟨_,rfl,by simp⟩ ?_
 rintro c0 k _ hk ⟨env,rfl,a,n,o,g,v⟩ Q
 apply rn;simp[o,g];apply aG.intro<;>intro H<;>simp at H<;>simp[a,n,g,H]
 . rw [yk _ _ k H]at v
   obtain⟨l,I⟩:∃l,l=r[k]:=⟨_,rfl⟩;simp only[<-I]at v ⊢;have av:l.length<1152921504606846976:=hl l (by rw[I];exact zs H)
   refine aG.intro (λb=>?_) (λb=>?_)<;>simp at b<;>simp[b]
   . have w:l.length≠r.length:=λe=>b (by rw[e])
     simp[jb,w]at v;simp[v]at h;exact .done h
   have w:l.length=r.length:=by omega
   refine aa.loop l.length (λj s=>∃env,s=⟨env,σ,[],.no⟩/\env 0=rows r/\env 19=rows r/\env 20=int r.length/\env 21=int k/\env 30=ints l/\env 31=int l.length/\env 32=int j/\(l.take j).all (br · 0 9)=true) ⟨_,rfl,by simp[a,n,o,g,w]⟩ ?_
   clear a n o g
   rintro c1 j _ R ⟨env,rfl,a,n,o,g,J,K,B,x⟩ C
   apply rn;simp[K,B];apply aG.intro<;>intro p<;>simp at p<;>simp[g,J,B,p]
   . refine cf Tryz.func155 rfl (eM ?_)
     apply rn;simp;refine aG.intro (λu=>?_) (λu=>?_)<;>(try simp at u)<;>(try simp[B,u])
     . refine⟨by omega,C _ p ⟨_,rfl,by simp[a],by simp[n],by simp[o],by simp[g],by simp[J],by simp[K],by simp,?_⟩⟩
       rw[zG p,acC,x];simp[u]
     . have:l.all (br · 0 9)=false:=by
        rw[List.all_eq_false];exact⟨_,zs p,by simp[u]⟩
       simp[jb,w,this]at v;simp[v]at h;exact .done h
   . have:j=l.length:=by omega
     subst this;rw[aaQ]at x;have Y:jb r.length l=0:=by unfold jb;rw[aaJ (by simp[w]),aaK x]
     rw[aaK Y]at v;refine⟨by omega,Q _ H ⟨_,rfl,?_,?_,?_,?_,v⟩⟩<;>simp[a,n,o]
 have:k=r.length:=by omega
 subst this;simp[fB]at v;rw[aaJ (by omega)]at h
 clear Q;have al:∀(i:Nat) (F:i<r.length),r[i].length=r.length:=λi F=>(iq v _ (zs F)).1
 have L:∀(i:Nat) (F:i<r.length) (j:Nat) (R:j<r[i].length),0<=r[i][j]/\r[i][j]<=9:=λi F j R=>dA ((iq v _ (zs F)).2 _ (zs R))
 refine aa.loop r.length (λi s=>∃env,s=⟨env,σ,[],.no⟩/\env 0=rows r/\env 41=rows r/\env 42=int r.length/\env 43=int i/\∀i'<i,∀j<r.length,bY r i' j=false) ⟨_,rfl,by simp[a]⟩ ?_
 clear a n o g
 rintro c1 i _ F ⟨env,rfl,a,f,d,c,Z⟩ Q
 apply rn;simp[d,c];apply aG.intro<;>intro b<;>simp at b<;>simp[a,c,b]
 . refine aa.loop r.length (λj s=>∃env,s=⟨env,σ,[],.no⟩/\env 0=rows r/\env 41=rows r/\env 42=int r.length/\env 43=int i/\env 8=int i/\env 46=rows r/\env 47=int r.length/\env 48=int j/\∀D<j,bY r i D=false) ⟨_,rfl,by simp[a,f,d,c]⟩ ?_
   clear a f d c
   rintro c2 j _ R ⟨env,rfl,a,f,d,c,z,y,t,q,ax⟩ C
   apply rn;simp[t,q];apply aG.intro<;>intro p<;>simp at p<;>simp[a,c,z,q,p]
   . have q1 : i<r[i].length:=by grind
     have G:j<r[i].length:=by grind
     have q3:i<r[j].length:=by grind
     simp[z,b,q1];refine Lb.intro (λu=>?_) (λu=>?_)<;>(try simp at u)<;>(try simp[a,z,u,b,p,G,q3])
     . apply rn
       simp;apply aG.intro<;>intro S<;>simp at S<;>simp[a,S]
       ·
        have hb:bY r i j=true:=by unfold bY;rw[dC b G,dC p q3];simp[S]
        have:((List.range r.length).any λi=>(List.range r.length).any λj=>bY r i j)=true:=abb.2 ⟨i,Rp.2 b,abb.2 ⟨j,Rp.2 p,hb⟩⟩
        rw[aaK this]at h;exact .done h
       . refine aa.loop r.length (λk s=>∃env,s=⟨env,σ,[],.no⟩/\env 0=rows r/\env 41=rows r/\env 42=int r.length/\env 43=int i/\env 8=int i/\env 46=rows r/\env 47=int r.length/\env 48=int j/\env 9=int j/\env 76=rows r/\env 77=int r.length/\env 78=int k/\∀M<k,¬rd r i j>rd r i M+rd r M j) ⟨_,rfl,by simp[a,f,d,c,z,y,t,q]⟩ ?_
         clear a f d c z y t q
         rintro c3 k _ hk ⟨env,rfl,a,f,d,c,z,y,t,q,h9,a7,N,E,a8⟩ a9
         apply rn;simp[N,E];apply aG.intro<;>intro A<;>simp at A<;>simp[a,z,q,E,A]
         . have T:k<r[i].length:=by grind
           have U:j<r[k].length:=by grind
           have b1:=L i b k T;have b2:=L k A j U;have f1:-9223372036854775808<=r[i][k]+r[k][j]:=by omega
           have f2:r[i][k]+r[k][j]<=9223372036854775807:=by omega
           simp[a,z,h9,b,A,G,T,U,f1,f2];apply rn;simp;apply aG.intro<;>intro O<;>simp at O<;>simp[E,O]
           . have hb:bY r i j=true:=by
              unfold bY;have:((List.range r.length).any λk=>decide (rd r i j>rd r i k+rd r k j))=true:=abb.2 ⟨k,Rp.2 A,by rw[dC b G,dC b T,dC A U];grind⟩
              grind
             have:((List.range r.length).any λi=>(List.range r.length).any λj=>bY r i j)=true:=abb.2 ⟨i,Rp.2 b,abb.2 ⟨j,Rp.2 p,hb⟩⟩
             rw[aaK this]at h;exact .done h
           . refine⟨by omega,a9 _ A ⟨_,rfl,by simp[a],by simp[f],by simp[d],by simp[c],by simp[z],by simp[y],by simp[t],by simp[q],by simp[h9],by simp[a7],by simp[N],by simp,λM ay=>?_⟩⟩
             by_cases e:M=k
             . subst e
               rw[dC b G,dC b T,dC A U];omega
             . exact a8 M (by omega)
         . have:k=r.length:=by omega
           subst this;refine⟨by omega,C _ p ⟨_,rfl,by simp[a],by simp[f],by simp[d],by simp[c],by simp[z],by simp[y],by simp[t],by simp,λD ad=>?_⟩⟩
           by_cases e:D=j
           . subst e
             unfold bY
             have X:((List.range r.length).any λk=>decide (rd r i D>rd r i k+rd r k D))=false:=by
              rw[abH]
              grind
             have P:rd r i i=0:=by rw[dC b q1];exact u
             have e3:rd r i D=rd r D i:=by rw[dC b G,dC p q3];exact S
             grind
           grind
     . have e:(r[i][i] !=0)=true:=by simp[u]
       simp[e];apply rn;simp
       have hb:bY r i j=true:=by unfold bY;rw[dC b q1];simp[u]
       have:((List.range r.length).any λi=>(List.range r.length).any λj=>bY r i j)=true:=abb.2 ⟨i,Rp.2 b,abb.2 ⟨j,Rp.2 p,hb⟩⟩
       rw[aaK this]at h;exact .done h
   . have:j=r.length:=by omega
     subst this;refine⟨by omega,Q _ b ⟨_,rfl,by simp[a],by simp[f],by simp[d],by simp,λi' aC j ad=>?_⟩⟩
     grind
 . have:i=r.length:=by omega
   subst this
   have:((List.range r.length).any λi=>(List.range r.length).any λj=>bY r i j)=false:=by grind
   rw[this]at h;exact .done (by grind)
theorem Ej{f}(g:f.Fits)(h:KF (.val (int (check f))) σ):az prog m 112 [bI f] σ KF:=by
 unfold check at h;have z:=g.roads;have x:=g.aA;refine fs [] Tryz.func112 rfl (by kernel_rfl) ?_;simp[Tryz.f112];refine cf Tryz.func154 rfl (zI g.roads g.row ?_);apply rn;simp;refine aG.intro (λn=>?_) (λn=>?_)<;>(try simp at n)<;>(try simp[n]at h)<;>(try simp[n])<;>(try exact .done h);refine cf Tryz.func155 rfl (eM ?_);apply rn;simp;refine sm.intro (λo=>?_) (λo=>?_)<;>(try simp at o)<;>(try simp[o]at h)<;>(try simp[o])<;>(try exact .done h);refine cf Tryz.func155 rfl (eM ?_);apply rn;simp;refine aG.intro (λp=>?_) (λp=>?_)<;>(try simp at p)<;>(try simp[p]at h)<;>(try simp[p])<;>(try exact .done h);refine aG.intro (λq=>?_) (λq=>?_)<;>(try simp[-Int.not_lt,-Int.not_le]at q)<;>(try simp[q]at h)<;>(try simp[q])<;>(try exact .done h)
 refine cf Tryz.func155 rfl (eM ?_);apply rn;simp;refine sm.intro (λr=>?_) (λr=>?_)<;>(try simp at r)<;>(try simp[r]at h)<;>(try simp[r])<;>(try exact .done h);refine cf Tryz.func155 rfl (eM ?_);apply rn;simp;refine aG.intro (λt=>?_) (λt=>?_)<;>(try simp at t)<;>(try simp[t]at h)<;>(try simp[t])<;>(try exact .done h);refine aG.intro (λu=>?_) (λu=>?_)<;>(try simp[-Int.not_lt,-Int.not_le]at u)<;>(try simp[u]at h)<;>(try simp[u])<;>(try exact .done h);refine aa.loop f.aA.length (λk s=>∃env a,s=⟨env,a,[],.no⟩/\σ.Le a/\env 1=.cp (bI f) 0/\env 47=jF f.aA/\env 48=int f.aA.length/\env 49=int k/\eh (bL f.roads.length) f.aA=eh (bL f.roads.length) (f.aA.drop k)) ⟨_,_,rfl,ab.le_refl _,by simp⟩ ?_;rintro A k _ B ⟨env,a,rfl,c,w,i,j,d,e⟩ y;apply rn;simp[j,d];apply aG.intro<;>intro l<;>simp at l<;>simp[i,d,l]
 . rw[vv _ _ k l]at e
   refine bS.intro λb hb=>?_
   simp[w];refine cf Tryz.func156 rfl (zF ⟨by omega,by omega⟩ (g.marks _ (zs l)) ?_);apply rn;simp;refine aG.intro (λv=>?_) (λv=>?_)<;>(try simp at v)<;>(try simp[v]at e)<;>(try simp[d,v])<;>(try exact .done e)
   . rw[e]at h
     exact .less (ab.rW c hb) (.done h)
   . refine⟨by omega,y _ l ⟨_,_,rfl,ab.rW c hb,?_,?_,?_,?_,e⟩⟩<;>simp[w,i,j]
 . have:k=f.aA.length:=by omega
   subst this;simp[eh]at e;rw[e]at h;exact .less c (.done h)
structure wv(σ:ab)  b mb   σ' :Prop where
 hb:σ b=none
 CO:σ mb=none
 ne:b≠mb
 eq:σ'=(σ.set mb (mapA .u8 [])).set b (.part (bG 6))
def MG(f:Fr)(σ:ab):adm:=λr a=>∃b mb,r=.val (.ref b 0)/\σ b=none/\σ mb=none/\b≠mb/\a=(σ.set mb (mapA .u8 [])).set b (.cells [jF f.aA,rows f.roads,int f.aT,int f.eL,int f.cB,int f.aY,.lit (.int .i32 0),.lit (.int .u32 0),.map mb])
theorem Gd{f}(h:∀b mb σ',wv σ b mb σ'->KF (.val (mc b mb f 0)) σ'):az prog m 157 [bI f] σ KF:=by
 refine az.share (KF0:=MG f σ) ?_ ?_
 . refine az.start lay [6] [] 1 Tryz.func157 rfl rfl (by rfl) (by kernel_rfl) ?_
   simp[Tryz.f157];refine vf (Iz .u8) rfl λmb CO=>?_
   refine aa.run lay [6] ?_;simp[aM];refine bS.intro λb hb=>?_
   obtain⟨d,e,hb⟩:=ab.aQ hb;simp;exact .done ⟨b,mb,rfl,hb,CO,d,rfl⟩
 . rintro r σ' ⟨b,mb,rfl,hb,CO,a,rfl⟩
   refine .inr ⟨b,_,[6,7],bG 6,rfl,ab.ai _ _ _,λi v c=>?_,λi=>?_,?_⟩
   . unfold bG at c
     split at c
     . simp_all
     simp_all
   . unfold bG
     grind
   . exact h b mb _ ⟨hb,CO,a,by simp⟩
def dB(f:Fr)(l:adA):Int:=if check f≠0 then check f else if l.all (br · 0 (f.aA.length-1))then 0 else 3
theorem H3{f l}(o:f.Fits)(v:l.length<1152921504606846976)(h:dB f l≠0->KF (.val (.cA [.lit (.pointer none),int (dB f l)])) σ)
 (q:dB f l=0->∀b mb σ',wv σ b mb σ'->KF (.val (.cA [mc b mb f 0,int 0])) σ'):az prog m 113 [bI f,ints l] σ KF:=by
 have r:=o.aA;refine fs [] Tryz.func113 rfl (by kernel_rfl) ?_
 simp[Tryz.f113];refine cf Tryz.func112 rfl (Ej o ?_);apply rn;simp;refine aG.intro (λi=>?_) (λi=>?_)<;>simp at i<;>simp[i]
 . have:dB f l=check f:=by unfold dB;omega
   rw[this]at h;exact .done (h i)
 refine aa.loop l.length (λk s=>∃env,s=⟨env,σ,[],.no⟩/\env 2=.cp (bI f) 0/\env 14=ints l/\env 15=int l.length/\env 16=int k/\(l.take k).all (br · 0 (f.aA.length-1))=true) ⟨_,rfl,by simp⟩ ?_
 rintro w k _ x ⟨env,rfl,p,d,g,c,a⟩ t
 apply rn;simp[g,c];apply aG.intro<;>intro j<;>simp at j<;>simp[p,d,c,j]
 . refine⟨by omega,?_⟩
   refine cf Tryz.func155 rfl (eM ?_);apply rn;simp;refine aG.intro (λn=>?_) (λn=>?_)<;>(try simp at n)<;>(try simp[c,n])
   . refine⟨by omega,t _ j ⟨_,rfl,by simp[p],by simp[d],by simp[g],by simp,?_⟩⟩
     rw[zG j,acC,a];simp[n]
   . have e:l.all (br · 0 (f.aA.length-1))=false:=by
      grind
     have:dB f l=3:=by unfold dB;simp_all
     rw[this]at h;exact .done (h (by simp))
 . have:k=l.length:=by omega
   subst this;rw[aaQ]at a;have:dB f l=0:=by unfold dB;simp_all
   refine cf Tryz.func157 rfl (Gd λb mb σ' u=>?_)
   apply rn;simp;exact .done (q this b mb σ' u)
theorem VV{a}(h:KF (.val (bool false)) σ):az prog m 111 [.lit .nilIface,a] σ KF:=by
 refine fs [] Tryz.func111 rfl (by kernel_rfl) ?_;simp[Tryz.f111];refine gQ lay rfl HX rfl (.inl ⟨rfl,rfl⟩) (.inl ⟨rfl,rfl⟩) ?_;apply rn;simp;exact .done h
end
open Go.cz Go.Conc
set_option maxRecDepth 4000
variable{m:Mo}{σ:ab}{KF:adm}
theorem rI(first:adA)  others   k   h :iP (first.take (k+1)) others=iP (first.take k) others++if others.all (λl=>decide (first[k]∈l))then[first[k]]else[]:=by
 unfold iP;rw[zG h,abz]
 grind
theorem Ce  first   others :(iP first others).length<=first.length:=abJ _ _
theorem Jk{first others sp f}(B:first.length<=1000000000)(C:others.length<1152921504606846976)(u:∀l∈others,l.length<1152921504606846976)(h:KF (.val (ints (iP first others))) σ):az prog m 253 [.sl 1 (first.map int) sp,.sl 1 (others.map ints) f] σ KF:=by
 refine fs [] Tryz.func253 rfl (by kernel_rfl) ?_;simp[Tryz.f253];refine aa.loop first.length (λk s=>∃env e,s=⟨env,e,[],.no⟩/\env 0=.sl 1 (first.map int) sp/\env 1=.sl 1 (others.map ints) f/\env 10=.sl 1 (first.map int) sp/\env 11=int first.length/\env 12=int k/\Tok σ e (env 5) 1 ((iP (first.take k) others).map int)) ⟨_,_,rfl,by simp,by simp,by simp,by simp,by simp,.nil σ 1⟩ ?_
 rintro D k _ E ⟨env,e,rfl,n,g,c,d,b,a⟩ x;apply rn;simp[d,b];have hlen:=Ce (first.take k) others;rw[abO]at hlen;apply aG.intro<;>intro o<;>simp at o<;>simp[g,c,b,o]
 . refine aa.loop others.length (λj s=>∃env,s=⟨env,e,[],.no⟩/\env 0=.sl 1 (first.map int) sp/\env 1=.sl 1 (others.map ints) f/\env 10=.sl 1 (first.map int) sp/\env 11=int first.length/\env 12=int k/\Tok σ e (env 5) 1 ((iP (first.take k) others).map int)/\env 7=int first[k]/\env 16=.sl 1 (others.map ints) f/\env 17=int others.length/\env 18=int j/\∀l∈others.take j,first[k]∈l) ⟨_,rfl,by simp[n,g,c,d,b,a]⟩ ?_
   clear n g c d b a;rintro F j _ G ⟨env,rfl,n,g,c,d,b,a,y,p,q,i,r⟩ v;apply rn;simp[q,i];apply aG.intro<;>intro t<;>simp at t<;>simp[y,p,i,t]
   . refine cf Tryz.func66 rfl (mV (u _ (zs t)) ?_)
     apply rn;simp;apply aG.intro<;>intro z<;>simp at z<;>simp[b,i,z]
     . refine⟨by omega,v _ t ⟨_,rfl,by simp[n],by simp[g],by simp[c],by simp[d],by simp[b],by simpa using a,by simp[y],by simp[p],by simp[q],by simp,λl u=>?_⟩⟩
       rw[zG t,aaN,lb]at u
       grind
     . refine⟨by omega,x _ o ⟨_,_,rfl,by simp[n],by simp[g],by simp[c],by simp[d],by simp,?_⟩⟩
       have:others.all (λl=>decide (first[k]∈l))=false:=by grind
       rw[rI _ _ _ o,this];simpa using a
   . have:j=others.length:=by omega
     subst this;rw[aaQ]at r;refine aP lay rfl rfl rfl dD rfl dD rfl rH (by decide) (by simp;omega) (σ0:=σ) (es:=(iP (first.take k) others).map int) (xs:=[int first[k]]) (by simpa using a) (.inr ⟨_,rfl⟩) λH A w=>?_
     apply rn;simp[b];refine⟨by omega,x _ o ⟨_,_,rfl,by simp[n],by simp[g],by simp[c],by simp[d],by simp,?_⟩⟩;have:others.all (λl=>decide (first[k]∈l))=true:=by grind
     rw[rI _ _ _ o,this];simpa using w
 . have:k=first.length:=by omega
   subst this;rw[aaQ]at a;exact .om a.W (.less a.1 (.done h))
structure Fr.Good(f:Fr):Prop where
 fits:f.Fits
 fr:0<=f.aT/\f.aT<=3
 to:0<=f.eL/\f.eL<=3
 le:f.aT<=f.eL
 cB:1<=f.cB/\f.cB<=6
 aY:1<=f.aY/\f.aY<=6
 pI:f.aA.length<=6
 qV:∀e∈f.aA,bL f.roads.length e=0
 KN:eT f.roads=0
theorem rJ  g :∀{l},eh g l=0->∀e∈l,g e=0
 |[],_,e,he=>by simp at he
 | a ::l,h,e,he=>by
   unfold eh at h;split at h
   . next b=>
     rcases abf.1 he with rfl|he
     . exact b
     . exact rJ g h e he
   omega
theorem Fr.qh{f}(c:f.Fits)(h:check f=0):f.Good:=by
 unfold check at h;split at h
 . omega
 next d=>
 split at h
 . cases h
 next a=>
 split at h
 . cases h
 next e=>
 split at h
 . cases h
 next b=>
 split at h
 . cases h
 next g=>
 simp only[Bool.not_eq_false,za]at a b;exact⟨c,dA a.1,dA a.2,by omega,dA b.1,dA b.2,by omega,rJ _ h,by omega⟩
theorem kB{p e}(h:bL p e=0):(0<=e.hour/\e.hour<=72)/\(0<=e.place/\e.place<=p-1)/\(0<=e.bX/\e.bX<=5)/\(0<=e.aX/\e.aX<=30)/\(0<=e.gg/\e.gg<=2)/\mE none e.marks=0:=by
 unfold bL at h;split at h
 . cases h
 next a=>
 split at h
 . cases h
 next b=>
 split at h
 . cases h
 next c=>
 split at h
 . omega
 next g=>
 split at h
 . cases h
 next d=>
 split at h
 . cases h
 next f=>
 simp only[Bool.not_eq_false]at a b c d f;exact⟨dA a,dA b,dA c,dA d,dA f,by omega⟩
theorem AE{f}(a:f.Good)  e :(gY f e).length<=4:=by
 unfold gY;have:=a.fr;have:=a.to
 grind
theorem AF{f}(a:f.Good)  e :(bH f e).length<=5:=by
 unfold bH;have:=AE a e
 grind
theorem Ek{f e}(h:e.gg≠0):gY f e=(List.range (f.eL-f.aT+1).toNat).map λi:Nat=>e.aX-f.eL+(i:Int):=aaK h
theorem Ge{b mb f l}(H:f.Good)(Y:l≠[])(hl:l.length<=1000000)(hb:∀n∈l,0<=n/\n<f.aA.length)(h:KF (.val (ints (fH f l))) σ):az prog m 252 [mc b mb f 0,ints l] σ KF:=by
 have h6:=H.pI;have al:=H.fr;have av:=H.to;have ax:=H.le;refine fs VS Tryz.func252 rfl (by kernel_rfl) ?_
 simp[Tryz.f252];refine aa.loop l.length (λk s=>∃env A,s=⟨env,A,[],.no⟩/\env 0=mc b mb f 0/\env 11=ints l/\env 12=int l.length/\env 13=int k/\Tok σ A (env 5) 1 ((l.take k).map λn=>ints (bH f (aJ f n)))) ⟨_,_,rfl,by simp,by simp,by simp,by simp,.nil σ 1⟩ ?_
 rintro c0 k _ hk ⟨env,A,rfl,C,p,g,o,d⟩ S
 rcases aaX k l.length with g1|g1
 . obtain ⟨L,n1⟩:=hb _ (zs g1)
   have n2:l[k].toNat<f.aA.length:=by omega
   obtain⟨e,he⟩:∃e,e=f.aA[l[k].toNat]:=⟨_,rfl⟩;have Z:aJ f l[k]=e:=by simp[aJ,zD,n2,he]
   have ay:=kB (H.qV e (by simp_all))
   have t:(l.take (k+1)).map (λn=>ints (bH f (aJ f n)))=(l.take k).map (λn=>ints (bH f (aJ f n)))++[ints (bH f e)]:=by rw[zG g1,aaY];simp[Z]
   apply rn;simp[C,p,g,o,g1,L,n2,<-he];refine bS.intro λc hc=>?_
   simp
   have a7:σ c=none:=by
    cases q:σ c with
    |none=>rfl
    |some x=>rw[d.1 c x q]at hc;cases hc
   have B:Tok σ (A.set c (.cells [int e.hour,int e.place,int e.bX,ints e.marks,int e.aX,int e.gg])) (env 5) 1 ((l.take k).map λn=>ints (bH f (aJ f n))):=d.beside a7 (λq=>by obtain⟨_,x,hx⟩:=d.aZ q;grind)
   have G:(A.set c (.cells [int e.hour,int e.place,int e.bX,ints e.marks,int e.aX,int e.gg])) c=some (.cells [int e.hour,int e.place,int e.bX,ints e.marks,int e.aX,int e.gg]):=ab.ai _ _ _;generalize A.set c (.cells [int e.hour,int e.place,int e.bX,ints e.marks,int e.aX,int e.gg])=D at B G;refine aG.intro (λM=>?_) (λM=>?_)<;>simp at M<;>simp[M]
   . have f1:-9223372036854775808<=f.eL-f.aT/\f.eL-f.aT<=9223372036854775807:=by omega
     have f2:-9223372036854775808<=f.eL-f.aT+1/\f.eL-f.aT+1<=9223372036854775807:=by omega
     simp[C,f1.1,f1.2,f2.1,f2.2];apply rn;simp;obtain⟨a5,I⟩:∃a,a=env 5:=⟨_,rfl⟩;rw[<-I]at B;obtain⟨cnt,O⟩:∃cnt:Nat,(cnt:Int)=f.eL-f.aT+1:=⟨(f.eL-f.aT+1).toNat,by omega⟩
     have aC:cnt<=4:=by omega
     have a8:gY f e=(List.range cnt).map λi:Nat=>e.aX-f.eL+(i:Int):=by rw[Ek M];grind
     refine aa.loop cnt (λj s=>∃env J,s=⟨env,J,[],.no⟩/\env 0=mc b mb f 0/\env 11=ints l/\env 12=int l.length/\env 13=int k/\env 5=a5/\env 8=.ref c 0/\env 41=int cnt/\env 42=int j/\Tok D J (env 9) 1 (((List.range j).map λi:Nat=>e.aX-f.eL+(i:Int)).map int)) ⟨_,_,rfl,by simp[C,p,g,o,<-I,O,Tok.nil]⟩ ?_
     clear C p g o d I
     rintro c1 j _ hj ⟨env,J,rfl,C,p,g,o,T,N,E,F,u⟩ a9
     have v:=u.1 _ _ G
     rcases aaX j cnt with g3|g3
     . have f3:-9223372036854775808<=e.aX-f.eL/\e.aX-f.eL<=9223372036854775807:=by omega
       have f4:-9223372036854775808<=e.aX-f.eL+j/\e.aX-f.eL+j<=9223372036854775807:=by omega
       apply rn;simp[C,N,E,F,g3,v,f3.1,f3.2,f4.1,f4.2];refine aP lay rfl rfl rfl dD rfl dD rfl rH (by decide) (by simp only[abi,acw,abl,abD];omega) (σ0:=D) (es:=((List.range j).map λi:Nat=>e.aX-f.eL+(i:Int)).map int) (xs:=[int (e.aX-f.eL+j)]) (by simpa using u) (.inr ⟨_,rfl⟩) λa' P w=>?_
       apply pg;simp;apply rn;simp[F];refine⟨by omega,a9 _ g3 ⟨_,_,rfl,by simp[C],by simp[p],by simp[g],by simp[o],by simp[T],by simp[N],by simp[E],by simp,?_⟩⟩
       rw[aaZ,aaY,aaY];simpa using w
     . have:j=cnt:=by omega
       subst this;rw[<-a8]at u;have aE:=AE H e;have U:Wl [env 9,int e.aX] [ints (gY f e),int e.aX]:=.cons u.W (.cons (.refl _) .nil)
       by_cases V:e.gg=1
       . refine aa.KM 9 u.W ?_
         have y:bH f e=gY f e:=aaJ λq=>q.1 V
         apply rn;simp[T,N,E,F,v,V];refine aP lay rfl rfl rfl qe rfl qe rfl dD (by decide) (by simp;omega) (σ0:=σ) (es:=(l.take k).map λn=>ints (bH f (aJ f n))) (xs:=[ints (bH f e)]) (by simpa using B.up u.1) (.inr ⟨_,by rw[y];simp;rfl⟩) λa4 K z=>?_
         apply rn;simp[o];refine⟨by omega,S _ g1 ⟨_,_,rfl,by simp[C],by simp[p],by simp[g],by simp,?_⟩⟩
         rw[t];simpa using z
       . have Q:(e.gg !=1)=true:=by simp[V]
         by_cases X:e.aX∈gY f e
         . have y:bH f e=gY f e:=aaJ λq=>q.2 X
           apply rn;simp[N,E,F,v,Q];refine bK Tryz.func66 rfl rfl U (mV (by omega) ?_)
           refine aa.KM 9 (a':=ints (gY f e)) (by simpa using u.W) ?_
           apply rn;simp[T,X];refine aP lay rfl rfl rfl qe rfl qe rfl dD (by decide) (by simp;omega) (σ0:=σ) (es:=(l.take k).map λn=>ints (bH f (aJ f n))) (xs:=[ints (bH f e)]) (by simpa using B.up u.1) (.inr ⟨_,by rw[y];simp;rfl⟩) λa4 K z=>?_
           apply rn;simp[o];refine⟨by omega,S _ g1 ⟨_,_,rfl,by simp[C],by simp[p],by simp[g],by simp,?_⟩⟩
           rw[t];simpa using z
         . have y:bH f e=gY f e++[e.aX]:=aaK ⟨V,X⟩
           apply rn;simp[N,E,F,v,Q];refine bK Tryz.func66 rfl rfl U (mV (by omega) ?_)
           apply rn;simp[N,X,v];refine aP lay rfl rfl rfl dD rfl dD rfl rH (by decide) (by simp;omega) (σ0:=D) (es:=(gY f e).map int) (xs:=[int e.aX]) (by simpa using u) (.inr ⟨_,rfl⟩) λa' P w=>?_
           refine aa.KM 74 (a':=AV.sl 1 ((gY f e).map int++[int e.aX]) .any) (by simpa using w.W) ?_
           apply rn;simp[T];refine aP lay rfl rfl rfl qe rfl qe rfl dD (by decide) (by simp;omega) (σ0:=σ) (es:=(l.take k).map λn=>ints (bH f (aJ f n))) (xs:=[ints (bH f e)]) (by simpa using B.up w.1) (.inr ⟨_,by rw[y];simp;rfl⟩) λa4 K z=>?_
           apply rn;simp[o];refine⟨by omega,S _ g1 ⟨_,_,rfl,by simp[C],by simp[p],by simp[g],by simp,?_⟩⟩
           rw[t];simpa using z
   . have y:bH f e=[e.aX]:=by
      simp[bH,gY,M]
     simp[G,M];have U:Wl [AV.lit (.slice none 0 0),int e.aX] [ints [],int e.aX]:=.cons (fK 1) (.cons (.refl _) .nil);refine bK Tryz.func66 rfl rfl U (mV (by simp) ?_)
     apply rn;simp[G];refine aP lay rfl rfl rfl dD rfl dD rfl rH (by decide) (by simp) (σ0:=D) (es:=[]) (xs:=[int e.aX]) (by simpa using Tok.nil D 1) (.inr ⟨_,rfl⟩) λa' P w=>?_
     refine aa.KM 74 (a':=AV.sl 1 [int e.aX] .any) (by simpa using w.W) ?_
     apply rn;simp;refine aP lay rfl rfl rfl qe rfl qe rfl dD (by decide) (by simp;omega) (σ0:=σ) (es:=(l.take k).map λn=>ints (bH f (aJ f n))) (xs:=[ints (bH f e)]) (by simpa using B.up w.1) (.inr ⟨_,by rw[y];simp;rfl⟩) λa4 K z=>?_
     apply rn;simp[o];refine⟨by omega,S _ g1 ⟨_,_,rfl,by simp[C],by simp[p],by simp[g],by simp,?_⟩⟩
     rw[t];simpa using z
 . have:k=l.length:=by omega
   subst this;rw[aaQ]at d;refine aa.KM 5 d.W ?_;have R:0<l.length:=List.length_pos_iff.2 Y;apply rn;simp[g,o,R];refine xh lay rfl qe rfl dD (es:=l.map λn=>ints (bH f (aJ f n))) (sp:=.any) (l:=1) (h:=l.length) ?_ (λcap ad=>⟨rfl,⟨rfl,by simp⟩,⟨_,rfl⟩,by omega⟩) (by simp) ?_
   . simp
   obtain⟨L,r,rfl⟩:∃L r,l=L::r:=by
    cases l with
    |nil=>simp_all
    |cons a r=>simp_all
   apply pg;simp
   have e:List.take r.length (List.map (λn=>ints (bH f (aJ f n))) r)=(r.map λn=>bH f (aJ f n)).map ints:=by
    rw[abM (by simp)]
    simp
   rw[e];have hlen:=AF H (aJ f L);refine cf Tryz.func253 rfl (Jk (first:=bH f (aJ f L)) (others:=r.map λn=>bH f (aJ f n)) (by omega) (by grind) (λx hx=>?_) ?_)
   . obtain⟨n,_,rfl⟩:=aaU.1 hx
     have:=AF H (aJ f n);omega
   apply pg;simp;apply rn;simp;refine .less d.1 (.done ?_);simpa[fH]using h
theorem El{f}(h:check f=0):dB f []=0:=by unfold dB;simp_all
theorem Gf{f}{l:adA}(h:check f=0)(a:∀n∈l,0<=n/\n<f.aA.length):dB f l=0:=by
 unfold dB;rw[aaJ (by simp[h]),aaK];rw[aaL];intro n b;have:=a n b;simp[br];omega
theorem wv.le{σ σ' b mb}(h:wv σ b mb σ'):σ.Le σ':=by rw[h.eq];exact ab.rW (ab.rW (ab.le_refl _) h.CO) (by rw[ab.ah _ _ h.ne];exact h.hb)
theorem Cf{a n}(b:0<=n)(h:KF (.val (u8 (bV a n))) σ):az prog m 257 [u8 a,int n] σ KF:=by
 refine fs [] Tryz.func257 rfl (by kernel_rfl) ?_;simp[Tryz.f257];refine⟨b,?_⟩;simp[tA];exact .done h
theorem oT{l}(o:l.length<1152921504606846976)(f:∀n∈l,0<=n)(h:KF (.val (u8 (aR l))) σ):az prog m 255 [ints l] σ KF:=by
 refine fs [] Tryz.func255 rfl (by kernel_rfl) ?_;simp[Tryz.f255];refine aa.loop l.length (λk s=>∃env,s=⟨env,σ,[],.no⟩/\env 3=u8 (aR (l.take k))/\env 4=.fn (.func 257) [u8 (aR (l.take k))] []/\env 9=ints l/\env 10=int l.length/\env 11=int k) ⟨_,rfl,by simp[aR]⟩ ?_;rintro p k _ q ⟨env,rfl,g,i,d,b,a⟩ j;apply rn;simp[b,a];apply aG.intro<;>intro c<;>simp at c<;>simp[g,i,d,a,c]
 . have e:aR (l.take (k+1))=bV (aR (l.take k)) l[k]:=by
    unfold aR;rw[zG c,abo];rfl
   refine eC Tryz.func257 rfl rfl rfl (Cf (f _ (zs c)) ?_);rw[<-e];apply rn;simp[a];exact⟨by omega,j _ c ⟨_,rfl,by simp[d,b]⟩⟩
 . have:k=l.length:=by omega
   subst this;rw[aaQ];exact .done h
def Cg(x:Int):Int:=Eh x (Rn x 1)
def tB:Nat->Int->Int
 |0,x=>x
 |n+1,x=>Cg (tB n x)
def Jl:Nat->Int->Int
 |0,_=>0
 |n+1,x=>if x=0 then 0 else 1+Jl n (Cg x)
def bx(a b:Int):Int:=Jl 8 (ym a b)
theorem yn{a b}(l:tB 8 (ym a b)=0)(h:KF (.val (int (bx a b))) σ):az prog m 256 [u8 a,u8 b] σ KF:=by
 refine fs [] Tryz.func256 rfl (by kernel_rfl) ?_
 simp[Tryz.f256,Ji];refine aa.loop 8 (λk s=>∃env,s=⟨env,σ,[],.no⟩/\env 5=int k/\env 6=u8 (tB k (ym a b))/\bx a b=k+Jl (8-k) (tB k (ym a b))) ⟨_,rfl,by simp,by simp;rfl,by simp[tB,bx]⟩ ?_
 rintro n k _ o ⟨env,rfl,g,f,c⟩ i
 apply rn;simp[f];apply aG.intro<;>intro d<;>simp at d<;>simp[g,f,d]
 . have j:k<8:=by
    grind
   refine⟨by omega,?_⟩
   simp[uG,Jj];refine i _ j ⟨_,rfl,by simp,by simp[tB,Cg],?_⟩
   have e:8-k=(8-(k+1))+1:=by omega
   rw[e,Jl,aaJ d]at c;rw[c];simp only[tB];omega
 . rw[d]at c
   have e:Jl (8-k) 0=0:=by cases 8-k<;>simp[Jl]
   rw[e]at c;rw[c]at h;exact .done (by grind)
abbrev yo(x:Int):AV:=.agg [u8 x]
theorem Qc{x n}(a:0<=n)(h:KF (.val (yo (bV x n))) σ):az prog m 187 [yo x,int n] σ KF:=by
 refine az.start lay [2] VM 2 Tryz.func187 rfl rfl (by rfl) (by kernel_rfl) ?_;simp[Tryz.f187];refine bS.intro λc f=>?_
 simp;refine bS.intro λd hd=>?_
 obtain⟨b,e,hd⟩:=ab.aQ hd;simp[e,ab.ah,tA,a];refine aa.run lay [2] ?_;simp[b,ab.ah];exact .less (by repeat (first|exact ab.le_refl _|assumption|refine ab.fE ?_ (by assumption)|refine ab.lO ?_ (by assumption))) (.done h)
theorem MH{x}(h:KF (.val (ints (aB x))) σ):az prog m 205 [yo x] σ KF:=by
 refine fs [] Tryz.func205 rfl (by kernel_rfl) ?_;simp[Tryz.f205];refine aa.loop 6 (λk s=>∃env b,s=⟨env,b,[],.no⟩/\env 1=.cp (yo x) 0/\env 5=int k/\Tok σ b (env 3) 1 ((((List.range k).map λn:Nat=>(n:Int)).filter λn=>fW x n).map int)) ⟨_,_,rfl,by simp,by simp,.nil σ 1⟩ ?_;rintro l k _ o ⟨env,b,rfl,d,c,a⟩ f;rcases aaX k 6 with g1|g1
 . have e:(k:Int)<6:=by omega
   have p:(((List.range k).map λn:Nat=>(n:Int)).filter λn=>fW x n).length<=k:=by grind
   have q:(((List.range (k+1)).map λn:Nat=>(n:Int)).filter λn=>fW x n)=(((List.range k).map λn:Nat=>(n:Int)).filter λn=>fW x n)++if fW x k then[(k:Int)]else[]:=by
    rw[aaZ,aaY,abz]
    grind
   apply rn;simp[d,c,e,uG];have g:fW x k=(Eh (x.fdiv (2 ^ min k IntKind.u8.bits)) 1==1):=by simp[fW]
   rw[<-g];cases hb:fW x k
   . simp[c]
     refine⟨by omega,f _ g1 ⟨_,_,rfl,by simp[d],by simp,?_⟩⟩
     simp_all
   . simp
     refine aP lay rfl rfl rfl dD rfl dD rfl rH (by decide) (by grind) (σ0:=σ) (es:=(((List.range k).map λn:Nat=>(n:Int)).filter λn=>fW x n).map int) (xs:=[int k]) (by simp_all) (.inr ⟨_,rfl⟩) λr i j=>?_
     apply rn;simp[c];refine⟨by omega,f _ g1 ⟨_,_,rfl,by simp[d],by simp,?_⟩⟩
     simp_all
 . have:k=6:=by omega
   subst this;apply rn;simp[c];exact .om a.W (.less a.1 (.done h))
def ir(a b:Int):Int:=if 0<a/\a<b then 3 else if a=b then 1 else 2
theorem Gg{a b}(h:KF (.val (int (ir a b))) σ):az prog m 202 [int a,int b] σ KF:=by
 unfold ir at h;refine fs [] Tryz.func202 rfl (by kernel_rfl) ?_;simp[Tryz.f202];refine sm.intro (λd=>?_) (λd=>?_)<;>(try simp[-Int.not_lt,-Int.not_le]at d)<;>(try simp[d]at h)<;>(try simp[d])<;>(try exact .done h)
 . refine aG.intro (λe=>?_) (λe=>?_)<;>(try simp[-Int.not_lt,-Int.not_le]at e)<;>(try simp[e]at h)<;>(try simp[e])<;>(try exact .done h)
   . have:a≠b:=by omega
     apply aG.intro<;>intro c<;>simp at c<;>simp[c]
     . omega
     . exact .done h
   . refine aG.intro (λc=>?_) (λc=>?_)<;>(try simp at c)<;>(try simp[c]at h)<;>(try simp[c])<;>(try exact .done h)
 . refine aG.intro (λc=>?_) (λc=>?_)<;>(try simp at c)<;>(try simp[c]at h)<;>(try simp[c])<;>(try exact .done h)
theorem Jm{l}(b:l≠[])(c:l.length<=1000000000)(h:∀a σ',cd σ σ' a 1 (l.map int)->KF (.val a) σ'):az prog m 80 [ints l] σ KF:=by
 refine fs [] Tryz.func80 rfl (by kernel_rfl) ?_;simp[Tryz.f80];refine C0 lay rfl dD rfl rfl (.inr (.inl ⟨rfl,by simp_all,rfl⟩)) (.inl ⟨rfl,rfl⟩) ?_;apply rn;simp;refine oo lay rfl rfl rfl dD rfl dD rfl rH (by decide) (by simp;omega) (σ0:=σ) (es:=[]) (xs:=l.map int) (.empty σ 1) (.inl (.inr ⟨_,rfl⟩)) (by simp) λd σ' e=>?_
 apply rn;simp;exact .done (h _ _ (by simp_all))
def dK(lt:Int->Int->Bool)(x:Int):adA->adA
 |[]=>[x]
 |y::r=>if lt x y then y::dK lt x r else x::y::r
def dg(lt:Int->Int->Bool)(l:adA):adA:=l.foldl (λr x=>dK lt x r) []
theorem Em  lt   x :∀r,(dK lt x r).length=r.length+1
 |[]=>rfl
 |y::r=>by unfold dK;split<;>simp[Em lt x r]
theorem jX  lt   l :(dg lt l).length=l.length:=by
 have key:∀(l r:adA),(l.foldl (λr x=>dK lt x r) r).length=r.length+l.length:=by
  intro l;induction l with
  |nil=>intro r;rfl
  |cons a l b=>intro r;rw[abC,b,Em];simp;omega
 rw[dg,key];simp
theorem En  lt   x :∀  r   y ,y∈dK lt x r↔y=x\/y∈r
 |[],y=>by simp[dK]
 | z ::r,y=>by
   unfold dK;split
   . rw[abf,En lt x r y,abf]
     grind
   . simp
theorem qW  lt   l   y :y∈dg lt l↔y∈l:=by
 have key:∀(l r:adA),y∈l.foldl (λr x=>dK lt x r) r↔y∈r\/y∈l:=by
  intro l;induction l with
  |nil=>grind
  | cons a l b=>
    intro r;rw[abC,b,En,abf]
    grind
 rw[dg,key];simp
def Eo(m:Mo)(y:AV)(c:Int->Int->Int)(In:Int->Prop):Prop:=∀(a b:Int) (σ:ab) (KF:adm),In a->In b->KF (.val (int (c a b))) σ->cr prog m y [int a,int b] σ KF
theorem VW{α:Type}{A B}{x y:α}{n}(a:A.length=n):(A++y::x::B)[n]?=some y/\(A++y::x::B)[n+1]?=some x/\((A++y::x::B).set n x).set (n+1) y=A++x::y::B/\((A++y::x::B).set (n+1) y).set n x=A++x::y::B:=by simp_all
theorem Gh{y c In l b cap rest}(W:Eo m y c In)(J:∀x∈l,In x)(hl:l.length<=1000000)(hb:σ b=some (.cells (l.map int++rest)))
 (h:KF (.val (.cA [])) (σ.set b (.cells ((dg (λa b=>decide (c a b<0)) l).reverse.map int++rest)))):az prog m 209 [.gn b 0 l.length cap,int 0,int l.length,y] σ KF:=by
 refine fs VQ Tryz.func209 rfl (by kernel_rfl) ?_
 simp[Tryz.f209];obtain⟨lt,D⟩:∃lt,lt=λa b=>decide (c a b<0):=⟨_,rfl⟩
 rw[<-D]at h;refine aa.loop l.length (λi s=>∃env g,s=⟨env,g,[],.no⟩/\env 0=.gn b 0 l.length cap/\env 1=int 0/\env 2=int l.length/\env 3=y/\env 8=int ((i:Int)+1)/\g=σ.set b (.cells ((dg lt (l.take (i+1))).reverse.map int++((l.drop (i+1)).map int++rest)))) ⟨_,_,rfl,by simp,by simp,by simp,by simp,by simp,?_⟩ ?_
 . have e:(dg lt (l.take 1)).reverse.map int++((l.drop 1).map int++rest)=l.map int++rest:=by
    cases l with
    |nil=>simp[dg]
    |cons a l=>simp[dg,dK]
   rw[e]
   funext d
   by_cases q:d=b
   . simp_all
   . rw[ab.ah _ _ q]
 rintro c0 i _ hi ⟨env,g,rfl,t,u,v,E,w,j⟩ X
 rcases aaX (i+1) l.length with g1|g1
 . have Q:(i:Int)+1<l.length:=by omega
   obtain⟨S,M⟩:∃S,S=dg lt (l.take (i+1)):=⟨_,rfl⟩;have R:S.length=i+1:=by rw[M,jX,abO];omega
   have T:∀x∈S,In x:=λx N=>J x (acA ((qW lt _ x).1 (M ▸ N)))
   have F:dg lt (l.take (i+1+1))=dK lt l[i+1] S:=by rw[M,dg,zG g1,abo];rfl
   obtain⟨x,N⟩:∃x,x=l[i+1]:=⟨_,rfl⟩;have K:In x:=J x (by simp_all)
   have U:l.drop (i+1)=x::l.drop (i+2):=by rw[N];exact abu g1
   rw[<-M,U]at j;rw[<-N]at F;apply rn;simp[v,w,Q]
   refine aa.loop (i+1) (λk s=>∃env g r f,s=⟨env,g,[],.no⟩/\env 0=.gn b 0 l.length cap/\env 1=int 0/\env 2=int l.length/\env 3=y/\env 8=int ((i:Int)+1)/\env 9=int f.length/\S=r++f/\f.length+k=i+1/\dK lt x S=r++dK lt x f/\
    g=σ.set b (.cells ((f.reverse.map int)++int x::(r.reverse.map int++((l.drop (i+2)).map int++rest))))) ⟨_,_,[],S,rfl,by simp[t],by simp[u],by simp[v],by simp[E],by simp[w],by simp[R],rfl,by omega,rfl,by grind⟩ ?_
   clear t u v E w j
   rintro c1 k _ hk ⟨env,g,r,f,rfl,t,u,v,E,w,O,G,hlen,p,j⟩ V
   cases f with
   | nil=>
     simp only[abD,abU]at hlen;simp only[abn]at G;subst G
     have o:g=σ.set b (.cells ((dg lt (l.take (i+1+1))).reverse.map int++((l.drop (i+1+1)).map int++rest))):=by rw[j,F,p];simp[dK]
     apply rn;simp[u,O];refine⟨?_,?_⟩
     all_goals
      apply rn;simp[w];refine⟨by omega,X _ (by omega) ⟨_,_,rfl,?_,?_,?_,?_,?_,o⟩⟩<;>simp[t,u,v,E]
   | cons z f=>
     obtain⟨e1,e2,e3,e4⟩:=VW (A:=f.reverse.map int) (B:=r.reverse.map int++((l.drop (i+2)).map int++rest)) (x:=int x) (y:=int z) (n:=f.length) (by simp)
     have C:g b=some (.cells (f.reverse.map int++int z::int x::(r.reverse.map int++((l.drop (i+2)).map int++rest)))):=by rw[j,ab.ai];simp
     have L:In z:=T z (by grind)
     have f1:(0:Int)<(f.length:Int)+1:=by omega
     have Y:(f.length:Int)+1<l.length:=by grind
     have Z:(f.length:Int)<l.length:=by omega
     have f4:(0:Int)<=(f.length:Int)+1:=by omega
     have f5:((f.length:Int)+1).toNat=f.length+1:=by omega
     have I:-9223372036854775808<=(f.length:Int)/\(f.length:Int)<=9223372036854775807:=by omega
     apply rn;simp[t,u,E,O,f1,Y,Z,f4,f5,I.1,I.2,C];refine⟨W _ _ _ _ K L ?_,W _ _ _ _ K L ?_⟩
     all_goals
      apply pg;simp;apply rn;simp
      by_cases P:c x z<0
      . have f7:f.length+1+1<=f.length+(r.length+(l.length-(i+2)+rest.length)+1+1):=by omega
        have f8:f.length+1<=f.length+(r.length+(l.length-(i+2)+rest.length)+1+1):=by omega
        have H:dK lt x (z::f)=z::dK lt x f:=by rw[D];simp[dK,P]
        simp[t,O,P,f5,I.1,I.2,Y,Z,f4,C,f7,f8];apply rn;simp[O,I.1,I.2];refine V _ (by simp at hlen;omega) ⟨_,_,r++[z],f,rfl,by simp[t],by simp[u],by simp[v],by simp[E],by simp[w],by simp,by rw[G];simp,by simp at hlen;omega,by rw[p,H];simp,?_⟩
        rw[j];simp
      . have H:dK lt x (z::f)=x::z::f:=by rw[D];simp[dK,P]
        have o:g=σ.set b (.cells ((dg lt (l.take (i+1+1))).reverse.map int++((l.drop (i+1+1)).map int++rest))):=by rw[j,F,p,H];simp
        simp[w,P];refine⟨by omega,X _ (by omega) ⟨_,_,rfl,?_,?_,?_,?_,?_,o⟩⟩<;>simp[t,u,v,E]
 . have o:(dg lt (l.take (i+1))).reverse.map int++((l.drop (i+1)).map int++rest)=(dg lt l).reverse.map int++rest:=by
    rw[abM (by omega),List.drop_of_length_le (by omega)];simp
   rw[o]at j;have g2:¬(i:Int)+1<l.length:=by omega
   apply rn;simp[v,w,g2];rw[j];exact .done h
theorem Ch{y c In l b cap rest}(q:Eo m y c In)(g:∀x∈l,In x)(w:l.length<20)(hb:σ b=some (.cells (l.map int++rest)))
 (h:KF (.val (.cA [])) (σ.set b (.cells ((dg (λa b=>decide (c a b<0)) l).reverse.map int++rest)))):az prog m 206 [.gn b 0 l.length cap,int l.length,y] σ KF:=by
 refine fs [] Tryz.func206 rfl (by kernel_rfl) ?_;simp[Tryz.f206];have r:¬(20:Int)<=l.length:=by omega
 have t:¬(20:Int)<l.length:=by omega
 refine aa.loop 1 (λk s=>∃env,s=⟨env,σ,[],.no⟩/\env 0=.gn b 0 l.length cap/\env 1=int l.length/\env 2=y/\env 6=int 20/\env 7=int 0/\env 8=int 20) ⟨_,rfl,by simp⟩ ?_;rintro z k _ u ⟨env,rfl,j,e,n,f,o,p⟩ v;apply rn;simp[j,e,n,o,p,r];refine cf Tryz.func209 rfl (Gh q g (by omega) hb ?_);apply rn;simp;refine aa.loop 1 (λk s=>∃env d,s=⟨env,d,[],.no⟩/\env 1=int l.length/\env 6=int 20/\d=σ.set b (.cells ((dg (λa b=>decide (c a b<0)) l).reverse.map int++rest))) ⟨_,_,rfl,by simp[e,f]⟩ ?_;clear j e n f o p;rintro A k _ u ⟨env,d,rfl,e,f,i⟩ v;apply rn;simp[e,f,t];rw[i];exact .done h
theorem tC{y c In l b cap rest}(e:Eo m y c In)(d:∀x∈l,In x)(f:l.length<20)(hb:σ b=some (.cells (l.map int++rest)))
 (h:KF (.val (.cA [])) (σ.set b (.cells ((dg (λa b=>decide (c a b<0)) l).reverse.map int++rest)))):az prog m 198 [.gn b 0 l.length cap,y] σ KF:=by
 refine fs [] Tryz.func198 rfl (by kernel_rfl) ?_;simp[Tryz.f198];refine cf Tryz.func206 rfl (Ch e d f hb ?_);apply rn;simp;exact .done (by simpa using h)
theorem Qd{y c In l}(r:Eo m y c In)(f:∀x∈l,In x)(s:l.length<20)(g:l≠[])(i:y.cells=[y]/\y.flat=true)(h:KF (.val (ints (dg (λa b=>decide (c a b<0)) l).reverse)) σ):az prog m 177 [.agg [y],ints l] σ KF:=by
 refine fs [] Tryz.func177 rfl (by kernel_rfl) ?_;simp[Tryz.f177,i.2];refine cf Tryz.func80 rfl (Jm g (by omega) λa j k=>?_)
 obtain⟨b,cap,rest,rfl,n,o,v,p,q⟩:∃b cap rest,a=.gn b 0 (l.map int).length cap/\σ b=none/\(l.map int).length<=cap/\(∀e∈l.map int,e.cells.length=1)/\j b=some (.cells (flatten (l.map int)++rest))/\rest.length=(cap-(l.map int).length)*1:=by
  rcases k.2 with⟨e,_⟩|h
  . simp_all
  . exact h
 have d:∀l:adA,flatten (l.map int)=l.map int:=λl=>by
  induction l with
  |nil=>rfl
  |cons a l t=>simp[flatten_cons,AV.cells,t]
 rw[d]at p;rw[abi]at o q ⊢;apply rn;simp;refine cf Tryz.func198 rfl (tC r f s p ?_);apply rn;simp;refine cd.thaw (σ0:=σ) (kk:=1) (es:=(dg (λa b=>decide (c a b<0)) l).reverse.map int) ⟨ab.fE k.1 n,.inr ⟨b,cap,rest,?_,n,?_,λe u=>?_,?_,?_⟩⟩ h
 . simp[jX]
 . simpa[jX]using o
 . obtain⟨x,_,rfl⟩:=aaU.1 u;rfl
 . rw[d];simp
 . simpa[jX]using q
def uH(f:Fr)(a b:Int):Int:=Cd (aJ f a).hour (aJ f b).hour
theorem Qe{b mb f x y}(d:0<=x/\x<f.aA.length)(e:0<=y/\y<f.aA.length)(h:KF (.val (int (uH f x y))) σ):az prog m 175 [int x,int y,.cp (mc b mb f 0) 0] σ KF:=by
 have a:x.toNat<f.aA.length:=by omega
 have c:y.toNat<f.aA.length:=by omega
 have ex:aJ f x=f.aA[x.toNat]:=by simp[aJ,zD,a]
 have g:aJ f y=f.aA[y.toNat]:=by simp[aJ,zD,c]
 unfold uH at h;rw[ex,g]at h;refine fs VK Tryz.func175 rfl (by kernel_rfl) ?_;simp[Tryz.f175,a,c,d.1,e.1];refine cf Tryz.func176 rfl (Gc ?_);apply pg;simp;apply rn;simp;exact .done h
theorem MI{b mb f}:Eo m (.fn (.func 175) [] [.cp (mc b mb f 0) 0]) (uH f) (λn=>0<=n/\n<f.aA.length):=λx y σ KF a c h=>by refine eC Tryz.func175 rfl rfl rfl (Qe a c h)
structure O3(f:Fr)(l:adA):Prop where
 mem:∀n∈l,0<=n/\n<f.aA.length
 ne:l≠[]
 len:l.length<=1000000
def dt(f:Fr)(l:adA):Bool:=l.any λn=>decide ((aJ f n).bX≠(aJ f (l.getD 0 0)).bX)
theorem iV{f x}  h :aJ f x=f.aA[x.toNat]:=by simp[aJ,zD,h]
theorem Gi{b mb f l}(u:O3 f l)(h:KF (.val (bool (dt f l))) σ):az prog m 250 [.agg [],mc b mb f 0,ints l] σ KF:=by
 obtain⟨i,g,hlen⟩:=u;have a:0<l.length:=List.length_pos_iff.2 g;obtain⟨v,A⟩:=i _ (zs a);have j:l[0].toNat<f.aA.length:=by omega
 have w:l.getD 0 0=l[0]:=by simp_all
 unfold dt at h;rw[w]at h;refine fs VR Tryz.func250 rfl (by kernel_rfl) ?_;simp[Tryz.f250];refine aa.loop l.length (λk s=>∃env,s=⟨env,σ,[],.no⟩/\env 1=mc b mb f 0/\env 2=ints l/\env 9=ints l/\env 10=int l.length/\env 11=int k/\∀n∈l.take k,(aJ f n).bX=(aJ f l[0]).bX) ⟨_,rfl,by simp⟩ ?_;rintro B k _ C ⟨env,rfl,o,p,q,c,d,e⟩ x;rcases aaX k l.length with g1|g1
 . obtain⟨y0,D⟩:=i _ (zs g1)
   have r:l[k].toNat<f.aA.length:=by omega
   have E:=iV r;have F:=iV j;apply rn;simp[o,p,q,c,d,g1,a,y0,r,v,j];apply rn;simp;by_cases t:f.aA[l[k].toNat].bX=f.aA[l[0].toNat].bX
   . simp[d,t]
     refine⟨by omega,x _ g1 ⟨_,rfl,by simp[o],by simp[p],by simp[q],by simp[c],by simp,λn y=>?_⟩⟩;rw[zG g1,aaN,lb]at y
     grind
   . have z:(f.aA[l[k].toNat].bX !=f.aA[l[0].toNat].bX)=true:=by simp[t]
     have:l.any (λn=>decide ((aJ f n).bX≠(aJ f l[0]).bX))=true:=abb.2 ⟨_,zs g1,by simp_all⟩;rw[this]at h;simp[z];exact .done h
 . have:k=l.length:=by omega
   subst this;rw[aaQ]at e;have:l.any (λn=>decide ((aJ f n).bX≠(aJ f l[0]).bX))=false:=by simp_all
   rw[this]at h;apply rn;simp[c,d];exact .done h
def cy(f:Fr)(l:adA):Bool:=decide (fH f l=[])
theorem Gj{b mb f l}(g:f.Good)(c:O3 f l)(h:KF (.val (bool (cy f l))) σ):az prog m 251 [.agg [],mc b mb f 0,ints l] σ KF:=by
 refine fs [] Tryz.func251 rfl (by kernel_rfl) ?_;simp[Tryz.f251];refine cf Tryz.func252 rfl (Ge g c.ne c.len c.mem ?_);apply rn;simp;unfold cy at h;cases d:fH f l with
 |nil=>rw[d]at h;exact .done h
 | cons a r=>
   rw[d]at h;have e:((r.length:Int)+1==0)=false:=by grind
   refine .done ?_;simpa[e]using h
def eo(f:Fr)(x y:Int):Bool:=decide ((aJ f y).hour-(aJ f x).hour<rd f.roads (aJ f x).place.toNat (aJ f y).place.toNat+f.cB*bx (aR (aJ f x).marks) (aR (aJ f y).marks))
def bu(f:Fr)(l:adA):Bool:=(List.range (l.length-1)).any λi=>eo f (l.getD i 0) (l.getD (i+1) 0)
theorem ln:∀{l p},mE p l=0->∀n∈l,0<=n/\n<=4
 |[],_,_,n,hn=>by simp at hn
 | a::l,p,h,n,hn=>by
   unfold mE at h;split at h
   . cases h
   next b=>
   split at h
   . cases h
   next c=>
   rcases abf.1 hn with rfl|hn
   . simp[br]at b;omega
   . exact ln h n hn
theorem Jn:∀a:Fin 32,∀n:Fin 5,0<=bV (a.val:Int) (n.val:Int)/\bV (a.val:Int) (n.val:Int)<32:=by decide
theorem gZ{l}(h:∀n∈l,0<=n/\n<=4):0<=aR l/\aR l<32:=by
 have key:∀(l:adA) (a:Int),(∀n∈l,0<=n/\n<=4)->0<=a/\a<32->0<=l.foldl bV a/\l.foldl bV a<32:=by
  intro l;induction l with
  |nil=>simp_all
  | cons x l c=>
    intro a b e;rw[abC];refine c _ (λn d=>b n (abP _ d)) ?_;obtain⟨f,g⟩:=b x (acJ ..);have:=Jn ⟨a.toNat,by omega⟩ ⟨x.toNat,by omega⟩;have i:(a.toNat:Int)=a:=by omega
    have j:(x.toNat:Int)=x:=by omega
    simp_all
 exact key l 0 h (by omega)
theorem MJ:∀a:Fin 32,∀b:Fin 32,tB 8 (ym (a.val:Int) (b.val:Int))=0/\0<=bx (a.val:Int) (b.val:Int)/\bx (a.val:Int) (b.val:Int)<=5:=by decide +kernel
theorem Ci{a b}(c:0<=a/\a<32)(hb:0<=b/\b<32):tB 8 (ym a b)=0/\0<=bx a b/\bx a b<=5:=by
 have:=MJ ⟨a.toNat,by omega⟩ ⟨b.toNat,by omega⟩
 grind
theorem Fr.Good.row{f:Fr}(a:f.Good){i}(hi:i<f.roads.length):f.roads[i].length=f.roads.length/\∀x∈f.roads[i],0<=x/\x<=9:=by
 have h:=a.KN;unfold eT at h;split at h
 . cases h
 split at h
 . cases h
 split at h
 . omega
 next q=>
 obtain⟨b,c⟩:=iq (by simpa using q) _ (zs hi);exact⟨b,λx d=>dA (c x d)⟩
theorem Gk{b mb f l}(j:f.Good)(hl:O3 f l)(h:KF (.val (bool (bu f l))) σ):az prog m 254 [.agg [],mc b mb f 0,ints l] σ KF:=by
 obtain⟨S,a7,hlen⟩:=hl;have p:=j.cB;unfold bu at h;refine fs VT Tryz.func254 rfl (by kernel_rfl) ?_
 simp[Tryz.f254];refine aa.loop (l.length-1) (λk s=>∃env a,s=⟨env,a,[],.no⟩/\σ.Le a/\env 1=mc b mb f 0/\env 2=ints l/\env 7=int ((k:Int)+1)/\∀i<k,eo f (l.getD i 0) (l.getD (i+1) 0)=false) ⟨_,_,rfl,ab.le_refl _,by simp⟩ ?_
 rintro c0 k _ hk ⟨env,a,rfl,q,r,w,x,T⟩ U
 rcases aaX (k+1) l.length with g1|g1
 . have K:(k:Int)+1<l.length:=by omega
   have L:k<l.length:=by omega
   obtain⟨x0,x1⟩:=S _ (zs L);obtain⟨y0,y1⟩:=S _ (zs g1);have y:l[k].toNat<f.aA.length:=by omega
   have z:l[k+1].toNat<f.aA.length:=by omega
   have f1:-9223372036854775808<=(k:Int)/\(k:Int)<=9223372036854775807:=by omega
   have f2:((k:Int)+1).toNat=k+1:=by omega
   have f3:(0:Int)<=(k:Int)+1:=by omega
   obtain⟨A,C⟩:∃A,A=f.aA[l[k].toNat]:=⟨_,rfl⟩;obtain⟨B,D⟩:∃B,B=f.aA[l[k+1].toNat]:=⟨_,rfl⟩;have V:=iV y;have W:=iV z;rw[<-C]at V;rw[<-D]at W;have bA:=kB (j.qV A (by grind))
   have bB:=kB (j.qV B (by grind))
   apply rn;simp[r,w,x,K,L,g1,x0,y,y0,z,f1.1,f1.2,f2,f3,<-C,<-D];have e:=λ{c:Nat}(t:a c=none)=>q.none t
   have E:A.place.toNat<f.roads.length:=by omega
   obtain⟨r1,r2⟩:=j.row E;have F:B.place.toNat<f.roads[A.place.toNat].length:=by omega
   obtain⟨r3,r4⟩:=r2 _ (zs F);have M:rd f.roads A.place.toNat B.place.toNat=f.roads[A.place.toNat][B.place.toNat]:=dC E F;have N:=ln bA.2.2.2.2.2;have O:=ln bB.2.2.2.2.2;have lA:=gZ N;have lB:=gZ O;obtain⟨X,P,Y⟩:=Ci lA lB;obtain⟨ch,g⟩:∃ch,ch=bx (aR A.marks) (aR B.marks):=⟨_,rfl⟩;rw[<-g]at P Y
   have hmul:0<=f.cB*ch/\f.cB*ch<=30:=by
    constructor
    . exact Int.mul_nonneg (by omega) P
    . calc f.cB*ch<=6*5:=acI p.2 Y P (by omega)
       _=30:=by rfl
   have Z:eo f l[k] l[k+1]=decide (B.hour-A.hour<f.roads[A.place.toNat][B.place.toNat]+f.cB*ch):=by unfold eo;rw[V,W,M,g]
   have a8:l.getD k 0=l[k]:=by simp[zD,L]
   have a9:l.getD (k+1) 0=l[k+1]:=by simp[zD,g1]
   have G:-9223372036854775808<=B.hour-A.hour/\B.hour-A.hour<=9223372036854775807:=by omega
   have H:-9223372036854775808<=f.cB*ch/\f.cB*ch<=9223372036854775807:=by omega
   have I:-9223372036854775808<=f.roads[A.place.toNat][B.place.toNat]+f.cB*ch/\f.roads[A.place.toNat][B.place.toNat]+f.cB*ch<=9223372036854775807:=by omega
   refine⟨q8.intro λc t=>?_,q8.intro λc t=>?_⟩
   . simp
     refine q8.intro λd hd=>?_
     obtain⟨J,u,hd⟩:=ab.aQ hd;have Q:=e t;have R:=e hd;simp[J,u,ab.ah];refine aa.bd 8 (b:=c) (bc A) (by simp[u,ab.ah]) (by simp) rfl ?_
     refine aa.bd 9 (b:=d) (bc B) (by simp[J,ab.del]) (by simp) rfl ?_
     apply rn;simp[r,G.1,G.2,E,F];refine⟨by omega,by omega,?_⟩
     refine cf Tryz.func255 rfl (oT (by have:=j.fits.marks A (by rw[C];exact zs y);omega) (λn o=>(N n o).1) ?_)
     apply pg;simp;refine cf Tryz.func255 rfl (oT (by have:=j.fits.marks B (by rw[D];exact zs z);omega) (λn o=>(O n o).1) ?_)
     apply pg;simp;refine cf Tryz.func256 rfl (yn X ?_);rw[<-g];apply pg;simp[H.1,H.2,I.1,I.2];apply rn;simp
     by_cases v:B.hour-A.hour<f.roads[A.place.toNat][B.place.toNat]+f.cB*ch
     . simp[v]
       have:(List.range (l.length-1)).any (λi=>eo f (l.getD i 0) (l.getD (i+1) 0))=true:=abb.2 ⟨k,Rp.2 (by omega),by grind⟩
       rw[this]at h;exact .less (by repeat (first|exact ab.le_refl _|assumption|refine ab.fE ?_ (by assumption)|refine ab.lO ?_ (by assumption))) (.done h)
     . simp[x,v]
       refine⟨by omega,U _ (by omega) ⟨_,_,rfl,(by repeat (first|exact ab.le_refl _|assumption|refine ab.fE ?_ (by assumption)|refine ab.lO ?_ (by assumption))),by simp[r],by simp[w],by simp,λi hi=>?_⟩⟩
       grind
   . simp
     refine q8.intro λd hd=>?_
     obtain⟨J,u,hd⟩:=ab.aQ hd;have Q:=e t;have R:=e hd;simp[u,ab.ah];refine aa.bd 8 (b:=d) (bc A) (by simp[J,ab.ah]) (by simp) rfl ?_
     refine aa.bd 9 (b:=c) (bc B) (by simp[u,ab.del]) (by simp) rfl ?_
     apply rn;simp[r,G.1,G.2,E,F];refine⟨by omega,by omega,?_⟩
     refine cf Tryz.func255 rfl (oT (by have:=j.fits.marks A (by rw[C];exact zs y);omega) (λn o=>(N n o).1) ?_)
     apply pg;simp;refine cf Tryz.func255 rfl (oT (by have:=j.fits.marks B (by rw[D];exact zs z);omega) (λn o=>(O n o).1) ?_)
     apply pg;simp;refine cf Tryz.func256 rfl (yn X ?_);rw[<-g];apply pg;simp[H.1,H.2,I.1,I.2];apply rn;simp
     by_cases v:B.hour-A.hour<f.roads[A.place.toNat][B.place.toNat]+f.cB*ch
     . simp[v]
       have:(List.range (l.length-1)).any (λi=>eo f (l.getD i 0) (l.getD (i+1) 0))=true:=abb.2 ⟨k,Rp.2 (by omega),by grind⟩
       rw[this]at h;exact .less (by repeat (first|exact ab.le_refl _|assumption|refine ab.fE ?_ (by assumption)|refine ab.lO ?_ (by assumption))) (.done h)
     . simp[x,v]
       refine⟨by omega,U _ (by omega) ⟨_,_,rfl,(by repeat (first|exact ab.le_refl _|assumption|refine ab.fE ?_ (by assumption)|refine ab.lO ?_ (by assumption))),by simp[r],by simp[w],by simp,λi hi=>?_⟩⟩
       grind
 . have g2:¬(k:Int)+1<l.length:=by omega
   have:(List.range (l.length-1)).any (λi=>eo f (l.getD i 0) (l.getD (i+1) 0))=false:=by grind
   rw[this]at h;apply rn;simp[w,x,g2];exact .less q (.done h)
theorem VX:(((prog.info? 278).bind λi=>i.methods.find? (·.name==  "palfrey/mark.breaks")).map λmt=>(mt.path,mt.func))=some (#[],some (250,false)):=by kernel_rfl
theorem VY:(((prog.info? 279).bind λi=>i.methods.find? (·.name==  "palfrey/mark.breaks")).map λmt=>(mt.path,mt.func))=some (#[],some (251,false)):=by kernel_rfl
theorem VZ:(((prog.info? 280).bind λi=>i.methods.find? (·.name==  "palfrey/mark.breaks")).map λmt=>(mt.path,mt.func))=some (#[],some (254,false)):=by kernel_rfl
theorem Sp{a}:ot prog 278  "palfrey/mark.breaks" 250 a a:=by obtain⟨mt,b,e⟩:=aaS.1 VX;obtain⟨info,c,d⟩:=acr.1 b;obtain⟨f,g⟩:=Prod.mk.inj e;exact sc lay Vx c d (by rw[f]) g rfl
theorem Sq{a}:ot prog 279  "palfrey/mark.breaks" 251 a a:=by obtain⟨mt,b,e⟩:=aaS.1 VY;obtain⟨info,c,d⟩:=acr.1 b;obtain⟨f,g⟩:=Prod.mk.inj e;exact sc lay Vy c d (by rw[f]) g rfl
theorem Sr{a}:ot prog 280  "palfrey/mark.breaks" 254 a a:=by obtain⟨mt,b,e⟩:=aaS.1 VZ;obtain⟨info,c,d⟩:=acr.1 b;obtain⟨f,g⟩:=Prod.mk.inj e;exact sc lay Vz c d (by rw[f]) g rfl
def aI(f:Fr)(l:adA):adA:=(dg (λa b=>decide (uH f a b<0)) l).reverse
def jM(f:Fr)(l:adA):Int:=if dt f (aI f l)then 1 else if cy f (aI f l)then 2 else if bu f (aI f l)then 3 else 0
abbrev V0(n:Int):AV:=if n=1 then .mr 278 (.agg [])else if n=2 then .mr 279 (.agg [])else if n=3 then .mr 280 (.agg [])else .lit .nilIface
theorem O3.sort{f l}(h:O3 f l):O3 f (aI f l):=
 ⟨fun n a=>h.mem n ((qW _ _ _).1 (by simpa[aI]using a)),λe=>h.ne (by
   have:(aI f l).length=l.length:=by simp[aI,jX]
   grind),by simp[aI,jX,h.len]⟩
theorem Ss{b mb f l}(y:f.Good)(v:O3 f l)(d:l.length<20)(h:KF (.val (V0 (jM f l))) σ):az prog m 144 [mc b mb f 0,ints l] σ KF:=by
 have t:=v.sort;refine fs [] Tryz.func144 rfl (by kernel_rfl) ?_;simp[Tryz.f144];refine bS.intro λc B=>?_
 simp;refine cf Tryz.func177 rfl (Qd MI v.mem d v.ne ⟨rfl,rfl⟩ ?_);obtain⟨S,z⟩:∃S,S=(dg (λa b=>decide (uH f a b<0)) l).reverse:=⟨_,rfl⟩;have r:aI f l=S:=z.symm;rw[r]at t;unfold jM at h;rw[r]at h;rw[<-z];apply rn;simp;refine aa.loop 3 (λk s=>∃env j,s=⟨env,j,[],.no⟩/\σ.Le j/\env 1=ints S/\env 2=.cp (mc b mb f 0) 0/\env 19=.sl 1 [.mr 278 (.agg []),.mr 279 (.agg []),.mr 280 (.agg [])] .exact/\env 20=int 3/\env 21=int k/\(1<=k->dt f S=false)/\(2<=k->cy f S=false)/\(3<=k->bu f S=false)) ⟨_,_,rfl,ab.rW (ab.le_refl _) B,by simp⟩ ?_;rintro E k _ F ⟨env,j,rfl,e,o,p,i,d,g,w,A,C⟩ x;obtain rfl|rfl|rfl|rfl:k=0\/k=1\/k=2\/k=3:=by omega
 . apply rn
   simp[o,p,i,d,g];refine aa.invoke rfl rfl rfl (by simp) rfl Sp Tryz.func250 rfl rfl ?_;refine Gi t ?_;apply rn;simp;cases hb:dt f S
   . simp[g]
     refine x _ (by omega) ⟨_,_,rfl,e,?_,?_,?_,?_,?_,λ_=>hb,λq=>(by omega),λq=>(by omega)⟩<;>simp[o,p,i,d]
   . simp
     simp[hb]at h;exact .less e (.done h)
 . have n:=w (by omega)
   apply rn;simp[o,p,i,d,g];refine aa.invoke rfl rfl rfl (by simp) rfl Sq Tryz.func251 rfl rfl ?_;refine Gj y t ?_;apply rn;simp;cases hb:cy f S
   . simp[g]
     refine x _ (by omega) ⟨_,_,rfl,e,?_,?_,?_,?_,?_,λ_=>n,λ_=>hb,λq=>(by omega)⟩<;>simp[o,p,i,d]
   . simp
     simp[hb,n]at h;exact .less e (.done h)
 . have n:=w (by omega)
   have u:=A (by omega);apply rn;simp[o,p,i,d,g];refine aa.invoke rfl rfl rfl (by simp) rfl Sr Tryz.func254 rfl rfl ?_;refine Gk y t ?_;apply rn;simp;cases hb:bu f S
   . simp[g]
     refine x _ (by omega) ⟨_,_,rfl,e,?_,?_,?_,?_,?_,λ_=>n,λ_=>u,λ_=>hb⟩<;>simp[o,p,i,d]
   . simp
     simp[hb,n,u]at h;exact .less e (.done h)
 . have n:=w (by omega)
   have u:=A (by omega);have D:=C (by omega);simp[n,u,D]at h;apply rn;simp[d,g];exact .less e (.done h)

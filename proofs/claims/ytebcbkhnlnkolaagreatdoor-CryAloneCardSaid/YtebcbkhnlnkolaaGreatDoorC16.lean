import Derived.Test.YtebcbkhnlnkolaaGreatDoorProg
import Derived.Test.YtebcbkhnlnkolaaGreatDoorC15
set_option linter.all false
set_option maxHeartbeats 1000000
set_option maxRecDepth 100000
namespace Go.Proofs.YtebcbkhnlnkolaaGreatDoor
open Go.Proofs.Tryz (prog)
section
open Go.bN
@[simp] def afp:TI:=⟨.func,1,8,.nilFunc,[]⟩
@[simp] def aft:TI:=⟨.int .i64,1,8,(.int .i64 0),[]⟩
@[simp] def afH:TI:=⟨.bool,1,1,(.bool false),[]⟩
@[simp] def afs:TI:=⟨.int .u8,1,1,(.int .u8 0),[]⟩
@[simp] def afy:TI:=⟨.struct,4,24,(.agg #[(.int .i64 0),(.int .i64 0),(.bool false),(.int .u8 0)]),[(0,1,2),(1,1,3),(2,1,4),(3,1,6)]⟩
@[simp] def afv:TI:=⟨.string,1,16,(.string ByteArray.empty),[]⟩
@[simp] def afu:TI:=⟨.int .u64,1,8,(.int .u64 0),[]⟩
@[simp] def afz:TI:=⟨.struct,2,24,(.agg #[(.string ByteArray.empty),(.int .u64 0)]),[(0,1,9),(1,1,12)]⟩
@[simp] def afI:TI:=⟨.pointer 304,1,8,(.pointer none),[]⟩
@[simp] def afJ:TI:=⟨.pointer 307,1,8,(.pointer none),[]⟩
@[simp] def afK:TI:=⟨.pointer 315,1,8,(.pointer none),[]⟩
@[simp] def afw:TI:=⟨.struct,1,8,(.agg #[(.pointer none)]),[(0,1,17)]⟩
@[simp] def afr:TI:=⟨.iface,1,16,.nilIface,[]⟩
@[simp] def afx:TI:=⟨.int .i32,1,4,(.int .i32 0),[]⟩
@[simp] def afL:TI:=⟨.slice 3,1,24,(.slice none 0 0),[]⟩
@[simp] def afM:TI:=⟨.pointer 71,1,8,(.pointer none),[]⟩
@[simp] def afN:TI:=⟨.slice 42,1,24,(.slice none 0 0),[]⟩
@[simp] def afO:TI:=⟨.slice 22,1,24,(.slice none 0 0),[]⟩
@[simp] def afA:TI:=⟨.struct,2,16,(.agg #[(.int .i64 0),(.int .i64 0)]),[(0,1,3),(1,1,3)]⟩
@[simp] def afB:TI:=⟨.struct,6,80,(.agg #[(.slice none 0 0),(.slice none 0 0),(.int .i64 0),(.int .i64 0),(.int .i64 0),(.int .i64 0)]),[(0,1,25),(1,1,26),(2,2,28),(4,1,3),(5,1,3)]⟩
@[simp] def afP:TI:=⟨.slice 38,1,24,(.slice none 0 0),[]⟩
@[simp] def afQ:TI:=⟨.slice 45,1,24,(.slice none 0 0),[]⟩
@[simp] def afC:TI:=⟨.struct,9,136,(.agg #[(.slice none 0 0),(.slice none 0 0),(.int .i64 0),(.int .i64 0),(.int .i64 0),(.int .i64 0),(.int .i64 0),(.slice none 0 0),(.slice none 0 0)]),[(0,6,30),(6,1,3),(7,1,31),(8,1,32)]⟩
@[simp] def afD:TI:=⟨.struct,5,40,(.agg #[(.int .i64 0),(.int .i64 0),(.int .i64 0),(.int .i64 0),(.int .i64 0)]),[(0,1,3),(1,1,3),(2,1,3),(3,2,28)]⟩
@[simp] def afE:TI:=⟨.struct,6,64,(.agg #[(.int .i64 0),(.int .i64 0),(.int .i64 0),(.slice none 0 0),(.int .i64 0),(.int .i64 0)]),[(0,1,3),(1,1,3),(2,1,3),(3,1,22),(4,1,3),(5,1,3)]⟩
@[simp] def afR:TI:=⟨.struct,8,80,(.agg #[(.int .i64 0),(.int .i64 0),(.int .i64 0),(.slice none 0 0),(.int .i64 0),(.int .i64 0),(.int .i64 0),(.int .i64 0)]),[(0,6,42),(6,1,3),(7,1,3)]⟩
@[simp] def afS:TI:=⟨.struct,3,40,(.agg #[(.slice none 0 0),(.int .i64 0),(.int .u64 0)]),[(0,1,22),(1,1,3),(2,1,69)]⟩
@[simp] def afT:TI:=⟨.slice 28,1,24,(.slice none 0 0),[]⟩
@[simp] def afU:TI:=⟨.pointer 147,1,8,(.pointer none),[]⟩
@[simp] def afq:TI:=⟨.struct,0,0,(.agg #[]),[]⟩
@[simp] def afV:TI:=⟨.pointer 246,1,8,(.pointer none),[]⟩
@[simp] def afW:TI:=⟨.struct,2,2,(.agg #[(.int .u8 0),(.int .u8 0)]),[(0,1,102),(1,1,102)]⟩
@[simp] def afX:TI:=⟨.struct,2,32,(.agg #[(.slice none 0 0),(.int .i64 0)]),[(0,1,22),(1,1,3)]⟩
@[simp] def afY:TI:=⟨.slice 110,1,24,(.slice none 0 0),[]⟩
@[simp] def afZ:TI:=⟨.pointer 34,1,8,(.pointer none),[]⟩
@[simp] def aga:TI:=⟨.struct,1,8,(.agg #[.nilFunc]),[(0,1,53)]⟩
@[simp] def agb:TI:=⟨.array 2 3,2,16,(.agg #[(.int .i64 0),(.int .i64 0)]),[]⟩
@[simp] def agc:TI:=⟨.int .u32,1,4,(.int .u32 0),[]⟩
@[simp] def agd:TI:=⟨.struct,2,8,(.agg #[(.int .i32 0),(.int .u32 0)]),[(0,1,21),(1,1,139)]⟩
@[simp] def age:TI:=⟨.struct,2,8,(.agg #[(.int .i32 0),(.int .u32 0)]),[(0,0,138),(0,2,141)]⟩
@[simp] def agf:TI:=⟨.array 3 3,3,24,(.agg #[(.int .i64 0),(.int .i64 0),(.int .i64 0)]),[]⟩
@[simp] def agh:TI:=⟨.map 104 165,1,8,(.map none),[]⟩
@[simp] def agi:TI:=⟨.struct,15,176,(.agg #[(.slice none 0 0),(.slice none 0 0),(.int .i64 0),(.int .i64 0),(.int .i64 0),(.int .i64 0),(.int .i64 0),(.slice none 0 0),(.slice none 0 0),(.int .i32 0),(.int .u32 0),(.int .i64 0),(.int .i64 0),(.int .i64 0),(.map none)]),[(0,9,34),(9,2,143),(11,3,144),(14,1,145)]⟩
@[simp] def agj:TI:=⟨.struct,1,8,(.agg #[.nilFunc]),[(0,1,74)]⟩
@[simp] def agk:TI:=⟨.array 3 97,3,48,(.agg #[.nilIface,.nilIface,.nilIface]),[]⟩
@[simp] def agl:TI:=⟨.struct,1,4,(.agg #[(.int .u32 0)]),[(0,0,157),(0,1,139)]⟩
@[simp] def afF:TI:=⟨.struct,3,12,(.agg #[(.int .u32 0),(.int .i32 0),(.int .u32 0)]),[(0,0,138),(0,1,159),(1,2,143)]⟩
@[simp] def agm:TI:=⟨.array 6 156,18,288,(.agg #[.nilIface,.nilIface,.nilIface,.nilIface,.nilIface,.nilIface,.nilIface,.nilIface,.nilIface,.nilIface,.nilIface,.nilIface,.nilIface,.nilIface,.nilIface,.nilIface,.nilIface,.nilIface]),[]⟩
@[simp] def agn:TI:=⟨.struct,21,304,(.agg #[(.int .u32 0),(.int .i32 0),(.int .u32 0),.nilIface,.nilIface,.nilIface,.nilIface,.nilIface,.nilIface,.nilIface,.nilIface,.nilIface,.nilIface,.nilIface,.nilIface,.nilIface,.nilIface,.nilIface,.nilIface,.nilIface,.nilIface]),[(0,3,161),(3,18,162)]⟩
@[simp] def ago:TI:=⟨.pointer 164,1,8,(.pointer none),[]⟩
@[simp] def agp:TI:=⟨.array 3 102,3,3,(.agg #[(.int .u8 0),(.int .u8 0),(.int .u8 0)]),[]⟩
@[simp] def afG:TI:=⟨.struct,1,8,(.agg #[(.int .u64 0)]),[(0,0,157),(0,0,181),(0,1,69)]⟩
@[simp] def agq:TI:=⟨.struct,2,16,(.agg #[(.int .u64 0),(.int .u32 0)]),[(0,0,138),(0,1,183),(1,1,139)]⟩
@[simp] def agr:TI:=⟨.array 4 3,4,32,(.agg #[(.int .i64 0),(.int .i64 0),(.int .i64 0),(.int .i64 0)]),[]⟩
@[simp] def ags:TI:=⟨.slice 88,1,24,(.slice none 0 0),[]⟩
@[simp] def agt:TI:=⟨.pointer 185,1,8,(.pointer none),[]⟩
@[simp] def agu:TI:=⟨.pointer 139,1,8,(.pointer none),[]⟩
@[simp] def agv:TI:=⟨.pointer 143,1,8,(.pointer none),[]⟩
@[simp] def agw:TI:=⟨.struct,1,8,(.agg #[(.int .i64 0)]),[(0,1,46)]⟩
@[simp] def agx:TI:=⟨.pointer 236,1,8,(.pointer none),[]⟩
@[simp] def agy:TI:=⟨.pointer 161,1,8,(.pointer none),[]⟩
@[simp] def agz:TI:=⟨.map 248 4,1,8,(.map none),[]⟩
@[simp] def agA:TI:=⟨.struct,9,96,(.agg #[(.slice none 0 0),(.slice none 0 0),(.int .i64 0),(.int .i64 0),(.int .i64 0),(.int .i64 0),(.int .i32 0),(.int .u32 0),(.map none)]),[(0,6,30),(6,2,143),(8,1,244)]⟩
@[simp] def agB:TI:=⟨.struct,1,1,(.agg #[(.int .u8 0)]),[(0,1,5)]⟩
@[simp] def agC:TI:=⟨.array 6 248,6,6,(.agg #[(.int .u8 0),(.int .u8 0),(.int .u8 0),(.int .u8 0),(.int .u8 0),(.int .u8 0)]),[]⟩
@[simp] def agD:TI:=⟨.struct,1,8,(.agg #[.nilFunc]),[(0,1,40)]⟩
@[simp] def agE:TI:=⟨.slice 217,1,24,(.slice none 0 0),[]⟩
@[simp] def agF:TI:=⟨.struct,3,24,(.agg #[(.pointer none),(.pointer none),(.int .u64 0)]),[(0,1,17),(1,1,222),(2,1,276)]⟩
@[simp] def agG:TI:=⟨.chan 3,1,8,(.chan none),[]⟩
@[simp] def agH:TI:=⟨.pointer 159,1,8,(.pointer none),[]⟩
@[simp] def agI:TI:=⟨.struct,4,40,(.agg #[(.pointer none),(.pointer none),(.pointer none),(.string ByteArray.empty)]),[(0,1,17),(1,1,17),(2,1,17),(3,1,9)]⟩
@[simp] def agJ:TI:=⟨.array 0 16,0,0,(.agg #[]),[]⟩
@[simp] def agK:TI:=⟨.struct,0,0,(.agg #[]),[(0,0,305)]⟩
@[simp] def agL:TI:=⟨.pointer 5,1,8,(.pointer none),[]⟩
@[simp] def agM:TI:=⟨.struct,11,48,(.agg #[(.int .u64 0),(.int .u64 0),(.int .u32 0),(.int .u8 0),(.int .u8 0),(.int .u8 0),(.int .u8 0),.nilFunc,(.pointer none),(.int .i32 0),(.int .i32 0)]),[(0,1,12),(1,1,12),(2,1,139),(3,1,309),(4,1,5),(5,1,5),(6,1,281),(7,1,310),(8,1,311),(9,1,312),(10,1,313)]⟩
def Pk:List (Nat × TI):=[
 (1,afp),
 (2,aft),
 (3,aft),
 (4,afH),
 (5,afs),
 (6,afs),
 (7,afy),
 (8,afy),
 (9,afv),
 (10,afv),
 (11,afv),
 (12,afu),
 (13,afz),
 (14,afz),
 (15,afI),
 (16,afJ),
 (17,afK),
 (18,afw),
 (19,afw),
 (20,afr),
 (21,afx),
 (22,afL),
 (23,afM),
 (24,afp),
 (25,afN),
 (26,afO),
 (27,afA),
 (28,afA),
 (29,afB),
 (30,afB),
 (31,afP),
 (32,afQ),
 (33,afC),
 (34,afC),
 (36,afp),
 (37,afD),
 (38,afD),
 (39,afp),
 (40,afp),
 (41,afE),
 (42,afE),
 (43,afp),
 (45,afR),
 (46,aft),
 (48,afp),
 (49,afp),
 (52,afp),
 (53,afp),
 (67,afp),
 (69,afu),
 (71,afS),
 (73,afp),
 (74,afp),
 (79,afT),
 (84,afU),
 (86,afp),
 (88,afr),
 (92,afq),
 (93,afq),
 (97,afr),
 (98,afq),
 (99,afV),
 (101,afp),
 (102,afs),
 (104,afW),
 (110,afX),
 (111,afY),
 (113,afp),
 (114,afp),
 (115,afp),
 (121,afp),
 (131,afZ),
 (134,aga),
 (137,agb),
 (138,afq),
 (139,agc),
 (141,agd),
 (143,age),
 (144,agf),
 (145,agh),
 (147,agi),
 (149,afr),
 (152,afu),
 (155,agj),
 (156,agk),
 (157,afq),
 (159,agl),
 (160,afF),
 (161,afF),
 (162,agm),
 (164,agn),
 (165,ago),
 (166,afp),
 (167,afq),
 (170,agp),
 (175,afp),
 (181,afq),
 (182,afG),
 (183,afG),
 (185,agq),
 (188,agr),
 (197,afw),
 (199,afr),
 (202,afr),
 (204,afr),
 (205,ags),
 (217,afr),
 (220,agt),
 (223,aft),
 (227,agu),
 (231,agv),
 (236,agw),
 (238,agx),
 (240,agy),
 (241,afq),
 (244,agz),
 (246,agA),
 (248,agB),
 (249,agC),
 (252,afp),
 (259,agD),
 (260,afq),
 (261,afq),
 (262,afq),
 (263,agE),
 (276,afu),
 (278,agF),
 (281,afs),
 (285,agG),
 (286,agH),
 (304,agI),
 (305,agJ),
 (307,agK),
 (309,afs),
 (310,afp),
 (311,agL),
 (312,afx),
 (313,afx),
 (315,agM),
 (321,afs)]
theorem LY:(Pk.all λx=>x.2.check Tryz.prog x.1)=true:=by kernel_rfl
def EN(t:Nat):Option TI:=(Pk.find? λx=>x.1==t).map (·.2)
theorem IP(t:Nat)(i:TI)(h:EN t=some i):i.check Tryz.prog t=true:=by unfold EN at h;obtain⟨x,a,rfl⟩:=aaD.1 h;have c:=List.find?_some a;have b:=aau.1 LY x (List.mem_of_find?_eq_some a);rw[adA.1 c]at b;exact b
def lay:jq Tryz.prog:=⟨EN,IP,by kernel_rfl⟩
theorem rn{m:Mo}{fid n:Nat}{ro:aeX}{hold:aeV}{s:St}{K:bN.Exit->St->Prop}{todo:afb}(h:bK lay m fid n ro [] hold 1000 todo s K):aa Tryz.prog m fid n ro hold todo s K:=aa.run lay [] h
theorem pg{m:Mo}{ops:aeW}{n:Nat}{Kp:aeP}{R:aeO}{p:pF}{env:Env}{σ:ab}(h:jr lay m [] ops n Kp p env σ R):aK Tryz.prog m ops n Kp p env σ R:=aK.go lay [] h
theorem cf{m:Mo}{f:FuncId}{fn:Func}{args:afk}{σ:ab}{KF:aeQ}(a:Tryz.prog.funcs[f]?=some fn)(hb:(fn.body.isSome && !(fn.name== "runtime.NumGoroutine"))=true)(h:aB Tryz.prog m f args σ KF):cL Tryz.prog m (.fn (.func f) [] []) args σ KF:=by
 simp only[zj,adw]at hb;exact ak a hb.1 hb.2 h
theorem fs{m:Mo}{f:FuncId}{fn:Func}{args:afk}{σ:ab}{KF:aeQ}{body:Code}(hold:aeV)(b:Tryz.prog.funcs[f]?=some fn)(hb:fn.body=some body)(c:(qO fn args.length&&mX hold body)=true)(h:bK lay m f fn.ntmps none [] hold 1000 [.code body] ⟨dW args,σ,[],.no⟩ (VB lay m fn.results.toList (pZ KF))):aB Tryz.prog m f args σ KF:=by simp only[zj]at c;exact aB.start lay [] hold _ b hb rfl c.1 c.2 h
@[simp] theorem tt1:lay.tt 1=some afp:=rfl
@[simp] theorem tt2:lay.tt 2=some aft:=rfl
@[simp] theorem pQ:lay.tt 3=some aft:=rfl
@[simp] theorem tt4:lay.tt 4=some afH:=rfl
@[simp] theorem tt5:lay.tt 5=some afs:=rfl
@[simp] theorem tt6:lay.tt 6=some afs:=rfl
@[simp] theorem tt7:lay.tt 7=some afy:=rfl
@[simp] theorem tt8:lay.tt 8=some afy:=rfl
@[simp] theorem tt9:lay.tt 9=some afv:=rfl
@[simp] theorem aco:lay.tt 10=some afv:=rfl
@[simp] theorem acp:lay.tt 11=some afv:=rfl
@[simp] theorem acr:lay.tt 12=some afu:=rfl
@[simp] theorem acs:lay.tt 13=some afz:=rfl
@[simp] theorem acu:lay.tt 14=some afz:=rfl
@[simp] theorem acv:lay.tt 15=some afI:=rfl
@[simp] theorem acw:lay.tt 16=some afJ:=rfl
@[simp] theorem acx:lay.tt 17=some afK:=rfl
@[simp] theorem acy:lay.tt 18=some afw:=rfl
@[simp] theorem acz:lay.tt 19=some afw:=rfl
@[simp] theorem acA:lay.tt 20=some afr:=rfl
@[simp] theorem acB:lay.tt 21=some afx:=rfl
@[simp] theorem cK:lay.tt 22=some afL:=rfl
@[simp] theorem acC:lay.tt 23=some afM:=rfl
@[simp] theorem acD:lay.tt 24=some afp:=rfl
@[simp] theorem nX:lay.tt 25=some afN:=rfl
@[simp] theorem qp:lay.tt 26=some afO:=rfl
@[simp] theorem acE:lay.tt 27=some afA:=rfl
@[simp] theorem Z2:lay.tt 28=some afA:=rfl
@[simp] theorem acF:lay.tt 29=some afB:=rfl
@[simp] theorem acG:lay.tt 30=some afB:=rfl
@[simp] theorem Ow:lay.tt 31=some afP:=rfl
@[simp] theorem Lr:lay.tt 32=some afQ:=rfl
@[simp] theorem acH:lay.tt 33=some afC:=rfl
@[simp] theorem acI:lay.tt 34=some afC:=rfl
@[simp] theorem acJ:lay.tt 36=some afp:=rfl
@[simp] theorem acK:lay.tt 37=some afD:=rfl
@[simp] theorem UO:lay.tt 38=some afD:=rfl
@[simp] theorem acL:lay.tt 39=some afp:=rfl
@[simp] theorem acM:lay.tt 40=some afp:=rfl
@[simp] theorem acN:lay.tt 41=some afE:=rfl
@[simp] theorem Ap:lay.tt 42=some afE:=rfl
@[simp] theorem acO:lay.tt 43=some afp:=rfl
@[simp] theorem UQ:lay.tt 45=some afR:=rfl
@[simp] theorem acP:lay.tt 46=some aft:=rfl
@[simp] theorem acQ:lay.tt 48=some afp:=rfl
@[simp] theorem acR:lay.tt 49=some afp:=rfl
@[simp] theorem acS:lay.tt 52=some afp:=rfl
@[simp] theorem acT:lay.tt 53=some afp:=rfl
@[simp] theorem acU:lay.tt 67=some afp:=rfl
@[simp] theorem acV:lay.tt 69=some afu:=rfl
@[simp] theorem acW:lay.tt 71=some afS:=rfl
@[simp] theorem acX:lay.tt 73=some afp:=rfl
@[simp] theorem acY:lay.tt 74=some afp:=rfl
@[simp] theorem Yd:lay.tt 79=some afT:=rfl
@[simp] theorem acZ:lay.tt 84=some afU:=rfl
@[simp] theorem ac0:lay.tt 86=some afp:=rfl
@[simp] theorem F5:lay.tt 88=some afr:=rfl
@[simp] theorem ac1:lay.tt 92=some afq:=rfl
@[simp] theorem ac2:lay.tt 93=some afq:=rfl
@[simp] theorem Ye:lay.tt 97=some afr:=rfl
@[simp] theorem ac3:lay.tt 98=some afq:=rfl
@[simp] theorem ac4:lay.tt 99=some afV:=rfl
@[simp] theorem aa3:lay.tt 101=some afp:=rfl
@[simp] theorem Pl:lay.tt 102=some afs:=rfl
@[simp] theorem aa4:lay.tt 104=some afW:=rfl
@[simp] theorem TR:lay.tt 110=some afX:=rfl
@[simp] theorem J2:lay.tt 111=some afY:=rfl
@[simp] theorem aa5:lay.tt 113=some afp:=rfl
@[simp] theorem aa6:lay.tt 114=some afp:=rfl
@[simp] theorem aa7:lay.tt 115=some afp:=rfl
@[simp] theorem aa8:lay.tt 121=some afp:=rfl
@[simp] theorem aa9:lay.tt 131=some afZ:=rfl
@[simp] theorem aa':lay.tt 134=some aga:=rfl
@[simp] theorem T5:lay.tt 137=some agb:=rfl
@[simp] theorem aba:lay.tt 138=some afq:=rfl
@[simp] theorem abb:lay.tt 139=some agc:=rfl
@[simp] theorem abc:lay.tt 141=some agd:=rfl
@[simp] theorem abd:lay.tt 143=some age:=rfl
@[simp] theorem abe:lay.tt 144=some agf:=rfl
@[simp] theorem abf:lay.tt 145=some agh:=rfl
@[simp] theorem abg:lay.tt 147=some agi:=rfl
@[simp] theorem abh:lay.tt 149=some afr:=rfl
@[simp] theorem abi:lay.tt 152=some afu:=rfl
@[simp] theorem abj:lay.tt 155=some agj:=rfl
@[simp] theorem abk:lay.tt 156=some agk:=rfl
@[simp] theorem abl:lay.tt 157=some afq:=rfl
@[simp] theorem abm:lay.tt 159=some agl:=rfl
@[simp] theorem abn:lay.tt 160=some afF:=rfl
@[simp] theorem abo:lay.tt 161=some afF:=rfl
@[simp] theorem abp:lay.tt 162=some agm:=rfl
@[simp] theorem abq:lay.tt 164=some agn:=rfl
@[simp] theorem Yf:lay.tt 165=some ago:=rfl
@[simp] theorem abr:lay.tt 166=some afp:=rfl
@[simp] theorem abt:lay.tt 167=some afq:=rfl
@[simp] theorem Yg:lay.tt 170=some agp:=rfl
@[simp] theorem abu:lay.tt 175=some afp:=rfl
@[simp] theorem abv:lay.tt 181=some afq:=rfl
@[simp] theorem abw:lay.tt 182=some afG:=rfl
@[simp] theorem abx:lay.tt 183=some afG:=rfl
@[simp] theorem aby:lay.tt 185=some agq:=rfl
@[simp] theorem abz:lay.tt 188=some agr:=rfl
@[simp] theorem abA:lay.tt 197=some afw:=rfl
@[simp] theorem abB:lay.tt 199=some afr:=rfl
@[simp] theorem abC:lay.tt 202=some afr:=rfl
@[simp] theorem abD:lay.tt 204=some afr:=rfl
@[simp] theorem abE:lay.tt 205=some ags:=rfl
@[simp] theorem Yh:lay.tt 217=some afr:=rfl
@[simp] theorem abF:lay.tt 220=some agt:=rfl
@[simp] theorem abG:lay.tt 223=some aft:=rfl
@[simp] theorem abH:lay.tt 227=some agu:=rfl
@[simp] theorem abI:lay.tt 231=some agv:=rfl
@[simp] theorem abJ:lay.tt 236=some agw:=rfl
@[simp] theorem abK:lay.tt 238=some agx:=rfl
@[simp] theorem abL:lay.tt 240=some agy:=rfl
@[simp] theorem abM:lay.tt 241=some afq:=rfl
@[simp] theorem abN:lay.tt 244=some agz:=rfl
@[simp] theorem abO:lay.tt 246=some agA:=rfl
@[simp] theorem abP:lay.tt 248=some agB:=rfl
@[simp] theorem abQ:lay.tt 249=some agC:=rfl
@[simp] theorem abR:lay.tt 252=some afp:=rfl
@[simp] theorem abS:lay.tt 259=some agD:=rfl
@[simp] theorem Yi:lay.tt 260=some afq:=rfl
@[simp] theorem Yj:lay.tt 261=some afq:=rfl
@[simp] theorem Yk:lay.tt 262=some afq:=rfl
@[simp] theorem abT:lay.tt 263=some agE:=rfl
@[simp] theorem abU:lay.tt 276=some afu:=rfl
@[simp] theorem abV:lay.tt 278=some agF:=rfl
@[simp] theorem abW:lay.tt 281=some afs:=rfl
@[simp] theorem Kn:lay.tt 285=some agG:=rfl
@[simp] theorem abX:lay.tt 286=some agH:=rfl
@[simp] theorem abY:lay.tt 304=some agI:=rfl
@[simp] theorem abZ:lay.tt 305=some agJ:=rfl
@[simp] theorem ab0:lay.tt 307=some agK:=rfl
@[simp] theorem ab1:lay.tt 309=some afs:=rfl
@[simp] theorem ab2:lay.tt 310=some afp:=rfl
@[simp] theorem ab3:lay.tt 311=some agL:=rfl
@[simp] theorem ab4:lay.tt 312=some afx:=rfl
@[simp] theorem ab5:lay.tt 313=some afx:=rfl
@[simp] theorem ab6:lay.tt 315=some agM:=rfl
@[simp] theorem ab7:lay.tt 321=some afs:=rfl
abbrev Z3:aeV:=[⟨4,.take [0,1,2,3,4,5,6,7,8] true (.done)⟩]
abbrev Z4:aeV:=[⟨19,.take [0,2,3,4,6,7,11] false (.both 1 (.both 5 (.one 8 (.one 9 (.take [10] true (.one 12 (.done))))) (.one 8 (.one 5 (.one 9 (.take [10] true (.one 12 (.done))))))) (.both 5 (.both 1 (.one 8 (.one 9 (.take [10] true (.one 12 (.done))))) (.one 8 (.both 1 (.one 9 (.take [10] true (.one 12 (.done)))) (.one 9 (.take [1,10] true (.one 12 (.done))))))) (.one 8 (.both 1 (.one 5 (.one 9 (.take [10] true (.one 12 (.done))))) (.one 5 (.both 1 (.one 9 (.take [10] true (.one 12 (.done)))) (.one 9 (.take [1,10] true (.one 12 (.done))))))))))⟩]
abbrev Z5:aeV:=[⟨3,.take [0,1,2] false (.both 3 (.one 4 (.one 5 (.one 6 (.one 7 (.one 8 (.one 9 (.done))))))) (.one 4 (.both 3 (.one 5 (.one 6 (.one 7 (.one 8 (.one 9 (.done)))))) (.one 5 (.both 3 (.one 6 (.one 7 (.one 8 (.one 9 (.done))))) (.one 6 (.both 3 (.one 7 (.one 8 (.one 9 (.done)))) (.one 7 (.one 3 (.one 8 (.one 9 (.done))))))))))))⟩]
abbrev Z6:aeV:=[⟨3,.take [0,1,2,3,4,5,6,7,8,9] true (.done)⟩,⟨4,.take [0,1,2,3,4,5,6,7,8,9,10,11,12,13,14] true (.take [15] true (.done))⟩,⟨6,.take [0,1,2,3,5,6,7,11,12] false (.take [4,8,9,10] true (.one 13 (.done)))⟩]
abbrev Z7:aeV:=[⟨7,.take [0,2,6] false (.both 1 (.one 3 (.one 4 (.one 5 (.one 7 (.done))))) (.one 3 (.both 1 (.one 4 (.one 5 (.one 7 (.done)))) (.one 4 (.take [1] true (.one 5 (.one 7 (.done))))))))⟩,⟨15,.take [0,2,5,6,8,11,12,13] false (.both 1 (.take [3,4,14] false (.one 7 (.take [9,10,16] false (.one 15 (.one 17 (.done)))))) (.one 7 (.take [9,10,16] false (.take [1,3,4,14] true (.one 15 (.one 17 (.done)))))))⟩,⟨21,.take [0,2,3,7] false (.both 1 (.one 4 (.one 5 (.one 6 (.one 8 (.done))))) (.one 4 (.both 1 (.one 5 (.one 6 (.one 8 (.done)))) (.one 5 (.take [1] true (.one 6 (.one 8 (.done))))))))⟩]
abbrev Z8:aeV:=[⟨6,.take [0,1,2,3,4,5,6,7,8] true (.done)⟩]
abbrev Z9:aeV:=[⟨26,.take [0,1,2,3] false (.one 4 (.one 5 (.one 6 (.take [7,8,9,10,11] true (.done)))))⟩]
abbrev Z':aeV:=[⟨1,.take [0,1,2,3,4] false (.both 5 (.one 6 (.one 7 (.done))) (.one 6 (.one 5 (.one 7 (.done)))))⟩,⟨4,.take [0,1,2,3,4,5] true (.one 6 (.done))⟩]
abbrev Yl:aeV:=[⟨7,.take [0,1,2,3] true (.done)⟩]
abbrev aaa:aeV:=[⟨1,.take [0,1,2,3,4,5,6,7,8,9] true (.done)⟩]
abbrev T6:aeV:=[⟨4,.take [0,1,2,3,4,5] false (.one 6 (.done))⟩]
abbrev Ym:aeV:=[⟨16,.take [0,1,2,4,5,6,8,9,12] false (.both 3 (.one 7 (.one 10 (.one 11 (.one 13 (.done))))) (.one 7 (.both 3 (.one 10 (.one 11 (.one 13 (.done)))) (.one 10 (.take [3] true (.one 11 (.one 13 (.done))))))))⟩]
abbrev Yn:aeV:=[⟨0,.take [0,1,3,4,6,7] false (.both 2 (.both 5 (.take [11] false (.both 8 (.take [12] false (.one 9 (.one 10 (.done)))) (.one 9 (.one 8 (.take [12] false (.one 10 (.done))))))) (.one 9 (.one 5 (.take [11] false (.one 8 (.take [12] false (.one 10 (.done)))))))) (.one 9 (.one 2 (.one 5 (.take [11] false (.one 8 (.take [12] false (.one 10 (.done)))))))))⟩,⟨8,.take [0,1,2,3,5,6,7,8] false (.one 4 (.one 9 (.done)))⟩]
abbrev Yo:aeV:=[⟨24,.take [0,1,2,3,4,5,6,7,8,9,10,11,12,13,14,15,16,17,18,19,20,21,22,23,24] true (.done)⟩,⟨29,.take [0,1,2,3,4,5,6,7,8,9,10,11,12,13,14,15,16,17,18,19,20,21,22] true (.done)⟩]
abbrev Yp:aeV:=[⟨4,.take [0,2,4] false (.take [1] true (.one 3 (.one 5 (.done))))⟩,⟨5,.take [0,1,2] false (.one 3 (.one 4 (.take [5,6,8,9,10,12,15,16,17] false (.both 7 (.both 11 (.both 13 (.both 14 (.one 18 (.one 19 (.take [20,21] true (.done)))) (.one 18 (.one 14 (.one 19 (.take [20,21] true (.done)))))) (.one 18 (.one 13 (.one 14 (.one 19 (.take [20,21] true (.done))))))) (.both 13 (.both 11 (.both 14 (.one 18 (.one 19 (.take [20,21] true (.done)))) (.one 18 (.one 14 (.one 19 (.take [20,21] true (.done)))))) (.one 18 (.one 11 (.one 14 (.one 19 (.take [20,21] true (.done))))))) (.one 18 (.both 11 (.one 13 (.one 14 (.one 19 (.take [20,21] true (.done))))) (.one 13 (.one 11 (.one 14 (.one 19 (.take [20,21] true (.done)))))))))) (.both 11 (.both 7 (.both 13 (.both 14 (.one 18 (.one 19 (.take [20,21] true (.done)))) (.one 18 (.one 14 (.one 19 (.take [20,21] true (.done)))))) (.one 18 (.one 13 (.one 14 (.one 19 (.take [20,21] true (.done))))))) (.both 13 (.both 7 (.both 14 (.one 18 (.one 19 (.take [20,21] true (.done)))) (.one 18 (.one 14 (.one 19 (.take [20,21] true (.done)))))) (.both 14 (.both 7 (.one 18 (.one 19 (.take [20,21] true (.done)))) (.one 18 (.one 7 (.one 19 (.take [20,21] true (.done)))))) (.one 18 (.both 7 (.one 14 (.one 19 (.take [20,21] true (.done)))) (.one 14 (.one 7 (.one 19 (.take [20,21] true (.done))))))))) (.one 18 (.both 7 (.one 13 (.one 14 (.one 19 (.take [20,21] true (.done))))) (.one 13 (.both 7 (.one 14 (.one 19 (.take [20,21] true (.done)))) (.one 14 (.one 7 (.one 19 (.take [20,21] true (.done))))))))))) (.both 13 (.both 7 (.both 11 (.both 14 (.one 18 (.one 19 (.take [20,21] true (.done)))) (.one 18 (.one 14 (.one 19 (.take [20,21] true (.done)))))) (.one 18 (.one 11 (.one 14 (.one 19 (.take [20,21] true (.done))))))) (.both 11 (.both 7 (.both 14 (.one 18 (.one 19 (.take [20,21] true (.done)))) (.one 18 (.one 14 (.one 19 (.take [20,21] true (.done)))))) (.both 14 (.both 7 (.one 18 (.one 19 (.take [20,21] true (.done)))) (.one 18 (.one 7 (.one 19 (.take [20,21] true (.done)))))) (.one 18 (.both 7 (.one 14 (.one 19 (.take [20,21] true (.done)))) (.one 14 (.one 7 (.one 19 (.take [20,21] true (.done))))))))) (.one 18 (.both 7 (.one 11 (.one 14 (.one 19 (.take [20,21] true (.done))))) (.one 11 (.both 7 (.one 14 (.one 19 (.take [20,21] true (.done)))) (.one 14 (.one 7 (.one 19 (.take [20,21] true (.done))))))))))) (.one 18 (.both 7 (.both 11 (.one 13 (.one 14 (.one 19 (.take [20,21] true (.done))))) (.one 13 (.one 11 (.one 14 (.one 19 (.take [20,21] true (.done))))))) (.both 11 (.both 7 (.one 13 (.one 14 (.one 19 (.take [20,21] true (.done))))) (.one 13 (.both 7 (.one 14 (.one 19 (.take [20,21] true (.done)))) (.one 14 (.one 7 (.one 19 (.take [20,21] true (.done)))))))) (.one 13 (.both 7 (.one 11 (.one 14 (.one 19 (.take [20,21] true (.done))))) (.one 11 (.both 7 (.one 14 (.one 19 (.take [20,21] true (.done)))) (.one 14 (.one 7 (.one 19 (.take [20,21] true (.done))))))))))))))))))⟩]
abbrev Yq:aeV:=[⟨1,.take [0,1,2,3,4,5] true (.one 6 (.done))⟩]
abbrev Yr:aeV:=[⟨3,.take [0,1,2,3] false (.one 4 (.one 5 (.take [6,7,8,9,10] true (.done))))⟩,⟨6,.take [0,1,2,3,4,5] true (.one 6 (.done))⟩]
abbrev Ys:aeV:=[⟨1,.take [0,1,2,3,4,5,6,7,8,9,10,11,12,13,14,15,16,17] false (.one 18 (.take [19] true (.done)))⟩]
abbrev Yt:aeV:=[⟨0,.take [0,1,2,3] false (.one 4 (.one 5 (.done)))⟩]
abbrev Yu:aeV:=[⟨4,.take [0,1,2,3,4,5,6,7,9,10,11,12] false (.both 8 (.one 13 (.one 14 (.take [15,16] true (.done)))) (.one 13 (.one 8 (.one 14 (.take [15,16] true (.done))))))⟩,⟨6,.take [0,1,2,3,4,5,6,7,8,10,11,12,14,16] false (.take [9,13] true (.one 15 (.one 17 (.done))))⟩]
abbrev Yv:aeV:=[⟨4,.take [0,1,2,3,4,5,6,7,8,9,10,11,12,13,14,15,16,17,18,19,20] true (.done)⟩]
abbrev Yw:aeV:=[⟨8,.take [0,1,2,3,4,5,6,7,8,9,10,11,12,13,14] true (.done)⟩,⟨11,.take [0,1,3,4,5,6,7,8,10] false (.one 2 (.take [9,11] false (.one 12 (.one 13 (.take [14] true (.done))))))⟩,⟨17,.take [0,1,2,3] false (.one 4 (.one 5 (.take [6] true (.done))))⟩]
abbrev Yx:aeV:=[⟨4,.take [0,1,2,3,4,5,6,7,8,9,10,11,12,13,14,15,16,17,18,19,20,21,22] false (.both 23 (.one 24 (.one 25 (.one 26 (.done)))) (.one 24 (.one 23 (.one 25 (.one 26 (.done))))))⟩,⟨5,.take [0,1,2,3,4,5,6,7,8,9,10,11,12,13,14,15,16,17,18,19,20,21,22,23,24,26,27] false (.one 25 (.one 28 (.one 29 (.take [30,31,32] true (.done)))))⟩]
attribute [simp] RJ
abbrev int(n:Int):AV:=.lit (.int .i64 n)
abbrev u8(n:Int):AV:=.lit (.int .u8 n)
abbrev bool(b:Bool):AV:=.lit (.bool b)
abbrev ints(l:afe):AV:=.sl 1 (l.map int) .any
abbrev rows(l:aeJ):AV:=.sl 1 (l.map ints) .any
structure yz where
 hour:Int
 place:Int
 cy:Int
 marks:afe
 bd:Int
 im:Int
 deriving DecidableEq
structure Fr where
 az:List yz
 roads:aeJ
 aU:Int
 dD:Int
 cJ:Int
 aX:Int
 deriving DecidableEq
abbrev bj(e:yz):AV:=.agg [int e.hour,int e.place,int e.cy,ints e.marks,int e.bd,int e.im]
abbrev kq(l:List yz):AV:=.sl 6 (l.map bj) .any
abbrev Ko(f:Fr):afk:=[kq f.az,rows f.roads,int f.aU,int f.dD,int f.cJ,int f.aX]
abbrev bF(f:Fr):AV:=.agg (Ko f)
abbrev oq(b mb:Nat)(f:Fr)(o:Nat):AV:=.kp b [kq f.az,rows f.roads,int f.aU,int f.dD,int f.cJ,int f.aX,.lit (.int .i32 0),.lit (.int .u32 0),.map mb] [6,7] o
def bz(a lo hi:Int):Bool:=decide (lo<=a) && decide (a<=hi)
def zc:Option Int->Int->Bool
 |some q,h=>decide (h<=q)
 |none,_=>false
def oy:Option Int->afe->Int
 |_,[]=>0
 |p,h::l=>if bz h 0 4=false then 3 else if zc p h=true then 5 else oy (some h) l
def bX(places:Int)(e:yz):Int:=
 if bz e.hour 0 72=false then 1 else if bz e.place 0 (places-1)=false then 3 else if bz e.cy 0 5=false then 1 else if oy none e.marks≠0 then oy none e.marks
 else if bz e.bd 0 30=false then 1 else if bz e.im 0 2=false then 8 else 0
def fy(f:yz->Int):List yz->Int
 |[]=>0
 |d::l=>if f d=0 then fy f l else f d
theorem Jz(l:afe)  i   h   p :oy p (l.drop i)=if bz l[i] 0 4=false then 3 else if zc p l[i]=true then 5 else oy (some l[i]) (l.drop (i+1)):=by rw[ace h,oy]
theorem xz  f  (l:List yz)  i   h :fy f (l.drop i)=if f l[i]=0 then fy f (l.drop (i+1))else f l[i]:=by rw[ace h,fy]
theorem EO{α:Type}{l l':List α}{k}  g  (g':k<l'.length) (h:l.take k=l'.take k) (e:l[k]=l'[k]):l.take (k+1)=l'.take (k+1):=by rw[za g,za g',h,e]
def rd(r:aeJ)(i j:Nat):Int:=(r.getD i []).getD j 0
def cD(r:aeJ)(i j:Nat):Bool:=rd r i i !=0||rd r i j !=rd r j i||(List.range r.length).any λk=>decide (rd r i j>rd r i k+rd r k j)
def jU(n:Nat)(l:afe):Int:=if l.length≠n then 9 else if l.all (bz · 0 9)then 0 else 1
def gk(n:Nat):aeJ->Int
 |[]=>0
 |l::r=>if jU n l=0 then gk n r else jU n l
def fT(r:aeJ):Int:=
 if r.length<1 then 7 else if 3<r.length then 6 else if gk r.length r≠0 then gk r.length r
 else if(List.range r.length).any (λi=>(List.range r.length).any λj=>cD r i j)then 9 else 0
def check(f:Fr):Int:=
 if fT f.roads≠0 then fT f.roads else if(bz f.aU 0 3 && bz f.dD 0 3)=false then 1 else if f.dD<f.aU then 5
 else if(bz f.cJ 1 6 && bz f.aX 1 6)=false then 1 else if(6:Int)<f.az.length then 6 else fy (bX f.roads.length) f.az
theorem zh  n  (l:aeJ)  i   h :gk n (l.drop i)=if jU n l[i]=0 then gk n (l.drop (i+1))else jU n l[i]:=by rw[ace h,gk]
structure Fr.Fits(f:Fr):Prop where
 az:f.az.length<1152921504606846976
 roads:f.roads.length<1152921504606846976
 row:∀r∈f.roads,r.length<1152921504606846976
 marks:∀e∈f.az,e.marks.length<1152921504606846976
def kW(i:Int):afe->Int->Int
 |[],_=>-1
 |x::l,v=>if x=v then i else kW (i+1) l v
def pT(l:afe)(v:Int):Int:=kW 0 l v
theorem C1(l:afe)  v   i   h   c :kW c (l.drop i) v=if l[i]=v then c else kW (c+1) (l.drop (i+1)) v:=by rw[ace h,kW]
theorem A9  v :∀  l   i ,0<=i->(0<=kW i l v↔v∈l)
 |[],i,h=>by simp[kW]
 | x::l,i,h=>by
   unfold kW;split
   . simp_all
   . next e=>rw[A9 v l (i+1) (by omega)];grind
theorem iS  l   v :0<=pT l v↔v∈l:=A9 v l 0 (aat _)
def iQ(f:Fr)(e:yz):afe:=if e.im≠0 then(List.range (f.dD-f.aU+1).toNat).map λi:Nat=>e.bd-f.dD+(i:Int)else[]
def bU(f:Fr)(e:yz):afe:=if e.im≠1/\e.bd∉iQ f e then iQ f e++[e.bd]else iQ f e
def jN(first:afe)(others:aeJ):afe:=first.filter λx=>others.all λl=>decide (x∈l)
def aP(f:Fr)(i:Int):yz:=f.az.getD i.toNat ⟨0,0,0,[],0,0⟩
def gy(f:Fr)(l:afe):afe:=match l.map λi=>bU f (aP f i)with|[]=>[]|a::r=>jN a r
def Yy(a b:Int):Int:=IntKind.u8.wrap (((BitVec.ofInt 8 a|||BitVec.ofInt 8 b).toNat:Nat):Int)
def GU(a b:Int):Int:=IntKind.u8.wrap (((BitVec.ofInt 8 a &&& BitVec.ofInt 8 b).toNat:Nat):Int)
def Ba(a b:Int):Int:=IntKind.u8.wrap (((BitVec.ofInt 8 a ^^^ BitVec.ofInt 8 b).toNat:Nat):Int)
def T7(a b:Int):Int:=IntKind.u8.wrap (a-b)
theorem vW  a b :r8 .or .u8 a b=some (.int .u8 (Yy a b)):=rfl
theorem xk  a b :r8 .and .u8 a b=some (.int .u8 (GU a b)):=rfl
theorem LZ  a b :r8 .xor .u8 a b=some (.int .u8 (Ba a b)):=rfl
theorem L0  a b :r8 .sub .u8 a b=some (.int .u8 (T7 a b)):=rfl
def cB(m n:Int):Int:=Yy m (IntKind.u8.wrap (2 ^ min n.toNat IntKind.u8.bits))
def ik(m n:Int):Bool:=GU (m.fdiv (2 ^ min n.toNat IntKind.u8.bits)) 1==1
def aD(m:Int):afe:=((List.range 6).map λn:Nat=>(n:Int)).filter λn=>ik m n
def aR(l:afe):Int:=l.foldl cB 0
end
section
open Go.bN Go.Conc
variable{m:Mo}{σ:ab}{KF:aeQ}
theorem fR{a lo hi}(h:KF (.val (bool (bz a lo hi))) σ):aB prog m 117 [int a,int lo,int hi] σ KF:=by
 unfold bz at h;refine fs [] Tryz.func117 rfl (by kernel_rfl) ?_;simp[Tryz.f117];refine tL.intro (λb=>?_) (λb=>?_)<;>simp[b]
 . exact .done (by simp_all)
 exact .done (by simp_all)
theorem Pm{l v}(j:l.length<1152921504606846976)(h:KF (.val (int (pT l v))) σ):aB prog m 57 [ints l,int v] σ KF:=by
 refine fs [] Tryz.func57 rfl (by kernel_rfl) ?_;simp[Tryz.f57];refine aa.loop l.length (λk s=>∃env,s=⟨env,σ,[],.no⟩/\env 0=ints l/\env 1=int v/\env 7=int l.length/\env 8=int k/\kW 0 l v=kW k (l.drop k) v) ⟨_,rfl,by simp⟩ ?_;rintro n k _ o ⟨env,rfl,e,f,g,d,a⟩ i;apply rn;simp[g,d];apply aG.intro<;>intro c<;>simp at c<;>simp[e,f,d,c]
 . rw[C1 l v k c]at a
   refine aG.intro (λb=>?_) (λb=>?_)<;>(try simp at b)<;>(try simp[b]at a)<;>(try simp[d,b])<;>(try exact .done a)
   . subst b
     unfold pT at h;rw[a]at h;exact .done h
   refine⟨by omega,i _ c ⟨_,rfl,?_,?_,?_,?_,by grind⟩⟩<;>simp[e,f,g]
 have:k=l.length:=by omega
 subst this;unfold pT at h;rw[a]at h;simp[kW]at h;exact .done h
theorem km{l v}(a:l.length<1152921504606846976)(h:KF (.val (bool (decide (v∈l)))) σ):aB prog m 55 [ints l,int v] σ KF:=by
 refine fs [] Tryz.func55 rfl (by kernel_rfl) ?_;simp[Tryz.f55];refine cf Tryz.func57 rfl (Pm a ?_);apply rn;simp;rw[<-decide_eq_decide.2 (iS l v)]at h;exact .done h
theorem lR{l v}(i:l.length<1152921504606846976)(h:KF (.val (int (pT l v))) σ):aB prog m 21 [ints l,int v] σ KF:=by
 refine fs [] Tryz.func21 rfl (by kernel_rfl) ?_;simp[Tryz.f21];refine aa.loop l.length (λk s=>∃env,s=⟨env,σ,[],.no⟩/\env 0=ints l/\env 1=int v/\env 5=int k/\kW 0 l v=kW k (l.drop k) v) ⟨_,rfl,by simp⟩ ?_;rintro j k _ n ⟨env,rfl,d,f,e,a⟩ g;apply rn;simp[d,e];apply aG.intro<;>intro c<;>simp at c<;>simp[d,f,e,c]
 . rw[C1 l v k c]at a
   refine aG.intro (λb=>?_) (λb=>?_)<;>(try simp at b)<;>(try simp[b]at a)<;>(try simp[e,b])<;>(try exact .done a)
   . subst b
     unfold pT at h;rw[a]at h;exact .done h
   refine⟨by omega,g _ c ⟨_,rfl,?_,?_,?_,by grind⟩⟩<;>simp[d,f]
 have:k=l.length:=by omega
 subst this;unfold pT at h;rw[a]at h;simp[kW]at h;exact .done h
theorem kg{a b}(r:a.length<1152921504606846976)(hb:b.length<1152921504606846976)(h:KF (.val (bool (decide (a=b)))) σ):aB prog m 18 [ints a,ints b] σ KF:=by
 refine fs Z3 Tryz.func18 rfl (by kernel_rfl) ?_;simp[Tryz.f18];refine aa.loop a.length (λk s=>∃env,s=⟨env,σ,[],.no⟩/\env 0=ints a/\env 1=ints b/\env 5=int k/\k<=b.length/\a.take k=b.take k) ⟨_,rfl,by simp⟩ ?_;rintro t k _ u ⟨env,rfl,d,i,f,o,n⟩ p;apply rn;simp[d,f];refine tL.intro (λc=>?_) (λc=>?_)<;>(try simp[-Nat.not_lt,-Nat.not_le]at c)<;>(try simp[d,i,f,c])
 . refine aG.intro (λg=>?_) (λg=>?_)<;>(try simp[-Nat.not_lt,-Nat.not_le]at g)<;>(try simp[d,i,f,g,c])
   . apply rn
     simp;apply aG.intro<;>intro j<;>simp at j<;>simp[f,j]
     . have:a≠b:=λe=>by simp_all
       simp[this]at h;exact .done h
     refine⟨by omega,p _ c ⟨_,rfl,?_,?_,?_,by omega,EO c g n j⟩⟩<;>simp[d,i]
   have:a≠b:=λe=>by simp_all
   have l:((a.length:Int)==b.length)=false:=by grind
   rw[l];exact .done (by simp_all)
 have:k=a.length:=by omega
 subst this;rw[aar]at n;by_cases e:a.length=b.length
 . have:a=b:=by grind
   exact .done (by grind)
 have:a≠b:=λq=>e (by rw[q])
 have l:((a.length:Int)==b.length)=false:=by grind
 rw[l];exact .done (by grind)
theorem GV{n}(h:KF (.val (bool false)) σ):aB prog m 187 [int n] σ KF:=by
 refine fs [] Tryz.func187 rfl (by kernel_rfl) ?_;simp[Tryz.f187];exact .done h
def EP(x y:Int):Int:=if x<y then -1 else if y<x then 1 else 0
theorem IQ{x y}(h:KF (.val (int (EP x y))) σ):aB prog m 167 [int x,int y] σ KF:=by
 unfold EP at h;refine fs [] Tryz.func167 rfl (by kernel_rfl) ?_;simp[Tryz.f167];refine cf Tryz.func187 rfl (GV ?_);apply rn;simp;refine cf Tryz.func187 rfl (GV ?_);apply rn;simp;refine aG.intro (λa=>?_) (λa=>?_)<;>(try simp[-Int.not_lt,-Int.not_le]at a)<;>(try simp[a]at h)<;>(try simp[a])<;>(try exact .done h);refine aG.intro (λb=>?_) (λb=>?_)<;>(try simp[-Int.not_lt,-Int.not_le]at b)<;>(try simp[b]at h)<;>(try simp[b])<;>(try exact .done h)
theorem BZ{e places}(w:0<=places/\places<1152921504606846976)(x:e.marks.length<1152921504606846976)(h:KF (.val (int (bX places e))) σ):aB prog m 154 [bj e,int places] σ KF:=by
 unfold bX at h;refine fs [] Tryz.func154 rfl (by kernel_rfl) ?_;simp[Tryz.f154];refine cf Tryz.func117 rfl (fR ?_);apply rn;simp;refine aG.intro (λi=>?_) (λi=>?_)<;>(try simp at i)<;>(try simp[i]at h)<;>(try simp[i])<;>(try exact .done h);refine⟨by omega,?_⟩;refine cf Tryz.func117 rfl (fR ?_);apply rn;simp;refine aG.intro (λj=>?_) (λj=>?_)<;>(try simp at j)<;>(try simp[j]at h)<;>(try simp[j])<;>(try exact .done h);refine cf Tryz.func117 rfl (fR ?_);apply rn;simp;refine aG.intro (λl=>?_) (λl=>?_)<;>(try simp at l)<;>(try simp[l]at h)<;>(try simp[l])<;>(try exact .done h);refine aa.loop e.marks.length (λk s=>∃env,s=⟨env,σ,[],.no⟩/\env 2=.cp (bj e) 0/\env 22=ints e.marks/\env 23=int e.marks.length/\env 24=int k/\oy none e.marks=oy (if k=0 then none else e.marks[k-1]?) (e.marks.drop k)) ⟨_,rfl,by simp⟩ ?_
 rintro y k _ z ⟨env,rfl,n,f,g,b,a⟩ r;apply rn;simp[g,b];apply aG.intro<;>intro o<;>simp at o<;>simp[n,f,b,o]
 . rw [Jz _ k o]at a
   refine cf Tryz.func117 rfl (fR ?_);apply rn;simp;refine aG.intro (λc=>?_) (λc=>?_)<;>(try simp at c)<;>(try simp[c]at a)<;>(try simp[c])<;>(try exact .done a)
   . refine tL.intro (λd=>?_) (λd=>?_)<;>(try simp at d)<;>(try simp[d]at a)<;>(try simp[n,b,d])<;>(try exact .done a)
     . have t:(k:Int)-1=((k-1:Nat):Int):=by omega
       have q:k-1<e.marks.length:=by omega
       have u:¬k=0:=by omega
       simp[t,q];repeat refine⟨by omega,?_⟩
       try simp[q,u,zc]at a
       refine aG.intro (λp=>?_) (λp=>?_)<;>(try simp at p)<;>(try simp[p]at a)<;>(try simp[b,p])<;>(try exact .done a)
       . simp[a]at h
         exact .done h
       refine⟨by omega,r _ o ⟨_,rfl,by simp[n],by simp[f],by simp[g],by simp,?_⟩⟩
       grind
     have v:k=0:=by omega
     subst v;simp[zc]at a
     simp_all
   simp[a]at h;exact .done h
 have:k=e.marks.length:=by omega
 subst this;simp[oy]at a;simp[a]at h;refine cf Tryz.func117 rfl (fR ?_);apply rn;simp;refine aG.intro (λc=>?_) (λc=>?_)<;>(try simp at c)<;>(try simp[c]at h)<;>(try simp[n,c])<;>(try exact .done h);refine cf Tryz.func117 rfl (fR ?_);apply rn;simp;refine aG.intro (λd=>?_) (λd=>?_)<;>(try simp at d)<;>(try simp[d]at h)<;>(try simp[d])<;>(try exact .done h)
theorem je{n}:∀{r},gk n r=0->∀l∈r,l.length=n/\∀x∈l,bz x 0 9=true
 |[],_,l,b=>by simp at b
 | a :: r,h,l,b=>by
   unfold gk at h;split at h
   . next c=>
     rcases aaw.1 b with rfl|b
     . unfold jU at c
       grind
     exact je h l b
   omega
theorem eo{r i j}  hi  (hj:j<r[i].length):rd r i j=r[i][j]:=by simp[rd,zD,hi,hj]
theorem dU{a lo hi}(h:bz a lo hi=true):lo<=a/\a<=hi:=by simpa[bz]using h
theorem B0{r}(hr:r.length<1152921504606846976)(hl:∀l∈r,l.length<1152921504606846976)(h:KF (.val (int (fT r))) σ):aB prog m 153 [rows r] σ KF:=by
 unfold fT at h;refine fs Yo Tryz.func153 rfl (by kernel_rfl) ?_
 simp[Tryz.f153];refine aG.intro (λV=>?_) (λV=>?_)<;>simp at V<;>simp[V]
 . rw[Rp (show r.length<1 by omega)]at h
   exact .done h
 refine aG.intro (λW=>?_) (λW=>?_)<;>simp at W<;>simp[W]
 . have X:¬r.length<1:=by omega
   have P:3<r.length:=by omega
   rw[KD (show ¬r.length<1 by omega),Rp P]at h
   exact .done h
 have X:¬r.length<1:=by omega
 have P:¬3<r.length:=by omega
 rw[KD X,KD P]at h;refine aa.loop r.length (λk s=>∃env,s=⟨env,σ,[],.no⟩/\env 0=rows r/\env 19=rows r/\env 20=int r.length/\env 21=int k/\gk r.length r=gk r.length (r.drop k)) ⟨_,rfl,by simp⟩ ?_
 rintro c0 k _ hk ⟨env,rfl,a,n,o,g,v⟩ Q
 apply rn;simp[o,g];apply aG.intro<;>intro H<;>simp at H<;>simp[a,n,g,H]
 . rw [zh _ _ k H]at v
   obtain⟨l,I⟩:∃l,l=r[k]:=⟨_,rfl⟩;simp only[<-I]at v ⊢;have av:l.length<1152921504606846976:=hl l (by rw[I];exact ys H)
   refine aG.intro (λb=>?_) (λb=>?_)<;>simp at b<;>simp[b]
   . have w:l.length≠r.length:=λe=>b (by rw[e])
     simp[jU,w]at v;simp[v]at h;exact .done h
   have w:l.length=r.length:=by omega
   refine aa.loop l.length (λj s=>∃env,s=⟨env,σ,[],.no⟩/\env 0=rows r/\env 19=rows r/\env 20=int r.length/\env 21=int k/\env 30=ints l/\env 31=int l.length/\env 32=int j/\(l.take j).all (bz · 0 9)=true) ⟨_,rfl,by simp[a,n,o,g,w]⟩ ?_
   clear a n o g
   rintro c1 j _ R ⟨env,rfl,a,n,o,g,J,K,B,x⟩ C
   apply rn;simp[K,B];apply aG.intro<;>intro p<;>simp at p<;>simp[g,J,B,p]
   . refine cf Tryz.func117 rfl (fR ?_)
     apply rn;simp;refine aG.intro (λu=>?_) (λu=>?_)<;>(try simp at u)<;>(try simp[B,u])
     . refine⟨by omega,C _ p ⟨_,rfl,by simp[a],by simp[n],by simp[o],by simp[g],by simp[J],by simp[K],by simp,?_⟩⟩
       rw[za p,aed,x];simp[u]
     have:l.all (bz · 0 9)=false:=by rw[List.all_eq_false];exact⟨_,ys p,by simp[u]⟩
     simp[jU,w,this]at v;simp[v]at h;exact .done h
   have:j=l.length:=by omega
   subst this;rw[aar]at x;have Y:jU r.length l=0:=by unfold jU;rw[KD (by simp[w]),Rp x]
   rw[Rp Y]at v;refine⟨by omega,Q _ H ⟨_,rfl,?_,?_,?_,?_,v⟩⟩<;>simp[a,n,o]
 have:k=r.length:=by omega
 subst this;simp[gk]at v;rw[KD (by omega)]at h
 clear Q;have al:∀(i:Nat) (F:i<r.length),r[i].length=r.length:=λi F=>(je v _ (ys F)).1
 have L:∀(i:Nat) (F:i<r.length) (j:Nat) (R:j<r[i].length),0<=r[i][j]/\r[i][j]<=9:=λi F j R=>dU ((je v _ (ys F)).2 _ (ys R))
 refine aa.loop r.length (λi s=>∃env,s=⟨env,σ,[],.no⟩/\env 0=rows r/\env 41=rows r/\env 42=int r.length/\env 43=int i/\∀i'<i,∀j<r.length,cD r i' j=false) ⟨_,rfl,by simp[a]⟩ ?_
 clear a n o g
 rintro c1 i _ F ⟨env,rfl,a,f,d,c,Z⟩ Q
 apply rn;simp[d,c];apply aG.intro<;>intro b<;>simp at b<;>simp[a,c,b]
 . refine aa.loop r.length (λj s=>∃env,s=⟨env,σ,[],.no⟩/\env 0=rows r/\env 41=rows r/\env 42=int r.length/\env 43=int i/\env 8=int i/\env 46=rows r/\env 47=int r.length/\env 48=int j/\∀D<j,cD r i D=false) ⟨_,rfl,by simp[a,f,d,c]⟩ ?_
   clear a f d c
   rintro c2 j _ R ⟨env,rfl,a,f,d,c,z,y,t,q,ax⟩ C
   apply rn;simp[t,q];apply aG.intro<;>intro p<;>simp at p<;>simp[a,c,z,q,p]
   . have q1:i<r[i].length:=by grind
     have G:j<r[i].length:=by grind
     have q3:i<r[j].length:=by grind
     simp[z,b,q1];refine Nq.intro (λu=>?_) (λu=>?_)<;>(try simp at u)<;>(try simp[a,z,u,b,p,G,q3])
     . apply rn
       simp;apply aG.intro<;>intro S<;>simp at S<;>simp[a,S]
       ·
        have hb:cD r i j=true:=by unfold cD;rw[eo b G,eo p q3];simp[S]
        have:((List.range r.length).any λi=>(List.range r.length).any λj=>cD r i j)=true:=aaO.2 ⟨i,zH.2 b,aaO.2 ⟨j,zH.2 p,hb⟩⟩
        rw[Rp this]at h;exact .done h
       refine aa.loop r.length (λk s=>∃env,s=⟨env,σ,[],.no⟩/\env 0=rows r/\env 41=rows r/\env 42=int r.length/\env 43=int i/\env 8=int i/\env 46=rows r/\env 47=int r.length/\env 48=int j/\env 9=int j/\env 76=rows r/\env 77=int r.length/\env 78=int k/\∀M<k,¬rd r i j>rd r i M+rd r M j) ⟨_,rfl,by simp[a,f,d,c,z,y,t,q]⟩ ?_
       clear a f d c z y t q
       rintro c3 k _ hk ⟨env,rfl,a,f,d,c,z,y,t,q,h9,a7,N,E,a8⟩ a9
       apply rn;simp[N,E];apply aG.intro<;>intro A<;>simp at A<;>simp[a,z,q,E,A]
       . have T:k<r[i].length:=by grind
         have U:j<r[k].length:=by grind
         have b1:=L i b k T;have b2:=L k A j U;have f1:-9223372036854775808<=r[i][k]+r[k][j]:=by omega
         have f2:r[i][k]+r[k][j]<=9223372036854775807:=by omega
         simp[a,z,h9,b,A,G,T,U,f1,f2];apply rn;simp;apply aG.intro<;>intro O<;>simp at O<;>simp[E,O]
         . have hb:cD r i j=true:=by
            unfold cD;have:((List.range r.length).any λk=>decide (rd r i j>rd r i k+rd r k j))=true:=aaO.2 ⟨k,zH.2 A,by rw[eo b G,eo b T,eo A U];grind⟩
            grind
           have:((List.range r.length).any λi=>(List.range r.length).any λj=>cD r i j)=true:=aaO.2 ⟨i,zH.2 b,aaO.2 ⟨j,zH.2 p,hb⟩⟩
           rw[Rp this]at h;exact .done h
         refine⟨by omega,a9 _ A ⟨_,rfl,by simp[a],by simp[f],by simp[d],by simp[c],by simp[z],by simp[y],by simp[t],by simp[q],by simp[h9],by simp[a7],by simp[N],by simp,λM ay=>?_⟩⟩
         by_cases e:M=k
         . subst e
           rw[eo b G,eo b T,eo A U];omega
         exact a8 M (by omega)
       have:k=r.length:=by omega
       subst this;refine⟨by omega,C _ p ⟨_,rfl,by simp[a],by simp[f],by simp[d],by simp[c],by simp[z],by simp[y],by simp[t],by simp,λD ad=>?_⟩⟩
       by_cases e:D=j
       . subst e
         unfold cD
         have X:((List.range r.length).any λk=>decide (rd r i D>rd r i k+rd r k D))=false:=by
          rw[adj]
          grind
         have P:rd r i i=0:=by rw[eo b q1];exact u
         have e3:rd r i D=rd r D i:=by rw[eo b G,eo p q3];exact S
         grind
       grind
     have e:(r[i][i] !=0)=true:=by simp[u]
     simp[e];apply rn;simp
     have hb:cD r i j=true:=by unfold cD;rw[eo b q1];simp[u]
     have:((List.range r.length).any λi=>(List.range r.length).any λj=>cD r i j)=true:=aaO.2 ⟨i,zH.2 b,aaO.2 ⟨j,zH.2 p,hb⟩⟩
     rw[Rp this]at h;exact .done h
   have:j=r.length:=by omega
   subst this;refine⟨by omega,Q _ b ⟨_,rfl,by simp[a],by simp[f],by simp[d],by simp,λi' aC j ad=>?_⟩⟩
   grind
 have:i=r.length:=by omega
 subst this
 have:((List.range r.length).any λi=>(List.range r.length).any λj=>cD r i j)=false:=by grind
 rw[this]at h;exact .done (by grind)
theorem GW{f}(g:f.Fits)(h:KF (.val (int (check f))) σ):aB prog m 116 [bF f] σ KF:=by
 unfold check at h;have z:=g.roads;have x:=g.az;refine fs [] Tryz.func116 rfl (by kernel_rfl) ?_;simp[Tryz.f116];refine cf Tryz.func153 rfl (B0 g.roads g.row ?_);apply rn;simp;refine aG.intro (λn=>?_) (λn=>?_)<;>(try simp at n)<;>(try simp[n]at h)<;>(try simp[n])<;>(try exact .done h);refine cf Tryz.func117 rfl (fR ?_);apply rn;simp;refine tL.intro (λo=>?_) (λo=>?_)<;>(try simp at o)<;>(try simp[o]at h)<;>(try simp[o])<;>(try exact .done h);refine cf Tryz.func117 rfl (fR ?_);apply rn;simp;refine aG.intro (λp=>?_) (λp=>?_)<;>(try simp at p)<;>(try simp[p]at h)<;>(try simp[p])<;>(try exact .done h);refine aG.intro (λq=>?_) (λq=>?_)<;>(try simp[-Int.not_lt,-Int.not_le]at q)<;>(try simp[q]at h)<;>(try simp[q])<;>(try exact .done h)
 refine cf Tryz.func117 rfl (fR ?_);apply rn;simp;refine tL.intro (λr=>?_) (λr=>?_)<;>(try simp at r)<;>(try simp[r]at h)<;>(try simp[r])<;>(try exact .done h);refine cf Tryz.func117 rfl (fR ?_);apply rn;simp;refine aG.intro (λt=>?_) (λt=>?_)<;>(try simp at t)<;>(try simp[t]at h)<;>(try simp[t])<;>(try exact .done h);refine aG.intro (λu=>?_) (λu=>?_)<;>(try simp[-Int.not_lt,-Int.not_le]at u)<;>(try simp[u]at h)<;>(try simp[u])<;>(try exact .done h);refine aa.loop f.az.length (λk s=>∃env a,s=⟨env,a,[],.no⟩/\σ.Le a/\env 1=.cp (bF f) 0/\env 47=kq f.az/\env 48=int f.az.length/\env 49=int k/\fy (bX f.roads.length) f.az=fy (bX f.roads.length) (f.az.drop k)) ⟨_,_,rfl,ab.le_refl _,by simp⟩ ?_;rintro A k _ B ⟨env,a,rfl,c,w,i,j,d,e⟩ y;apply rn;simp[j,d];apply aG.intro<;>intro l<;>simp at l<;>simp[i,d,l]
 . rw[xz _ _ k l]at e
   refine bO.intro λb hb=>?_
   simp[w];refine cf Tryz.func154 rfl (BZ ⟨by omega,by omega⟩ (g.marks _ (ys l)) ?_);apply rn;simp;refine aG.intro (λv=>?_) (λv=>?_)<;>(try simp at v)<;>(try simp[v]at e)<;>(try simp[d,v])<;>(try exact .done e)
   . rw[e]at h
     exact .less (ab.jW c hb) (.done h)
   refine⟨by omega,y _ l ⟨_,_,rfl,ab.jW c hb,?_,?_,?_,?_,e⟩⟩<;>simp[w,i,j]
 have:k=f.az.length:=by omega
 subst this;simp[fy]at e;rw[e]at h;exact .less c (.done h)
structure yR(σ:ab)  b mb   σ' :Prop where
 hb:σ b=none
 Ff:σ mb=none
 ne:b≠mb
 eq:σ'=(σ.set mb (mapA .u8 [])).set b (.part (bW 6))
def Pn(f:Fr)(σ:ab):aeQ:=λr a=>∃b mb,r=.val (.ref b 0)/\σ b=none/\σ mb=none/\b≠mb/\a=(σ.set mb (mapA .u8 [])).set b (.cells [kq f.az,rows f.roads,int f.aU,int f.dD,int f.cJ,int f.aX,.lit (.int .i32 0),.lit (.int .u32 0),.map mb])
theorem IS{f}(h:∀b mb σ',yR σ b mb σ'->KF (.val (oq b mb f 0)) σ'):aB prog m 118 [bF f] σ KF:=by
 refine aB.share (KF0:=Pn f σ) ?_ ?_
 . refine aB.start lay [6] [] 1 Tryz.func118 rfl rfl (by rfl) (by kernel_rfl) ?_
   simp[Tryz.f118];refine xQ (K3 .u8) rfl λmb Ff=>?_
   refine aa.run lay [6] ?_;simp[aI];refine bO.intro λb hb=>?_
   obtain⟨d,e,hb⟩:=ab.aS hb;simp;exact .done ⟨b,mb,rfl,hb,Ff,d,rfl⟩
 rintro r σ' ⟨b,mb,rfl,hb,Ff,a,rfl⟩;refine .inr ⟨b,_,[6,7],bW 6,rfl,ab.ai _ _ _,λi v c=>?_,λi=>?_,?_⟩
 . unfold bW at c
   split at c
   . simp_all
   simp_all
 . unfold bW
   grind
 exact h b mb _ ⟨hb,Ff,a,by simp⟩
def dV(f:Fr)(l:afe):Int:=if check f≠0 then check f else if l.all (bz · 0 (f.az.length-1))then 0 else 3
theorem Kr{f l}(o:f.Fits)(v:l.length<1152921504606846976)(h:dV f l≠0->KF (.val (.bL [.lit (.pointer none),int (dV f l)])) σ)
 (q:dV f l=0->∀b mb σ',yR σ b mb σ'->KF (.val (.bL [oq b mb f 0,int 0])) σ'):aB prog m 82 [bF f,ints l] σ KF:=by
 have r:=o.az;refine fs [] Tryz.func82 rfl (by kernel_rfl) ?_
 simp[Tryz.f82];refine cf Tryz.func116 rfl (GW o ?_);apply rn;simp;refine aG.intro (λi=>?_) (λi=>?_)<;>simp at i<;>simp[i]
 . have:dV f l=check f:=by unfold dV;omega
   rw[this]at h;exact .done (h i)
 refine aa.loop l.length (λk s=>∃env,s=⟨env,σ,[],.no⟩/\env 2=.cp (bF f) 0/\env 14=ints l/\env 15=int l.length/\env 16=int k/\(l.take k).all (bz · 0 (f.az.length-1))=true) ⟨_,rfl,by simp⟩ ?_
 rintro w k _ x ⟨env,rfl,p,d,g,c,a⟩ t
 apply rn;simp[g,c];apply aG.intro<;>intro j<;>simp at j<;>simp[p,d,c,j]
 . refine⟨by omega,?_⟩
   refine cf Tryz.func117 rfl (fR ?_);apply rn;simp;refine aG.intro (λn=>?_) (λn=>?_)<;>(try simp at n)<;>(try simp[c,n])
   . refine⟨by omega,t _ j ⟨_,rfl,by simp[p],by simp[d],by simp[g],by simp,?_⟩⟩
     rw[za j,aed,a];simp[n]
   have e:l.all (bz · 0 (f.az.length-1))=false:=by grind
   have:dV f l=3:=by unfold dV;simp_all
   rw[this]at h;exact .done (h (by simp))
 have:k=l.length:=by omega
 subst this;rw[aar]at a;have:dV f l=0:=by unfold dV;simp_all
 refine cf Tryz.func118 rfl (IS λb mb σ' u=>?_)
 apply rn;simp;exact .done (q this b mb σ' u)
theorem Yz{a}(h:KF (.val (bool false)) σ):aB prog m 149 [.lit .nilIface,a] σ KF:=by
 refine fs [] Tryz.func149 rfl (by kernel_rfl) ?_;simp[Tryz.f149];refine er lay rfl F5 rfl (.inl ⟨rfl,rfl⟩) (.inl ⟨rfl,rfl⟩) ?_;apply rn;simp;exact .done h
end
section
open Go.bN Go.Conc
set_option maxRecDepth 4000
variable{m:Mo}{σ:ab}{KF:aeQ}
theorem uf(first:afe)  others   k   h :jN (first.take (k+1)) others=jN (first.take k) others++if others.all (λl=>decide (first[k]∈l))then[first[k]]else[]:=by
 unfold jN;rw[za h,aca]
 grind
theorem ER  first   others :(jN first others).length<=first.length:=aaN _ _
theorem L1{first others sp f}(B:first.length<=1000000000)(C:others.length<1152921504606846976)(u:∀l∈others,l.length<1152921504606846976)(h:KF (.val (ints (jN first others))) σ):aB prog m 244 [.sl 1 (first.map int) sp,.sl 1 (others.map ints) f] σ KF:=by
 refine fs [] Tryz.func244 rfl (by kernel_rfl) ?_;simp[Tryz.f244];refine aa.loop first.length (λk s=>∃env e,s=⟨env,e,[],.no⟩/\env 0=.sl 1 (first.map int) sp/\env 1=.sl 1 (others.map ints) f/\env 10=.sl 1 (first.map int) sp/\env 11=int first.length/\env 12=int k/\Tok σ e (env 5) 1 ((jN (first.take k) others).map int)) ⟨_,_,rfl,by simp,by simp,by simp,by simp,by simp,.nil σ 1⟩ ?_
 rintro D k _ E ⟨env,e,rfl,n,g,c,d,b,a⟩ x;apply rn;simp[d,b];have hlen:=ER (first.take k) others;rw[ack]at hlen;apply aG.intro<;>intro o<;>simp at o<;>simp[g,c,b,o]
 . refine aa.loop others.length (λj s=>∃env,s=⟨env,e,[],.no⟩/\env 0=.sl 1 (first.map int) sp/\env 1=.sl 1 (others.map ints) f/\env 10=.sl 1 (first.map int) sp/\env 11=int first.length/\env 12=int k/\Tok σ e (env 5) 1 ((jN (first.take k) others).map int)/\env 7=int first[k]/\env 16=.sl 1 (others.map ints) f/\env 17=int others.length/\env 18=int j/\∀l∈others.take j,first[k]∈l) ⟨_,rfl,by simp[n,g,c,d,b,a]⟩ ?_
   clear n g c d b a;rintro F j _ G ⟨env,rfl,n,g,c,d,b,a,y,p,q,i,r⟩ v;apply rn;simp[q,i];apply aG.intro<;>intro t<;>simp at t<;>simp[y,p,i,t]
   . refine cf Tryz.func55 rfl (km (u _ (ys t)) ?_)
     apply rn;simp;apply aG.intro<;>intro z<;>simp at z<;>simp[b,i,z]
     . refine⟨by omega,v _ t ⟨_,rfl,by simp[n],by simp[g],by simp[c],by simp[d],by simp[b],by simpa using a,by simp[y],by simp[p],by simp[q],by simp,λl u=>?_⟩⟩
       rw[za t,aan,lb]at u
       grind
     refine⟨by omega,x _ o ⟨_,_,rfl,by simp[n],by simp[g],by simp[c],by simp[d],by simp,?_⟩⟩;have:others.all (λl=>decide (first[k]∈l))=false:=by grind
     rw[uf _ _ _ o,this];simpa using a
   have:j=others.length:=by omega
   subst this;rw[aar]at r;refine aN lay rfl rfl rfl cK rfl cK rfl pQ (by decide) (by simp;omega) (σ0:=σ) (es:=(jN (first.take k) others).map int) (xs:=[int first[k]]) (by simpa using a) (.inr ⟨_,rfl⟩) λH A w=>?_
   apply rn;simp[b];refine⟨by omega,x _ o ⟨_,_,rfl,by simp[n],by simp[g],by simp[c],by simp[d],by simp,?_⟩⟩;have:others.all (λl=>decide (first[k]∈l))=true:=by grind
   rw[uf _ _ _ o,this];simpa using w
 have:k=first.length:=by omega
 subst this;rw[aar]at a;exact .px a.W (.less a.1 (.done h))
structure Fr.Good(f:Fr):Prop where
 fits:f.Fits
 fr:0<=f.aU/\f.aU<=3
 to:0<=f.dD/\f.dD<=3
 le:f.aU<=f.dD
 cJ:1<=f.cJ/\f.cJ<=6
 aX:1<=f.aX/\f.aX<=6
 mT:f.az.length<=6
 r7:∀e∈f.az,bX f.roads.length e=0
 Js:fT f.roads=0
theorem ug  g :∀{l},fy g l=0->∀e∈l,g e=0
 |[],_,e,he=>by simp at he
 | a ::l,h,e,he=>by
   unfold fy at h;split at h
   . next b=>
     rcases aaw.1 he with rfl|he
     . exact b
     exact ug g h e he
   omega
theorem Fr.pw{f}(c:f.Fits)(h:check f=0):f.Good:=by
 unfold check at h;split at h
 . omega
 next d=>
 split at h
 . cases h
 next a=>
 split at h
 . cases h
 next e=>
 split at h
 . cases h
 next b=>
 split at h
 . cases h
 next g=>
 simp only[Bool.not_eq_false,zj]at a b;exact⟨c,dU a.1,dU a.2,by omega,dU b.1,dU b.2,by omega,ug _ h,by omega⟩
theorem lP{p e}(h:bX p e=0):(0<=e.hour/\e.hour<=72)/\(0<=e.place/\e.place<=p-1)/\(0<=e.cy/\e.cy<=5)/\(0<=e.bd/\e.bd<=30)/\(0<=e.im/\e.im<=2)/\oy none e.marks=0:=by
 unfold bX at h;split at h
 . cases h
 next a=>
 split at h
 . cases h
 next b=>
 split at h
 . cases h
 next c=>
 split at h
 . omega
 next g=>
 split at h
 . cases h
 next d=>
 split at h
 . cases h
 next f=>
 simp only[Bool.not_eq_false]at a b c d f;exact⟨dU a,dU b,dU c,dU d,dU f,by omega⟩
theorem C2{f}(a:f.Good)  e :(iQ f e).length<=4:=by
 unfold iQ;have:=a.fr;have:=a.to
 grind
theorem C3{f}(a:f.Good)  e :(bU f e).length<=5:=by
 unfold bU;have:=C2 a e
 grind
theorem Fj{f e}(h:e.im≠0):iQ f e=(List.range (f.dD-f.aU+1).toNat).map λi:Nat=>e.bd-f.dD+(i:Int):=Rp h
theorem IT{b mb f l}(H:f.Good)(Y:l≠[])(hl:l.length<=1000000)(hb:∀n∈l,0<=n/\n<f.az.length)(h:KF (.val (ints (gy f l))) σ):aB prog m 243 [oq b mb f 0,ints l] σ KF:=by
 have h6:=H.mT;have al:=H.fr;have av:=H.to;have ax:=H.le;refine fs Yw Tryz.func243 rfl (by kernel_rfl) ?_
 simp[Tryz.f243];refine aa.loop l.length (λk s=>∃env A,s=⟨env,A,[],.no⟩/\env 0=oq b mb f 0/\env 11=ints l/\env 12=int l.length/\env 13=int k/\Tok σ A (env 5) 1 ((l.take k).map λn=>ints (bU f (aP f n)))) ⟨_,_,rfl,by simp,by simp,by simp,by simp,.nil σ 1⟩ ?_
 rintro c0 k _ hk ⟨env,A,rfl,C,p,g,o,d⟩ S
 rcases aaA k l.length with g1|g1
 . obtain⟨L,n1⟩:=hb _ (ys g1)
   have n2:l[k].toNat<f.az.length:=by omega
   obtain⟨e,he⟩:∃e,e=f.az[l[k].toNat]:=⟨_,rfl⟩;have Z:aP f l[k]=e:=by simp[aP,zD,n2,he]
   have ay:=lP (H.r7 e (by simp_all))
   have t:(l.take (k+1)).map (λn=>ints (bU f (aP f n)))=(l.take k).map (λn=>ints (bU f (aP f n)))++[ints (bU f e)]:=by rw[za g1,aaq];simp[Z]
   apply rn;simp[C,p,g,o,g1,L,n2,<-he];refine bO.intro λc hc=>?_
   simp
   have a7:σ c=none:=by
    cases q:σ c with
    |none=>rfl
    |some x=>rw[d.1 c x q]at hc;cases hc
   have B:Tok σ (A.set c (.cells [int e.hour,int e.place,int e.cy,ints e.marks,int e.bd,int e.im])) (env 5) 1 ((l.take k).map λn=>ints (bU f (aP f n))):=d.beside a7 (λq=>by obtain⟨_,x,hx⟩:=d.aV q;grind)
   have G:(A.set c (.cells [int e.hour,int e.place,int e.cy,ints e.marks,int e.bd,int e.im])) c=some (.cells [int e.hour,int e.place,int e.cy,ints e.marks,int e.bd,int e.im]):=ab.ai _ _ _;generalize A.set c (.cells [int e.hour,int e.place,int e.cy,ints e.marks,int e.bd,int e.im])=D at B G;refine aG.intro (λM=>?_) (λM=>?_)<;>simp at M<;>simp[M]
   . have f1:-9223372036854775808<=f.dD-f.aU/\f.dD-f.aU<=9223372036854775807:=by omega
     have f2:-9223372036854775808<=f.dD-f.aU+1/\f.dD-f.aU+1<=9223372036854775807:=by omega
     simp[C,f1.1,f1.2,f2.1,f2.2];apply rn;simp;obtain⟨a5,I⟩:∃a,a=env 5:=⟨_,rfl⟩;rw[<-I]at B;obtain⟨cnt,O⟩:∃cnt:Nat,(cnt:Int)=f.dD-f.aU+1:=⟨(f.dD-f.aU+1).toNat,by omega⟩
     have aC:cnt<=4:=by omega
     have a8:iQ f e=(List.range cnt).map λi:Nat=>e.bd-f.dD+(i:Int):=by rw[Fj M];grind
     refine aa.loop cnt (λj s=>∃env J,s=⟨env,J,[],.no⟩/\env 0=oq b mb f 0/\env 11=ints l/\env 12=int l.length/\env 13=int k/\env 5=a5/\env 8=.ref c 0/\env 41=int cnt/\env 42=int j/\Tok D J (env 9) 1 (((List.range j).map λi:Nat=>e.bd-f.dD+(i:Int)).map int)) ⟨_,_,rfl,by simp[C,p,g,o,<-I,O,Tok.nil]⟩ ?_
     clear C p g o d I
     rintro c1 j _ hj ⟨env,J,rfl,C,p,g,o,T,N,E,F,u⟩ a9
     have v:=u.1 _ _ G
     rcases aaA j cnt with g3|g3
     . have f3:-9223372036854775808<=e.bd-f.dD/\e.bd-f.dD<=9223372036854775807:=by omega
       have f4:-9223372036854775808<=e.bd-f.dD+j/\e.bd-f.dD+j<=9223372036854775807:=by omega
       apply rn;simp[C,N,E,F,g3,v,f3.1,f3.2,f4.1,f4.2];refine aN lay rfl rfl rfl cK rfl cK rfl pQ (by decide) (by simp only[aac,adf,aaI,aaW];omega) (σ0:=D) (es:=((List.range j).map λi:Nat=>e.bd-f.dD+(i:Int)).map int) (xs:=[int (e.bd-f.dD+j)]) (by simpa using u) (.inr ⟨_,rfl⟩) λa' P w=>?_
       apply pg;simp;apply rn;simp[F];refine⟨by omega,a9 _ g3 ⟨_,_,rfl,by simp[C],by simp[p],by simp[g],by simp[o],by simp[T],by simp[N],by simp[E],by simp,?_⟩⟩
       rw[aaB,aaq,aaq];simpa using w
     have:j=cnt:=by omega
     subst this;rw[<-a8]at u;have aE:=C2 H e;have U:Wl [env 9,int e.bd] [ints (iQ f e),int e.bd]:=.cons u.W (.cons (.refl _) .nil)
     by_cases V:e.im=1
     . refine aa.Am 9 u.W ?_
       have y:bU f e=iQ f e:=KD λq=>q.1 V
       apply rn;simp[T,N,E,F,v,V];refine aN lay rfl rfl rfl qp rfl qp rfl cK (by decide) (by simp;omega) (σ0:=σ) (es:=(l.take k).map λn=>ints (bU f (aP f n))) (xs:=[ints (bU f e)]) (by simpa using B.up u.1) (.inr ⟨_,by rw[y];simp;rfl⟩) λa4 K z=>?_
       apply rn;simp[o];refine⟨by omega,S _ g1 ⟨_,_,rfl,by simp[C],by simp[p],by simp[g],by simp,?_⟩⟩
       rw[t];simpa using z
     have Q:(e.im !=1)=true:=by simp[V]
     by_cases X:e.bd∈iQ f e
     . have y:bU f e=iQ f e:=KD λq=>q.2 X
       apply rn;simp[N,E,F,v,Q];refine bp Tryz.func55 rfl rfl U (km (by omega) ?_)
       refine aa.Am 9 (a':=ints (iQ f e)) (by simpa using u.W) ?_
       apply rn;simp[T,X];refine aN lay rfl rfl rfl qp rfl qp rfl cK (by decide) (by simp;omega) (σ0:=σ) (es:=(l.take k).map λn=>ints (bU f (aP f n))) (xs:=[ints (bU f e)]) (by simpa using B.up u.1) (.inr ⟨_,by rw[y];simp;rfl⟩) λa4 K z=>?_
       apply rn;simp[o];refine⟨by omega,S _ g1 ⟨_,_,rfl,by simp[C],by simp[p],by simp[g],by simp,?_⟩⟩
       rw[t];simpa using z
     have y:bU f e=iQ f e++[e.bd]:=Rp ⟨V,X⟩;apply rn;simp[N,E,F,v,Q];refine bp Tryz.func55 rfl rfl U (km (by omega) ?_)
     apply rn;simp[N,X,v];refine aN lay rfl rfl rfl cK rfl cK rfl pQ (by decide) (by simp;omega) (σ0:=D) (es:=(iQ f e).map int) (xs:=[int e.bd]) (by simpa using u) (.inr ⟨_,rfl⟩) λa' P w=>?_
     refine aa.Am 74 (a':=AV.sl 1 ((iQ f e).map int++[int e.bd]) .any) (by simpa using w.W) ?_
     apply rn;simp[T];refine aN lay rfl rfl rfl qp rfl qp rfl cK (by decide) (by simp;omega) (σ0:=σ) (es:=(l.take k).map λn=>ints (bU f (aP f n))) (xs:=[ints (bU f e)]) (by simpa using B.up w.1) (.inr ⟨_,by rw[y];simp;rfl⟩) λa4 K z=>?_
     apply rn;simp[o];refine⟨by omega,S _ g1 ⟨_,_,rfl,by simp[C],by simp[p],by simp[g],by simp,?_⟩⟩
     rw[t];simpa using z
   have y:bU f e=[e.bd]:=by simp[bU,iQ,M]
   simp[G,M];have U:Wl [AV.lit (.slice none 0 0),int e.bd] [ints [],int e.bd]:=.cons (dR 1) (.cons (.refl _) .nil);refine bp Tryz.func55 rfl rfl U (km (by simp) ?_)
   apply rn;simp[G];refine aN lay rfl rfl rfl cK rfl cK rfl pQ (by decide) (by simp) (σ0:=D) (es:=[]) (xs:=[int e.bd]) (by simpa using Tok.nil D 1) (.inr ⟨_,rfl⟩) λa' P w=>?_
   refine aa.Am 74 (a':=AV.sl 1 [int e.bd] .any) (by simpa using w.W) ?_
   apply rn;simp;refine aN lay rfl rfl rfl qp rfl qp rfl cK (by decide) (by simp;omega) (σ0:=σ) (es:=(l.take k).map λn=>ints (bU f (aP f n))) (xs:=[ints (bU f e)]) (by simpa using B.up w.1) (.inr ⟨_,by rw[y];simp;rfl⟩) λa4 K z=>?_
   apply rn;simp[o];refine⟨by omega,S _ g1 ⟨_,_,rfl,by simp[C],by simp[p],by simp[g],by simp,?_⟩⟩
   rw[t];simpa using z
 have:k=l.length:=by omega
 subst this;rw[aar]at d;refine aa.Am 5 d.W ?_;have R:0<l.length:=adE.2 Y;apply rn;simp[g,o,R];refine zS lay rfl qp rfl cK (es:=l.map λn=>ints (bU f (aP f n))) (sp:=.any) (l:=1) (h:=l.length) ?_ (λcap ad=>⟨rfl,⟨rfl,by simp⟩,⟨_,rfl⟩,by omega⟩) (by simp) ?_
 . simp
 obtain⟨L,r,rfl⟩:∃L r,l=L::r:=by
  cases l with
  |nil=>simp_all
  |cons a r=>simp_all
 apply pg;simp
 have e:List.take r.length (List.map (λn=>ints (bU f (aP f n))) r)=(r.map λn=>bU f (aP f n)).map ints:=by
  rw[aaY (by simp)]
  simp
 rw[e];have hlen:=C3 H (aP f L);refine cf Tryz.func244 rfl (L1 (first:=bU f (aP f L)) (others:=r.map λn=>bU f (aP f n)) (by omega) (by grind) (λx hx=>?_) ?_)
 . obtain⟨n,_,rfl⟩:=aab.1 hx
   have:=C3 H (aP f n);omega
 apply pg;simp;apply rn;simp;refine .less d.1 (.done ?_);simpa[gy]using h
theorem GX{f}(h:check f=0):dV f []=0:=by unfold dV;simp_all
theorem IU{f}{l:afe}(h:check f=0)(a:∀n∈l,0<=n/\n<f.az.length):dV f l=0:=by
 unfold dV;rw[KD (by simp[h]),Rp];rw[aau];intro n b;have:=a n b;simp[bz];omega
theorem yR.le{σ σ' b mb}(h:yR σ b mb σ'):σ.Le σ':=by rw[h.eq];exact ab.jW (ab.jW (ab.le_refl _) h.Ff) (by rw[ab.ah _ _ h.ne];exact h.hb)
theorem ES{a n}(b:0<=n)(h:KF (.val (u8 (cB a n))) σ):aB prog m 248 [u8 a,int n] σ KF:=by
 refine fs [] Tryz.func248 rfl (by kernel_rfl) ?_;simp[Tryz.f248];refine⟨b,?_⟩;simp[vW];exact .done h
theorem rE{l}(o:l.length<1152921504606846976)(f:∀n∈l,0<=n)(h:KF (.val (u8 (aR l))) σ):aB prog m 246 [ints l] σ KF:=by
 refine fs [] Tryz.func246 rfl (by kernel_rfl) ?_;simp[Tryz.f246];refine aa.loop l.length (λk s=>∃env,s=⟨env,σ,[],.no⟩/\env 3=u8 (aR (l.take k))/\env 4=.fn (.func 248) [u8 (aR (l.take k))] []/\env 9=ints l/\env 10=int l.length/\env 11=int k) ⟨_,rfl,by simp[aR]⟩ ?_;rintro p k _ q ⟨env,rfl,g,i,d,b,a⟩ j;apply rn;simp[b,a];apply aG.intro<;>intro c<;>simp at c<;>simp[g,i,d,a,c]
 . have e:aR (l.take (k+1))=cB (aR (l.take k)) l[k]:=by
    unfold aR;rw[za c,aaG];rfl
   refine fF Tryz.func248 rfl rfl rfl (ES (f _ (ys c)) ?_);rw[<-e];apply rn;simp[a];exact⟨by omega,j _ c ⟨_,rfl,by simp[d,b]⟩⟩
 have:k=l.length:=by omega
 subst this;rw[aar];exact .done h
def ET(x:Int):Int:=GU x (T7 x 1)
def vX:Nat->Int->Int
 |0,x=>x
 |n+1,x=>ET (vX n x)
def L2:Nat->Int->Int
 |0,_=>0
 |n+1,x=>if x=0 then 0 else 1+L2 n (ET x)
def bM(a b:Int):Int:=L2 8 (Ba a b)
theorem Bb{a b}(l:vX 8 (Ba a b)=0)(h:KF (.val (int (bM a b))) σ):aB prog m 247 [u8 a,u8 b] σ KF:=by
 refine fs [] Tryz.func247 rfl (by kernel_rfl) ?_
 simp[Tryz.f247,LZ];refine aa.loop 8 (λk s=>∃env,s=⟨env,σ,[],.no⟩/\env 5=int k/\env 6=u8 (vX k (Ba a b))/\bM a b=k+L2 (8-k) (vX k (Ba a b))) ⟨_,rfl,by simp,by simp;rfl,by simp[vX,bM]⟩ ?_
 rintro n k _ o ⟨env,rfl,g,f,c⟩ i
 apply rn;simp[f];apply aG.intro<;>intro d<;>simp at d<;>simp[g,f,d]
 . have j:k<8:=by
    grind
   refine⟨by omega,?_⟩
   simp[xk,L0];refine i _ j ⟨_,rfl,by simp,by simp[vX,ET],?_⟩
   have e:8-k=(8-(k+1))+1:=by omega
   rw[e,L2,KD d]at c;rw[c];simp only[vX];omega
 rw[d]at c;have e:L2 (8-k) 0=0:=by cases 8-k<;>simp[L2]
 rw[e]at c;rw[c]at h;exact .done (by grind)
abbrev Bc(x:Int):AV:=.agg [u8 x]
theorem SS{x n}(a:0<=n)(h:KF (.val (Bc (cB x n))) σ):aB prog m 158 [Bc x,int n] σ KF:=by
 refine aB.start lay [2] Yq 2 Tryz.func158 rfl rfl (by rfl) (by kernel_rfl) ?_;simp[Tryz.f158];refine bO.intro λc f=>?_
 simp;refine bO.intro λd hd=>?_
 obtain⟨b,e,hd⟩:=ab.aS hd;simp[e,ab.ah,vW,a];refine aa.run lay [2] ?_;simp[b,ab.ah];exact .less (by repeat (first|exact ab.le_refl _|assumption|refine ab.fK ?_ (by assumption)|refine ab.nM ?_ (by assumption))) (.done h)
theorem Po{x}(h:KF (.val (ints (aD x))) σ):aB prog m 186 [Bc x] σ KF:=by
 refine fs [] Tryz.func186 rfl (by kernel_rfl) ?_;simp[Tryz.f186];refine aa.loop 6 (λk s=>∃env b,s=⟨env,b,[],.no⟩/\env 1=.cp (Bc x) 0/\env 5=int k/\Tok σ b (env 3) 1 ((((List.range k).map λn:Nat=>(n:Int)).filter λn=>ik x n).map int)) ⟨_,_,rfl,by simp,by simp,.nil σ 1⟩ ?_;rintro l k _ o ⟨env,b,rfl,d,c,a⟩ f;rcases aaA k 6 with g1|g1
 . have e:(k:Int)<6:=by omega
   have p:(((List.range k).map λn:Nat=>(n:Int)).filter λn=>ik x n).length<=k:=by grind
   have q:(((List.range (k+1)).map λn:Nat=>(n:Int)).filter λn=>ik x n)=(((List.range k).map λn:Nat=>(n:Int)).filter λn=>ik x n)++if ik x k then[(k:Int)]else[]:=by
    rw[aaB,aaq,aca]
    grind
   apply rn;simp[d,c,e,xk];have g:ik x k=(GU (x.fdiv (2 ^ min k IntKind.u8.bits)) 1==1):=by simp[ik]
   rw[<-g];cases hb:ik x k
   . simp[c]
     refine⟨by omega,f _ g1 ⟨_,_,rfl,by simp[d],by simp,?_⟩⟩
     simp_all
   simp;refine aN lay rfl rfl rfl cK rfl cK rfl pQ (by decide) (by grind) (σ0:=σ) (es:=(((List.range k).map λn:Nat=>(n:Int)).filter λn=>ik x n).map int) (xs:=[int k]) (by simp_all) (.inr ⟨_,rfl⟩) λr i j=>?_
   apply rn;simp[c];refine⟨by omega,f _ g1 ⟨_,_,rfl,by simp[d],by simp,?_⟩⟩
   simp_all
 have:k=6:=by omega
 subst this;apply rn;simp[c];exact .px a.W (.less a.1 (.done h))
def jd(a b:Int):Int:=if 0<a/\a<b then 3 else if a=b then 1 else 2
theorem IV{a b}(h:KF (.val (int (jd a b))) σ):aB prog m 84 [int a,int b] σ KF:=by
 unfold jd at h;refine fs [] Tryz.func84 rfl (by kernel_rfl) ?_;simp[Tryz.f84];refine tL.intro (λd=>?_) (λd=>?_)<;>(try simp[-Int.not_lt,-Int.not_le]at d)<;>(try simp[d]at h)<;>(try simp[d])<;>(try exact .done h)
 . refine aG.intro (λe=>?_) (λe=>?_)<;>(try simp[-Int.not_lt,-Int.not_le]at e)<;>(try simp[e]at h)<;>(try simp[e])<;>(try exact .done h)
   . have:a≠b:=by omega
     apply aG.intro<;>intro c<;>simp at c<;>simp[c]
     . omega
     exact .done h
   refine aG.intro (λc=>?_) (λc=>?_)<;>(try simp at c)<;>(try simp[c]at h)<;>(try simp[c])<;>(try exact .done h)
 refine aG.intro (λc=>?_) (λc=>?_)<;>(try simp at c)<;>(try simp[c]at h)<;>(try simp[c])<;>(try exact .done h)
theorem L3{l}(b:l≠[])(c:l.length<=1000000000)(h:∀a σ',bo σ σ' a 1 (l.map int)->KF (.val a) σ'):aB prog m 188 [ints l] σ KF:=by
 refine fs [] Tryz.func188 rfl (by kernel_rfl) ?_;simp[Tryz.f188];refine FD lay rfl cK rfl rfl (.inr (.inl ⟨rfl,by simp_all,rfl⟩)) (.inl ⟨rfl,rfl⟩) ?_;apply rn;simp;refine fU lay rfl rfl rfl cK rfl cK rfl pQ (by decide) (by simp;omega) (σ0:=σ) (es:=[]) (xs:=l.map int) (.empty σ 1) (.inl (.inr ⟨_,rfl⟩)) (by simp) λd σ' e=>?_
 apply rn;simp;exact .done (h _ _ (by simp_all))
def eF(lt:Int->Int->Bool)(x:Int):afe->afe
 |[]=>[x]
 |y::r=>if lt x y then y::eF lt x r else x::y::r
def dJ(lt:Int->Int->Bool)(l:afe):afe:=l.foldl (λr x=>eF lt x r) []
theorem GY  lt   x :∀r,(eF lt x r).length=r.length+1
 |[]=>rfl
 |y::r=>by unfold eF;split<;>simp[GY lt x r]
theorem ly  lt   l :(dJ lt l).length=l.length:=by
 have key:∀(l r:afe),(l.foldl (λr x=>eF lt x r) r).length=r.length+l.length:=by
  intro l;induction l with
  |nil=>intro r;rfl
  |cons a l b=>intro r;rw[aaS,b,GY];simp;omega
 rw[dJ,key];simp
theorem GZ  lt   x :∀  r   y ,y∈eF lt x r↔y=x\/y∈r
 |[],y=>by simp[eF]
 | z ::r,y=>by
   unfold eF;split
   . rw[aaw,GZ lt x r y,aaw]
     grind
   simp
theorem te  lt   l   y :y∈dJ lt l↔y∈l:=by
 have key:∀(l r:afe),y∈l.foldl (λr x=>eF lt x r) r↔y∈r\/y∈l:=by
  intro l;induction l with
  |nil=>grind
  | cons a l b=>
    intro r;rw[aaS,b,GZ,aaw]
    grind
 rw[dJ,key];simp
def G1(m:Mo)(y:AV)(c:Int->Int->Int)(In:Int->Prop):Prop:=∀(a b:Int) (σ:ab) (KF:aeQ),In a->In b->KF (.val (int (c a b))) σ->cL prog m y [int a,int b] σ KF
theorem Wx{α:Type}{A B}{x y:α}{n}(a:A.length=n):(A++y::x::B)[n]?=some y/\(A++y::x::B)[n+1]?=some x/\((A++y::x::B).set n x).set (n+1) y=A++x::y::B/\((A++y::x::B).set (n+1) y).set n x=A++x::y::B:=by simp_all
theorem IW{y c In l b cap rest}(W:G1 m y c In)(J:∀x∈l,In x)(hl:l.length<=1000000)(hb:σ b=some (.cells (l.map int++rest)))
 (h:KF (.val (.bL [])) (σ.set b (.cells ((dJ (λa b=>decide (c a b<0)) l).reverse.map int++rest)))):aB prog m 202 [.gK b 0 l.length cap,int 0,int l.length,y] σ KF:=by
 refine fs Yu Tryz.func202 rfl (by kernel_rfl) ?_
 simp[Tryz.f202];obtain⟨lt,D⟩:∃lt,lt=λa b=>decide (c a b<0):=⟨_,rfl⟩
 rw[<-D]at h;refine aa.loop l.length (λi s=>∃env g,s=⟨env,g,[],.no⟩/\env 0=.gK b 0 l.length cap/\env 1=int 0/\env 2=int l.length/\env 3=y/\env 8=int ((i:Int)+1)/\g=σ.set b (.cells ((dJ lt (l.take (i+1))).reverse.map int++((l.drop (i+1)).map int++rest)))) ⟨_,_,rfl,by simp,by simp,by simp,by simp,by simp,?_⟩ ?_
 . have e:(dJ lt (l.take 1)).reverse.map int++((l.drop 1).map int++rest)=l.map int++rest:=by
    cases l with
    |nil=>simp[dJ]
    |cons a l=>simp[dJ,eF]
   rw[e]
   funext d
   by_cases q:d=b
   . simp_all
   rw[ab.ah _ _ q]
 rintro c0 i _ hi ⟨env,g,rfl,t,u,v,E,w,j⟩ X
 rcases aaA (i+1) l.length with g1|g1
 . have Q:(i:Int)+1<l.length:=by omega
   obtain⟨S,M⟩:∃S,S=dJ lt (l.take (i+1)):=⟨_,rfl⟩;have R:S.length=i+1:=by rw[M,ly,ack];omega
   have T:∀x∈S,In x:=λx N=>J x (adD ((te lt _ x).1 (M ▸ N)))
   have F:dJ lt (l.take (i+1+1))=eF lt l[i+1] S:=by rw[M,dJ,za g1,aaG];rfl
   obtain⟨x,N⟩:∃x,x=l[i+1]:=⟨_,rfl⟩;have K:In x:=J x (by simp_all)
   have U:l.drop (i+1)=x::l.drop (i+2):=by rw[N];exact ace g1
   rw[<-M,U]at j;rw[<-N]at F;apply rn;simp[v,w,Q]
   refine aa.loop (i+1) (λk s=>∃env g r f,s=⟨env,g,[],.no⟩/\env 0=.gK b 0 l.length cap/\env 1=int 0/\env 2=int l.length/\env 3=y/\env 8=int ((i:Int)+1)/\env 9=int f.length/\S=r++f/\f.length+k=i+1/\eF lt x S=r++eF lt x f/\
    g=σ.set b (.cells ((f.reverse.map int)++int x::(r.reverse.map int++((l.drop (i+2)).map int++rest))))) ⟨_,_,[],S,rfl,by simp[t],by simp[u],by simp[v],by simp[E],by simp[w],by simp[R],rfl,by omega,rfl,by grind⟩ ?_
   clear t u v E w j
   rintro c1 k _ hk ⟨env,g,r,f,rfl,t,u,v,E,w,O,G,hlen,p,j⟩ V
   cases f with
   | nil=>
     simp only[aaW,adn]at hlen;simp only[aaE]at G;subst G
     have o:g=σ.set b (.cells ((dJ lt (l.take (i+1+1))).reverse.map int++((l.drop (i+1+1)).map int++rest))):=by rw[j,F,p];simp[eF]
     apply rn;simp[u,O];refine⟨?_,?_⟩
     all_goals
      apply rn;simp[w];refine⟨by omega,X _ (by omega) ⟨_,_,rfl,?_,?_,?_,?_,?_,o⟩⟩<;>simp[t,u,v,E]
   | cons z f=>
     obtain⟨e1,e2,e3,e4⟩:=Wx (A:=f.reverse.map int) (B:=r.reverse.map int++((l.drop (i+2)).map int++rest)) (x:=int x) (y:=int z) (n:=f.length) (by simp)
     have C:g b=some (.cells (f.reverse.map int++int z::int x::(r.reverse.map int++((l.drop (i+2)).map int++rest)))):=by rw[j,ab.ai];simp
     have L:In z:=T z (by grind)
     have f1:(0:Int)<(f.length:Int)+1:=by omega
     have Y:(f.length:Int)+1<l.length:=by grind
     have Z:(f.length:Int)<l.length:=by omega
     have f4:(0:Int)<=(f.length:Int)+1:=by omega
     have f5:((f.length:Int)+1).toNat=f.length+1:=by omega
     have I:-9223372036854775808<=(f.length:Int)/\(f.length:Int)<=9223372036854775807:=by omega
     apply rn;simp[t,u,E,O,f1,Y,Z,f4,f5,I.1,I.2,C];refine⟨W _ _ _ _ K L ?_,W _ _ _ _ K L ?_⟩
     all_goals
      apply pg;simp;apply rn;simp
      by_cases P:c x z<0
      . have f7:f.length+1+1<=f.length+(r.length+(l.length-(i+2)+rest.length)+1+1):=by omega
        have f8:f.length+1<=f.length+(r.length+(l.length-(i+2)+rest.length)+1+1):=by omega
        have H:eF lt x (z::f)=z::eF lt x f:=by rw[D];simp[eF,P]
        simp[t,O,P,f5,I.1,I.2,Y,Z,f4,C,f7,f8];apply rn;simp[O,I.1,I.2];refine V _ (by simp at hlen;omega) ⟨_,_,r++[z],f,rfl,by simp[t],by simp[u],by simp[v],by simp[E],by simp[w],by simp,by rw[G];simp,by simp at hlen;omega,by rw[p,H];simp,?_⟩
        rw[j];simp
      have H:eF lt x (z::f)=x::z::f:=by rw[D];simp[eF,P]
      have o:g=σ.set b (.cells ((dJ lt (l.take (i+1+1))).reverse.map int++((l.drop (i+1+1)).map int++rest))):=by rw[j,F,p,H];simp
      simp[w,P];refine⟨by omega,X _ (by omega) ⟨_,_,rfl,?_,?_,?_,?_,?_,o⟩⟩<;>simp[t,u,v,E]
 have o:(dJ lt (l.take (i+1))).reverse.map int++((l.drop (i+1)).map int++rest)=(dJ lt l).reverse.map int++rest:=by rw[aaY (by omega),List.drop_of_length_le (by omega)];simp
 rw[o]at j;have g2:¬(i:Int)+1<l.length:=by omega
 apply rn;simp[v,w,g2];rw[j];exact .done h
theorem EU{y c In l b cap rest}(q:G1 m y c In)(g:∀x∈l,In x)(w:l.length<20)(hb:σ b=some (.cells (l.map int++rest)))
 (h:KF (.val (.bL [])) (σ.set b (.cells ((dJ (λa b=>decide (c a b<0)) l).reverse.map int++rest)))):aB prog m 201 [.gK b 0 l.length cap,int l.length,y] σ KF:=by
 refine fs [] Tryz.func201 rfl (by kernel_rfl) ?_;simp[Tryz.f201];have r:¬(20:Int)<=l.length:=by omega
 have t:¬(20:Int)<l.length:=by omega
 refine aa.loop 1 (λk s=>∃env,s=⟨env,σ,[],.no⟩/\env 0=.gK b 0 l.length cap/\env 1=int l.length/\env 2=y/\env 6=int 20/\env 7=int 0/\env 8=int 20) ⟨_,rfl,by simp⟩ ?_;rintro z k _ u ⟨env,rfl,j,e,n,f,o,p⟩ v;apply rn;simp[j,e,n,o,p,r];refine cf Tryz.func202 rfl (IW q g (by omega) hb ?_);apply rn;simp;refine aa.loop 1 (λk s=>∃env d,s=⟨env,d,[],.no⟩/\env 1=int l.length/\env 6=int 20/\d=σ.set b (.cells ((dJ (λa b=>decide (c a b<0)) l).reverse.map int++rest))) ⟨_,_,rfl,by simp[e,f]⟩ ?_;clear j e n f o p;rintro A k _ u ⟨env,d,rfl,e,f,i⟩ v;apply rn;simp[e,f,t];rw[i];exact .done h
theorem vY{y c In l b cap rest}(e:G1 m y c In)(d:∀x∈l,In x)(f:l.length<20)(hb:σ b=some (.cells (l.map int++rest)))
 (h:KF (.val (.bL [])) (σ.set b (.cells ((dJ (λa b=>decide (c a b<0)) l).reverse.map int++rest)))):aB prog m 189 [.gK b 0 l.length cap,y] σ KF:=by
 refine fs [] Tryz.func189 rfl (by kernel_rfl) ?_;simp[Tryz.f189];refine cf Tryz.func201 rfl (EU e d f hb ?_);apply rn;simp;exact .done (by simpa using h)
theorem SU{y c In l}(r:G1 m y c In)(f:∀x∈l,In x)(s:l.length<20)(g:l≠[])(i:y.cells=[y]/\y.flat=true)(h:KF (.val (ints (dJ (λa b=>decide (c a b<0)) l).reverse)) σ):aB prog m 168 [.agg [y],ints l] σ KF:=by
 refine fs [] Tryz.func168 rfl (by kernel_rfl) ?_;simp[Tryz.f168,i.2];refine cf Tryz.func188 rfl (L3 g (by omega) λa j k=>?_)
 obtain⟨b,cap,rest,rfl,n,o,v,p,q⟩:∃b cap rest,a=.gK b 0 (l.map int).length cap/\σ b=none/\(l.map int).length<=cap/\(∀e∈l.map int,e.cells.length=1)/\j b=some (.cells (flatten (l.map int)++rest))/\rest.length=(cap-(l.map int).length)*1:=by
  rcases k.2 with⟨e,_⟩|h
  . simp_all
  exact h
 have d:∀l:afe,flatten (l.map int)=l.map int:=λl=>by
  induction l with
  |nil=>rfl
  |cons a l t=>simp[flatten_cons,AV.cells,t]
 rw[d]at p;rw[aac]at o q ⊢;apply rn;simp;refine cf Tryz.func189 rfl (vY r f s p ?_);apply rn;simp;refine bo.thaw (σ0:=σ) (kk:=1) (es:=(dJ (λa b=>decide (c a b<0)) l).reverse.map int) ⟨ab.fK k.1 n,.inr ⟨b,cap,rest,?_,n,?_,λe u=>?_,?_,?_⟩⟩ h
 . simp[ly]
 . simpa[ly]using o
 . obtain⟨x,_,rfl⟩:=aab.1 u;rfl
 . rw[d];simp
 simpa[ly]using q
def xl(f:Fr)(a b:Int):Int:=EP (aP f a).hour (aP f b).hour
theorem SX{b mb f x y}(d:0<=x/\x<f.az.length)(e:0<=y/\y<f.az.length)(h:KF (.val (int (xl f x y))) σ):aB prog m 166 [int x,int y,.cp (oq b mb f 0) 0] σ KF:=by
 have a:x.toNat<f.az.length:=by omega
 have c:y.toNat<f.az.length:=by omega
 have ex:aP f x=f.az[x.toNat]:=by simp[aP,zD,a]
 have g:aP f y=f.az[y.toNat]:=by simp[aP,zD,c]
 unfold xl at h;rw[ex,g]at h;refine fs Ys Tryz.func166 rfl (by kernel_rfl) ?_;simp[Tryz.f166,a,c,d.1,e.1];refine cf Tryz.func167 rfl (IQ ?_);apply pg;simp;apply rn;simp;exact .done h
theorem Pp{b mb f}:G1 m (.fn (.func 166) [] [.cp (oq b mb f 0) 0]) (xl f) (λn=>0<=n/\n<f.az.length):=λx y σ KF a c h=>by refine fF Tryz.func166 rfl rfl rfl (SX a c h)
structure Rv(f:Fr)(l:afe):Prop where
 mem:∀n∈l,0<=n/\n<f.az.length
 ne:l≠[]
 len:l.length<=1000000
def dK(f:Fr)(l:afe):Bool:=l.any λn=>decide ((aP f n).cy≠(aP f (l.getD 0 0)).cy)
theorem jO{f x}  h :aP f x=f.az[x.toNat]:=by simp[aP,zD,h]
theorem IX{b mb f l}(u:Rv f l)(h:KF (.val (bool (dK f l))) σ):aB prog m 241 [.agg [],oq b mb f 0,ints l] σ KF:=by
 obtain⟨i,g,hlen⟩:=u;have a:0<l.length:=adE.2 g;obtain⟨v,A⟩:=i _ (ys a);have j:l[0].toNat<f.az.length:=by omega
 have w:l.getD 0 0=l[0]:=by simp_all
 unfold dK at h;rw[w]at h;refine fs Yv Tryz.func241 rfl (by kernel_rfl) ?_;simp[Tryz.f241];refine aa.loop l.length (λk s=>∃env,s=⟨env,σ,[],.no⟩/\env 1=oq b mb f 0/\env 2=ints l/\env 9=ints l/\env 10=int l.length/\env 11=int k/\∀n∈l.take k,(aP f n).cy=(aP f l[0]).cy) ⟨_,rfl,by simp⟩ ?_;rintro B k _ C ⟨env,rfl,o,p,q,c,d,e⟩ x;rcases aaA k l.length with g1|g1
 . obtain⟨y0,D⟩:=i _ (ys g1)
   have r:l[k].toNat<f.az.length:=by omega
   have E:=jO r;have F:=jO j;apply rn;simp[o,p,q,c,d,g1,a,y0,r,v,j];apply rn;simp;by_cases t:f.az[l[k].toNat].cy=f.az[l[0].toNat].cy
   . simp[d,t]
     refine⟨by omega,x _ g1 ⟨_,rfl,by simp[o],by simp[p],by simp[q],by simp[c],by simp,λn y=>?_⟩⟩;rw[za g1,aan,lb]at y
     grind
   have z:(f.az[l[k].toNat].cy !=f.az[l[0].toNat].cy)=true:=by simp[t]
   have:l.any (λn=>decide ((aP f n).cy≠(aP f l[0]).cy))=true:=aaO.2 ⟨_,ys g1,by simp_all⟩;rw[this]at h;simp[z];exact .done h
 have:k=l.length:=by omega
 subst this;rw[aar]at e;have:l.any (λn=>decide ((aP f n).cy≠(aP f l[0]).cy))=false:=by simp_all
 rw[this]at h;apply rn;simp[c,d];exact .done h
def cO(f:Fr)(l:afe):Bool:=decide (gy f l=[])
theorem IY{b mb f l}(g:f.Good)(c:Rv f l)(h:KF (.val (bool (cO f l))) σ):aB prog m 242 [.agg [],oq b mb f 0,ints l] σ KF:=by
 refine fs [] Tryz.func242 rfl (by kernel_rfl) ?_;simp[Tryz.f242];refine cf Tryz.func243 rfl (IT g c.ne c.len c.mem ?_);apply rn;simp;unfold cO at h;cases d:gy f l with
 |nil=>rw[d]at h;exact .done h
 | cons a r=>
   rw[d]at h;have e:((r.length:Int)+1==0)=false:=by grind
   refine .done ?_;simpa[e]using h
def eU(f:Fr)(x y:Int):Bool:=decide ((aP f y).hour-(aP f x).hour<rd f.roads (aP f x).place.toNat (aP f y).place.toNat+f.cJ*bM (aR (aP f x).marks) (aR (aP f y).marks))
def bG(f:Fr)(l:afe):Bool:=(List.range (l.length-1)).any λi=>eU f (l.getD i 0) (l.getD (i+1) 0)
theorem mV:∀{l p},oy p l=0->∀n∈l,0<=n/\n<=4
 |[],_,_,n,hn=>by simp at hn
 | a::l,p,h,n,hn=>by
   unfold oy at h;split at h
   . cases h
   next b=>
   split at h
   . cases h
   next c=>
   rcases aaw.1 hn with rfl|hn
   . simp[bz]at b;omega
   exact mV h n hn
theorem L4:∀a:Fin 32,∀n:Fin 5,0<=cB (a.val:Int) (n.val:Int)/\cB (a.val:Int) (n.val:Int)<32:=by decide
theorem iR{l}(h:∀n∈l,0<=n/\n<=4):0<=aR l/\aR l<32:=by
 have key:∀(l:afe) (a:Int),(∀n∈l,0<=n/\n<=4)->0<=a/\a<32->0<=l.foldl cB a/\l.foldl cB a<32:=by
  intro l;induction l with
  |nil=>simp_all
  | cons x l c=>
    intro a b e;rw[aaS];refine c _ (λn d=>b n (adu _ d)) ?_;obtain⟨f,g⟩:=b x (aek ..);have:=L4 ⟨a.toNat,by omega⟩ ⟨x.toNat,by omega⟩;have i:(a.toNat:Int)=a:=by omega
    have j:(x.toNat:Int)=x:=by omega
    simp_all
 exact key l 0 h (by omega)
theorem Pq:∀a:Fin 32,∀b:Fin 32,vX 8 (Ba (a.val:Int) (b.val:Int))=0/\0<=bM (a.val:Int) (b.val:Int)/\bM (a.val:Int) (b.val:Int)<=5:=by decide +kernel
theorem Dw{a b}(c:0<=a/\a<32)(hb:0<=b/\b<32):vX 8 (Ba a b)=0/\0<=bM a b/\bM a b<=5:=by
 have:=Pq ⟨a.toNat,by omega⟩ ⟨b.toNat,by omega⟩
 grind
theorem Fr.Good.row{f:Fr}(a:f.Good){i}(hi:i<f.roads.length):f.roads[i].length=f.roads.length/\∀x∈f.roads[i],0<=x/\x<=9:=by
 have h:=a.Js;unfold fT at h;split at h
 . cases h
 split at h
 . cases h
 split at h
 . omega
 next q=>
 obtain⟨b,c⟩:=je (by simpa using q) _ (ys hi);exact⟨b,λx d=>dU (c x d)⟩
theorem IZ{b mb f l}(j:f.Good)(hl:Rv f l)(h:KF (.val (bool (bG f l))) σ):aB prog m 245 [.agg [],oq b mb f 0,ints l] σ KF:=by
 obtain⟨S,a7,hlen⟩:=hl;have p:=j.cJ;unfold bG at h;refine fs Yx Tryz.func245 rfl (by kernel_rfl) ?_
 simp[Tryz.f245];refine aa.loop (l.length-1) (λk s=>∃env a,s=⟨env,a,[],.no⟩/\σ.Le a/\env 1=oq b mb f 0/\env 2=ints l/\env 7=int ((k:Int)+1)/\∀i<k,eU f (l.getD i 0) (l.getD (i+1) 0)=false) ⟨_,_,rfl,ab.le_refl _,by simp⟩ ?_
 rintro c0 k _ hk ⟨env,a,rfl,q,r,w,x,T⟩ U
 rcases aaA (k+1) l.length with g1|g1
 . have K:(k:Int)+1<l.length:=by omega
   have L:k<l.length:=by omega
   obtain⟨x0,x1⟩:=S _ (ys L);obtain⟨y0,y1⟩:=S _ (ys g1);have y:l[k].toNat<f.az.length:=by omega
   have z:l[k+1].toNat<f.az.length:=by omega
   have f1:-9223372036854775808<=(k:Int)/\(k:Int)<=9223372036854775807:=by omega
   have f2:((k:Int)+1).toNat=k+1:=by omega
   have f3:(0:Int)<=(k:Int)+1:=by omega
   obtain⟨A,C⟩:∃A,A=f.az[l[k].toNat]:=⟨_,rfl⟩;obtain⟨B,D⟩:∃B,B=f.az[l[k+1].toNat]:=⟨_,rfl⟩;have V:=jO y;have W:=jO z;rw[<-C]at V;rw[<-D]at W;have bA:=lP (j.r7 A (by grind))
   have bB:=lP (j.r7 B (by grind))
   apply rn;simp[r,w,x,K,L,g1,x0,y,y0,z,f1.1,f1.2,f2,f3,<-C,<-D];have e:=λ{c:Nat}(t:a c=none)=>q.none t
   have E:A.place.toNat<f.roads.length:=by omega
   obtain⟨r1,r2⟩:=j.row E;have F:B.place.toNat<f.roads[A.place.toNat].length:=by omega
   obtain⟨r3,r4⟩:=r2 _ (ys F);have M:rd f.roads A.place.toNat B.place.toNat=f.roads[A.place.toNat][B.place.toNat]:=eo E F;have N:=mV bA.2.2.2.2.2;have O:=mV bB.2.2.2.2.2;have lA:=iR N;have lB:=iR O;obtain⟨X,P,Y⟩:=Dw lA lB;obtain⟨ch,g⟩:∃ch,ch=bM (aR A.marks) (aR B.marks):=⟨_,rfl⟩;rw[<-g]at P Y
   have hmul:0<=f.cJ*ch/\f.cJ*ch<=30:=by
    constructor
    . exact Int.mul_nonneg (by omega) P
    calc f.cJ*ch<=6*5:=aej p.2 Y P (by omega)
     _=30:=by rfl
   have Z:eU f l[k] l[k+1]=decide (B.hour-A.hour<f.roads[A.place.toNat][B.place.toNat]+f.cJ*ch):=by unfold eU;rw[V,W,M,g]
   have a8:l.getD k 0=l[k]:=by simp[zD,L]
   have a9:l.getD (k+1) 0=l[k+1]:=by simp[zD,g1]
   have G:-9223372036854775808<=B.hour-A.hour/\B.hour-A.hour<=9223372036854775807:=by omega
   have H:-9223372036854775808<=f.cJ*ch/\f.cJ*ch<=9223372036854775807:=by omega
   have I:-9223372036854775808<=f.roads[A.place.toNat][B.place.toNat]+f.cJ*ch/\f.roads[A.place.toNat][B.place.toNat]+f.cJ*ch<=9223372036854775807:=by omega
   refine⟨nH.intro λc t=>?_,nH.intro λc t=>?_⟩
   . simp
     refine nH.intro λd hd=>?_
     obtain⟨J,u,hd⟩:=ab.aS hd;have Q:=e t;have R:=e hd;simp[J,u,ab.ah];refine aa.bf 8 (b:=c) (bj A) (by simp[u,ab.ah]) (by simp) rfl ?_
     refine aa.bf 9 (b:=d) (bj B) (by simp[J,ab.del]) (by simp) rfl ?_
     apply rn;simp[r,G.1,G.2,E,F];refine⟨by omega,by omega,?_⟩
     refine cf Tryz.func246 rfl (rE (by have:=j.fits.marks A (by rw[C];exact ys y);omega) (λn o=>(N n o).1) ?_)
     apply pg;simp;refine cf Tryz.func246 rfl (rE (by have:=j.fits.marks B (by rw[D];exact ys z);omega) (λn o=>(O n o).1) ?_)
     apply pg;simp;refine cf Tryz.func247 rfl (Bb X ?_);rw[<-g];apply pg;simp[H.1,H.2,I.1,I.2];apply rn;simp
     by_cases v:B.hour-A.hour<f.roads[A.place.toNat][B.place.toNat]+f.cJ*ch
     . simp[v]
       have:(List.range (l.length-1)).any (λi=>eU f (l.getD i 0) (l.getD (i+1) 0))=true:=aaO.2 ⟨k,zH.2 (by omega),by grind⟩
       rw[this]at h;exact .less (by repeat (first|exact ab.le_refl _|assumption|refine ab.fK ?_ (by assumption)|refine ab.nM ?_ (by assumption))) (.done h)
     simp[x,v];refine⟨by omega,U _ (by omega) ⟨_,_,rfl,(by repeat (first|exact ab.le_refl _|assumption|refine ab.fK ?_ (by assumption)|refine ab.nM ?_ (by assumption))),by simp[r],by simp[w],by simp,λi hi=>?_⟩⟩
     grind
   simp;refine nH.intro λd hd=>?_
   obtain⟨J,u,hd⟩:=ab.aS hd;have Q:=e t;have R:=e hd;simp[u,ab.ah];refine aa.bf 8 (b:=d) (bj A) (by simp[J,ab.ah]) (by simp) rfl ?_
   refine aa.bf 9 (b:=c) (bj B) (by simp[u,ab.del]) (by simp) rfl ?_
   apply rn;simp[r,G.1,G.2,E,F];refine⟨by omega,by omega,?_⟩
   refine cf Tryz.func246 rfl (rE (by have:=j.fits.marks A (by rw[C];exact ys y);omega) (λn o=>(N n o).1) ?_)
   apply pg;simp;refine cf Tryz.func246 rfl (rE (by have:=j.fits.marks B (by rw[D];exact ys z);omega) (λn o=>(O n o).1) ?_)
   apply pg;simp;refine cf Tryz.func247 rfl (Bb X ?_);rw[<-g];apply pg;simp[H.1,H.2,I.1,I.2];apply rn;simp
   by_cases v:B.hour-A.hour<f.roads[A.place.toNat][B.place.toNat]+f.cJ*ch
   . simp[v]
     have:(List.range (l.length-1)).any (λi=>eU f (l.getD i 0) (l.getD (i+1) 0))=true:=aaO.2 ⟨k,zH.2 (by omega),by grind⟩
     rw[this]at h;exact .less (by repeat (first|exact ab.le_refl _|assumption|refine ab.fK ?_ (by assumption)|refine ab.nM ?_ (by assumption))) (.done h)
   simp[x,v];refine⟨by omega,U _ (by omega) ⟨_,_,rfl,(by repeat (first|exact ab.le_refl _|assumption|refine ab.fK ?_ (by assumption)|refine ab.nM ?_ (by assumption))),by simp[r],by simp[w],by simp,λi hi=>?_⟩⟩
   grind
 have g2:¬(k:Int)+1<l.length:=by omega
 have:(List.range (l.length-1)).any (λi=>eU f (l.getD i 0) (l.getD (i+1) 0))=false:=by grind
 rw[this]at h;apply rn;simp[w,x,g2];exact .less q (.done h)
theorem YA:(((prog.info? 260).bind λi=>i.methods.find? (·.name==  "palfrey/mark.breaks")).map λmt=>(mt.path,mt.func))=some (#[],some (241,false)):=by kernel_rfl
theorem YB:(((prog.info? 261).bind λi=>i.methods.find? (·.name==  "palfrey/mark.breaks")).map λmt=>(mt.path,mt.func))=some (#[],some (242,false)):=by kernel_rfl
theorem YC:(((prog.info? 262).bind λi=>i.methods.find? (·.name==  "palfrey/mark.breaks")).map λmt=>(mt.path,mt.func))=some (#[],some (245,false)):=by kernel_rfl
theorem Vf{a}:qQ prog 260  "palfrey/mark.breaks" 241 a a:=by obtain⟨mt,b,e⟩:=aaD.1 YA;obtain⟨info,c,d⟩:=adT.1 b;obtain⟨f,g⟩:=Prod.mk.inj e;exact uH lay Yi c d (by rw[f]) g rfl
theorem Vg{a}:qQ prog 261  "palfrey/mark.breaks" 242 a a:=by obtain⟨mt,b,e⟩:=aaD.1 YB;obtain⟨info,c,d⟩:=adT.1 b;obtain⟨f,g⟩:=Prod.mk.inj e;exact uH lay Yj c d (by rw[f]) g rfl
theorem Vh{a}:qQ prog 262  "palfrey/mark.breaks" 245 a a:=by obtain⟨mt,b,e⟩:=aaD.1 YC;obtain⟨info,c,d⟩:=adT.1 b;obtain⟨f,g⟩:=Prod.mk.inj e;exact uH lay Yk c d (by rw[f]) g rfl
def aM(f:Fr)(l:afe):afe:=(dJ (λa b=>decide (xl f a b<0)) l).reverse
def jT(f:Fr)(l:afe):Int:=if dK f (aM f l)then 1 else if cO f (aM f l)then 2 else if bG f (aM f l)then 3 else 0
abbrev YD(n:Int):AV:=if n=1 then .ou 260 (.agg [])else if n=2 then .ou 261 (.agg [])else if n=3 then .ou 262 (.agg [])else .lit .nilIface
theorem Rv.sort{f l}(h:Rv f l):Rv f (aM f l):=
 ⟨fun n a=>h.mem n ((te _ _ _).1 (by simpa[aM]using a)),λe=>h.ne (by
   have:(aM f l).length=l.length:=by simp[aM,ly]
   grind),by simp[aM,ly,h.len]⟩
theorem Vi{b mb f l}(y:f.Good)(v:Rv f l)(d:l.length<20)(h:KF (.val (YD (jT f l))) σ):aB prog m 126 [oq b mb f 0,ints l] σ KF:=by
 have t:=v.sort;refine fs [] Tryz.func126 rfl (by kernel_rfl) ?_;simp[Tryz.f126];refine bO.intro λc B=>?_
 simp;refine cf Tryz.func168 rfl (SU Pp v.mem d v.ne ⟨rfl,rfl⟩ ?_);obtain⟨S,z⟩:∃S,S=(dJ (λa b=>decide (xl f a b<0)) l).reverse:=⟨_,rfl⟩;have r:aM f l=S:=z.symm;rw[r]at t;unfold jT at h;rw[r]at h;rw[<-z];apply rn;simp;refine aa.loop 3 (λk s=>∃env j,s=⟨env,j,[],.no⟩/\σ.Le j/\env 1=ints S/\env 2=.cp (oq b mb f 0) 0/\env 19=.sl 1 [.ou 260 (.agg []),.ou 261 (.agg []),.ou 262 (.agg [])] .exact/\env 20=int 3/\env 21=int k/\(1<=k->dK f S=false)/\(2<=k->cO f S=false)/\(3<=k->bG f S=false)) ⟨_,_,rfl,ab.jW (ab.le_refl _) B,by simp⟩ ?_;rintro E k _ F ⟨env,j,rfl,e,o,p,i,d,g,w,A,C⟩ x;obtain rfl|rfl|rfl|rfl:k=0\/k=1\/k=2\/k=3:=by omega
 . apply rn
   simp[o,p,i,d,g];refine aa.invoke rfl rfl rfl (by simp) rfl Vf Tryz.func241 rfl rfl ?_;refine IX t ?_;apply rn;simp;cases hb:dK f S
   . simp[g]
     refine x _ (by omega) ⟨_,_,rfl,e,?_,?_,?_,?_,?_,λ_=>hb,λq=>(by omega),λq=>(by omega)⟩<;>simp[o,p,i,d]
   simp;simp[hb]at h;exact .less e (.done h)
 . have n:=w (by omega)
   apply rn;simp[o,p,i,d,g];refine aa.invoke rfl rfl rfl (by simp) rfl Vg Tryz.func242 rfl rfl ?_;refine IY y t ?_;apply rn;simp;cases hb:cO f S
   . simp[g]
     refine x _ (by omega) ⟨_,_,rfl,e,?_,?_,?_,?_,?_,λ_=>n,λ_=>hb,λq=>(by omega)⟩<;>simp[o,p,i,d]
   simp;simp[hb,n]at h;exact .less e (.done h)
 . have n:=w (by omega)
   have u:=A (by omega);apply rn;simp[o,p,i,d,g];refine aa.invoke rfl rfl rfl (by simp) rfl Vh Tryz.func245 rfl rfl ?_;refine IZ y t ?_;apply rn;simp;cases hb:bG f S
   . simp[g]
     refine x _ (by omega) ⟨_,_,rfl,e,?_,?_,?_,?_,?_,λ_=>n,λ_=>u,λ_=>hb⟩<;>simp[o,p,i,d]
   simp;simp[hb,n,u]at h;exact .less e (.done h)
 have n:=w (by omega);have u:=A (by omega);have D:=C (by omega);simp[n,u,D]at h;apply rn;simp[d,g];exact .less e (.done h)
end
open Go Go.bN
abbrev nn:FY:=⟨104,105,142,143,174,176,130,131,144,129,173,175,190,191,193,194,196,270,222,21⟩
theorem Pr:∀(a:Fl) b o kind,aW prog a [0,5] (LD prog nn b o kind) un=some (wP prog nn b o kind):=by intro a b o kind;kernel_rfl
theorem Ps:∀(a:Fl) b o kind,aW prog a [0] (wP prog nn b o kind) tt=some (TF prog nn b o kind):=by intro a b o kind;kernel_rfl
theorem Pt:∀(a:Fl) b o kind,aW prog a [0,2,3,4,5,12] (wP prog nn b o kind) ff=some (Y1 prog nn b o kind):=by intro a b o kind;kernel_rfl
theorem Pu:∀(a:Fl) b o kind,aW prog a [8] (TF prog nn b o kind) un=some (V7 prog nn b o kind):=by intro a b o kind;kernel_rfl
theorem Pv:∀(a:Fl) b o kind,aW prog a [9] (V7 prog nn b o kind) (pt b o)=some (TG prog nn b o kind):=by intro a b o kind;kernel_rfl
theorem Pw:∀(a:Fl) b o kind,aW prog a [] (TG prog nn b o kind) un=some (BK nn kind):=by intro a b o kind;kernel_rfl
theorem L5:∀(a:Fl) b o kind L K S aw sv it,sH prog a [0,2,3,4,5,6] (UI prog nn b o kind aw sv it) (.word L K S 0)=some (HD prog nn b o kind L K S aw sv it):=by intro a b o kind L K S aw sv it;kernel_rfl
theorem L6:∀(a:Fl) b o kind L K S aw sv it,sH prog a [0,2,3,4,5,6] (JL prog nn b o kind aw sv it) (.word L K S 0)=some (HD prog nn b o kind L K S aw sv it):=by intro a b o kind L K S aw sv it;kernel_rfl
theorem L7:∀(a:Fl) b o kind L K S aw sv it,sH prog a [0,2,3,4,5,6] (UJ prog nn b o kind aw sv it) (.word L K S 0)=some (HD prog nn b o kind L K S aw sv it):=by intro a b o kind L K S aw sv it;kernel_rfl
theorem Px:∀(a:Fl) b o kind K aw sv it,Xh prog a [0,2,3,4,5,6,17,18] (HD prog nn b o kind true K false aw sv it)=SQ prog nn b o kind K aw sv it:=by intro a b o kind K aw sv it;cases K<;>cases aw<;>cases sv<;>kernel_rfl
theorem Py:∀(a:Fl) b o kind L K S aw sv it,(L && !S)=false->(aw && !K)=false->Xh prog a [0,2,3,4,5,6,77,78,79] (HD prog nn b o kind L K S aw sv it)=F0 prog nn b o kind L K S aw sv it:=by intro a b o kind L K S aw sv it c d;cases L<;>cases K<;>cases S<;>cases aw<;>cases sv<;>first|exact absurd c (by decide)|exact absurd d (by decide)|kernel_rfl
theorem L8:∀(a:Fl) b o kind it,aW prog {a with n0:=false} [0,2,3,4,5,33,36,37,39] (SQ prog nn b o kind false false false it) tt=some (SW prog nn b o kind it):=by intro a b o kind it;kernel_rfl
theorem I0:∀(a:Fl) b o kind n0 K aw sv it,(!aw && !K && !n0)=false->aW prog {a with n0:=n0} [0,2,3,4,5] (SQ prog nn b o kind K aw sv it) tt=some (DS prog nn b o kind aw sv it):=by intro a b o kind n0 K aw sv it h;cases n0<;>cases K<;>cases aw<;>cases sv<;>first|exact absurd h (by decide)|kernel_rfl
theorem L9:∀(a:Fl) b o kind K aw sv it,(aw && !K)=false->aW prog a [0,2,3,4,5,6,77,78,79] (SQ prog nn b o kind K aw sv it) ff=some (F0 prog nn b o kind true K false aw sv it):=by intro a b o kind K aw sv it h;cases K<;>cases aw<;>cases sv<;>first|exact absurd h (by decide)|kernel_rfl
theorem Ma:∀(a:Fl) b o kind r it,aW prog a [0,2,3,4,5] (SW prog nn b o kind it) (bl r)=some (DS prog nn b o kind r false it):=by intro a b o kind r it;cases r<;>kernel_rfl
theorem I1:∀(a:Fl) b o kind aw sv,aW prog a [0,2,3,4,5,47] (DS prog nn b o kind aw sv 0) un=some (JL prog nn b o kind aw sv 1):=by intro a b o kind aw sv;kernel_rfl
theorem I2:∀(a:Fl) b o kind aw sv,aW prog a [0,2,3,4,5,47] (DS prog nn b o kind aw sv 1) un=some (JL prog nn b o kind aw sv 2):=by intro a b o kind aw sv;kernel_rfl
theorem I3:∀(a:Fl) b o kind aw sv,aW prog a [0,2,3,4,5,47] (DS prog nn b o kind aw sv 2) un=some (JL prog nn b o kind aw sv 3):=by intro a b o kind aw sv;kernel_rfl
theorem I4:∀(a:Fl) b o kind aw sv,aW prog a [0,2,3,4,5,47] (DS prog nn b o kind aw sv 3) un=some (JL prog nn b o kind aw sv 4):=by intro a b o kind aw sv;kernel_rfl
theorem Mb:∀(a:Fl) b o kind K aw sv it,aW prog a [0] (F0 prog nn b o kind false K false aw sv it) tt=some (Ro prog nn b o kind):=by intro a b o kind K aw sv it;cases K<;>kernel_rfl
theorem I5:∀(a:Fl) b o kind L K S aw sv it,(L||S)=true->aW prog {a with wz:=true} [0,3] (F0 prog nn b o kind L K S aw sv it) tt=some (T1 prog nn b o kind sv):=by intro a b o kind L K S aw sv it h;cases L<;>cases K<;>cases S<;>first|exact absurd h (by decide)|kernel_rfl
theorem I6:∀(a:Fl) b o kind L K S aw sv it,(L||S)=true->aW prog {a with wz:=false} [0,2,3,91] (F0 prog nn b o kind L K S aw sv it) tt=some (PK prog nn b o kind sv):=by intro a b o kind L K S aw sv it h;cases L<;>cases K<;>cases S<;>first|exact absurd h (by decide)|kernel_rfl
theorem Mc:∀(a:Fl) b o kind L K S aw sv it,aW prog a [0,2,3,4,5,133] (F0 prog nn b o kind L K S aw sv it) ff=some (UJ prog nn b o kind aw sv it):=by intro a b o kind L K S aw sv it;kernel_rfl
theorem Me:∀(a:Fl) b o kind sv,aW prog a [0,2,3,91] (T1 prog nn b o kind sv) .K7=some (PK prog nn b o kind sv):=by intro a b o kind sv;kernel_rfl
theorem I7:∀(a:Fl) b o kind,aW prog a [0,2,3,103] (PK prog nn b o kind true) un=some (UP prog nn b o kind true):=by intro a b o kind;kernel_rfl
theorem I8:∀(a:Fl) b o kind,aW prog a [0,2,95] (PK prog nn b o kind false) un=some (TQ prog nn b o kind):=by intro a b o kind;kernel_rfl
theorem Mf:∀(a:Fl) b o kind x,aW prog {a with tb:=x} [0,2,3,103] (TQ prog nn b o kind) .now=some (UP prog nn b o kind x):=by intro a b o kind x;cases x<;>kernel_rfl
theorem Mg:∀(a:Fl) b o kind sv n1,aW prog {a with n0:=false,n1:=n1} [0,128,129] (UP prog nn b o kind sv) (.word false false true 0)=some (AD prog nn b o kind (if !sv||n1 then -11 else -7)):=by intro a b o kind sv n1;cases sv<;>cases n1<;>kernel_rfl
theorem Mh:∀(a:Fl) b o kind L K sv,sH prog a [0,2,3,4,5,6] (UP prog nn b o kind sv) (.word L K false 0)=some (HD prog nn b o kind L K false true sv 0):=by intro a b o kind L K sv;cases L<;>cases K<;>kernel_rfl
theorem Mi:∀(a:Fl) b o kind d,aW prog a [0] (AD prog nn b o kind d) .cX=some (Ro prog nn b o kind):=by intro a b o kind d;kernel_rfl
theorem Mj:∀(a:Fl) b o kind,aW prog a [136] (Ro prog nn b o kind) un=some (V8 prog nn b o kind):=by intro a b o kind;kernel_rfl
theorem Mk:∀(a:Fl) b o kind,aW prog a [137] (V8 prog nn b o kind) (pt b o)=some (TJ prog nn b o kind):=by intro a b o kind;kernel_rfl
theorem Ml:∀(a:Fl) b o kind,aW prog a [] (TJ prog nn b o kind) un=some (BK nn kind):=by intro a b o kind;kernel_rfl
theorem Pz:∀(a:Fl) b o kind,aW prog a [0,7] (U0 prog nn b o kind) .cX=some (V9 prog nn b o kind):=by intro a b o kind;kernel_rfl
theorem PA:∀(a:Fl) b o kind,aW prog a [0,8] (V9 prog nn b o kind) (pt b o)=some (UR prog nn b o kind):=by intro a b o kind;kernel_rfl
theorem PB:∀(a:Fl) b o kind,aW prog a [0] (UR prog nn b o kind) un=some (UD prog nn b o kind):=by intro a b o kind;kernel_rfl
theorem PC:∀(a:Fl) b o kind,aW prog a [0,13] (UD prog nn b o kind) un=some (uC prog nn b o kind):=by intro a b o kind;kernel_rfl
theorem PD:∀(a:Fl) b o kind n0 K,(n0||K)=true->aW prog {a with n0:=n0} [] (uC prog nn b o kind) (.word false K false 0)=some (UE prog nn b o kind):=by intro a b o kind n0 K h;cases n0<;>cases K<;>first|exact absurd h (by decide)|kernel_rfl
theorem Mm:∀(a:Fl) b o kind n0 K,aW prog {a with n0:=n0} [41] (uC prog nn b o kind) (.word false K true 0)=some (G9 prog nn b o kind):=by intro a b o kind n0 K;cases n0<;>cases K<;>kernel_rfl
theorem Mn:∀(a:Fl) b o kind,aW prog {a with n0:=false} [0,27,28,29] (uC prog nn b o kind) (.word false false false 0)=some (UC prog nn b o kind):=by intro a b o kind;kernel_rfl
theorem Mp:∀(a:Fl) b o kind,aW prog a [33] (UC prog nn b o kind) tt=some (G7 prog nn b o kind):=by intro a b o kind;kernel_rfl
theorem Mq:∀(a:Fl) b o kind,aW prog a [0,37] (UC prog nn b o kind) ff=some (Rq prog nn b o kind):=by intro a b o kind;kernel_rfl
theorem PE:∀(a:Fl) b o kind n0 L K S,(n0||L||K||S)=true->aW prog {a with n0:=n0} [] (Rq prog nn b o kind) (.word L K S 0)=some (UE prog nn b o kind):=by intro a b o kind n0 L K S h;cases n0<;>cases L<;>cases K<;>cases S<;>first|exact absurd h (by decide)|kernel_rfl
theorem Mr:∀(a:Fl) b o kind,aW prog {a with n0:=false} [0,27,28,29] (Rq prog nn b o kind) (.word false false false 0)=some (UC prog nn b o kind):=by intro a b o kind;kernel_rfl
theorem PF:∀(a:Fl) b o kind,aW prog a [] (G7 prog nn b o kind) un=some (UE prog nn b o kind):=by intro a b o kind;kernel_rfl
theorem PG:∀(a:Fl) b o kind,aW prog a [] (G9 prog nn b o kind) un=some (UE prog nn b o kind):=by intro a b o kind;kernel_rfl
theorem Ms:∀(a:Fl) b o kind,aW prog a [] (UE prog nn b o kind) un=some (Xp nn kind):=by intro a b o kind;kernel_rfl
theorem PH:∀b o kind,bn (LD prog nn b o kind).1=some (nn.kO,[])/\(LD prog nn b o kind).1.kind=.normal:=by intro b o kind;exact⟨by kernel_rfl,by kernel_rfl⟩
theorem PI:∀b o kind,bn (wP prog nn b o kind).1=some (nn.my,[pt b o,i32 0,i32 1]):=by intro b o kind;kernel_rfl
theorem PJ:∀b o kind,bn (TF prog nn b o kind).1=some (nn.en,[]):=by intro b o kind;kernel_rfl
theorem PL:∀b o kind,mE (V7 prog nn b o kind).1=some (nn.tM,nn.tU,pt b o):=by intro b o kind;kernel_rfl
theorem PM:∀b o kind,bn (TG prog nn b o kind).1=some (nn.acq,[pt b o]):=by intro b o kind;kernel_rfl
theorem Mt:∀b o kind aw sv it,tJ (UI prog nn b o kind aw sv it).1=some (nn.tI,pt b o):=by intro b o kind aw sv it;kernel_rfl
theorem Mw:∀b o kind aw sv it,tJ (JL prog nn b o kind aw sv it).1=some (nn.tI,pt b o):=by intro b o kind aw sv it;kernel_rfl
theorem Mx:∀b o kind aw sv it,tJ (UJ prog nn b o kind aw sv it).1=some (nn.tI,pt b o):=by intro b o kind aw sv it;kernel_rfl
theorem PN:∀b o kind K aw sv it,bn (SQ prog nn b o kind K aw sv it).1=some (nn.K9,[i64 it]):=by intro b o kind K aw sv it;kernel_rfl
theorem PO:∀b o kind it,bn (SW prog nn b o kind it).1=some (nn.my,[pt b o,.word true false false 0,.word true true false 0]):=by intro b o kind it;kernel_rfl
theorem PQ:∀b o kind aw sv it,bn (DS prog nn b o kind aw sv it).1=some (nn.wO,[]):=by intro b o kind aw sv it;kernel_rfl
theorem My:∀b o kind L K S aw sv it,bn (F0 prog nn b o kind L K S aw sv it).1=some (nn.my,[pt b o,.word L K S 0,R2 L K S aw sv]):=by intro b o kind L K S aw sv it;kernel_rfl
theorem Mz:∀b o kind sv,bn (T1 prog nn b o kind sv).1=some (nn.nano,[]):=by intro b o kind sv;kernel_rfl
theorem MA:∀b o kind sv,bn (PK prog nn b o kind sv).1=some (nn.H7,[pt b (o+1),.cX,i64 2]):=by intro b o kind sv;kernel_rfl
theorem MB:∀b o kind,bn (TQ prog nn b o kind).1=some (nn.nano,[]):=by intro b o kind;kernel_rfl
theorem MC:∀b o kind sv,tJ (UP prog nn b o kind sv).1=some (nn.tI,pt b o):=by intro b o kind sv;kernel_rfl
theorem MD:∀b o kind d,bn (AD prog nn b o kind d).1=some (nn.add,[pt b o,i32 d]):=by intro b o kind d;kernel_rfl
theorem ME:∀b o kind,bn (Ro prog nn b o kind).1=some (nn.en,[]):=by intro b o kind;kernel_rfl
theorem MF:∀b o kind,mE (V8 prog nn b o kind).1=some (nn.tM,nn.tU,pt b o):=by intro b o kind;kernel_rfl
theorem MG:∀b o kind,bn (TJ prog nn b o kind).1=some (nn.acq,[pt b o]):=by intro b o kind;kernel_rfl
theorem MH:∀b o kind,tJ (U0 prog nn b o kind).1=some (nn.tI,pt b o)/\(U0 prog nn b o kind).1.kind=.normal/\(U0 prog nn b o kind).1.fn=nn.yF:=by intro b o kind;exact⟨by kernel_rfl,by kernel_rfl,by kernel_rfl⟩
theorem MI:∀b o kind,mE (V9 prog nn b o kind).1=some (nn.tM,nn.tU,pt b o):=by intro b o kind;kernel_rfl
theorem MJ:∀b o kind,bn (UR prog nn b o kind).1=some (nn.rel,[pt b o]):=by intro b o kind;kernel_rfl
theorem MK:∀b o kind,bn (UD prog nn b o kind).1=some (nn.kO,[]):=by intro b o kind;kernel_rfl
theorem ML:∀b o kind,bn (uC prog nn b o kind).1=some (nn.add,[pt b o,i32 (-1)]):=by intro b o kind;kernel_rfl
theorem MM:∀b o kind,bn (UC prog nn b o kind).1=some (nn.my,[pt b o,wf,.word false true false (-1)]):=by intro b o kind;kernel_rfl
theorem MN:∀b o kind,bn (G7 prog nn b o kind).1=some (nn.qU,[pt b (o+1),ff,i64 2]):=by intro b o kind;kernel_rfl
theorem MO:∀b o kind,bn (G9 prog nn b o kind).1=some (nn.qU,[pt b (o+1),tt,i64 2]):=by intro b o kind;kernel_rfl
theorem MP:∀b o kind,tJ (Rq prog nn b o kind).1=some (nn.tI,pt b o):=by intro b o kind;kernel_rfl
theorem MQ:∀b o kind,bn (UE prog nn b o kind).1=some (nn.en,[]):=by intro b o kind;kernel_rfl
theorem PR:∀b o kind,(Xm prog nn b o kind).all (·.env.all plain)=true/\(LD prog nn b o kind).1.env.all plain=true/\(LD prog nn b o kind).2=Xm prog nn b o kind:=by intro b o kind;exact⟨by kernel_rfl,by kernel_rfl,by kernel_rfl⟩
theorem PS:∀b o kind,(Y0 prog nn b o kind).all (·.env.all plain)=true:=by intro b o kind;kernel_rfl
theorem PT:∀b o kind,(Xo prog nn b o kind).all (·.env.all plain)=true/\(U0 prog nn b o kind).1.env.all plain=true/\(U0 prog nn b o kind).2=Xo prog nn b o kind:=by intro b o kind;exact⟨by kernel_rfl,by kernel_rfl,by kernel_rfl⟩
theorem PU:∀b o kind,(Zs prog nn b o kind).all (·.env.all plain)=true:=by intro b o kind;kernel_rfl
theorem C4:iH prog nn where
 e1:=Pr
 e2:=Ps
 e3:=Pt
 e4:=Pu
 e5:=Pv
 e6:=Pw
 e70:=L5
 UK:=L6
 e72:=L7
 e8:=Px
 e9:=Py
 cu:=L8
 Xq:=I0
 bH:=L9
 fa:=Ma
 H9:=I1
 Ia:=I2
 Xr:=I3
 Xs:=I4
 BB:=Mb
 Xt:=I5
 Xu:=I6
 Eb:=Mc
 Ad:=Me
 Xv:=I7
 Xw:=I8
 wo:=Mf
 R3:=Mg
 BR:=Mh
 yG:=Mi
 yH:=Mj
 Nd:=Mk
 yI:=Ml
 u1:=Pz
 u2:=PA
 u3:=PB
 u4:=PC
 u5:=PD
 u5g:=Mm
 u5c:=Mn
 u6t:=Mp
 u6f:=Mq
 u7:=PE
 u7c:=Mr
 u8:=PF
 u9:=PG
 u10:=Ms
 o1:=PH
 o2:=PI
 o3:=PJ
 o4:=PL
 o5:=PM
 o60:=Mt
 o61:=Mw
 o62:=Mx
 o7:=PN
 o8:=PO
 o9:=PQ
 Zt:=My
 o11:=Mz
 Zu:=MA
 o13:=MB
 o14:=MC
 o15:=MD
 o16:=ME
 o17:=MF
 o18:=MG
 Zv:=MH
 o21:=MI
 o22:=MJ
 o23:=MK
 Zw:=ML
 Zx:=MM
 Zy:=MN
 Zz:=MO
 o28:=MP
 o29:=MQ
 p1:=PR
 p2:=PS
 p3:=PT
 p4:=PU
theorem C5:iI prog nn where
 kO:=⟨_,rfl,rfl,rfl,rfl,rfl⟩
 en:=⟨_,rfl,rfl,rfl,rfl,rfl⟩
 acq:=⟨_,rfl,rfl,rfl,rfl,rfl⟩
 rel:=⟨_,rfl,rfl,rfl,rfl,rfl⟩
 my:=⟨_,rfl,rfl,rfl,rfl,rfl⟩
 add:=⟨_,rfl,rfl,rfl,rfl,rfl⟩
 K9:=⟨_,rfl,rfl,rfl,rfl,rfl⟩
 wO:=⟨_,rfl,rfl,rfl,rfl,rfl⟩
 nano:=⟨_,rfl,rfl,rfl,rfl,rfl⟩
 Od:=⟨_,rfl,rfl⟩
 H7:=⟨_,rfl,rfl,rfl,rfl,rfl⟩
 qU:=⟨_,rfl,rfl,rfl,rfl,rfl⟩
 Xx:=by kernel_rfl
 tyM:=⟨_,rfl,rfl,rfl⟩
 nS:=⟨_,rfl,rfl⟩
 nU:=⟨_,rfl,rfl⟩
 nV:=⟨_,rfl,rfl⟩

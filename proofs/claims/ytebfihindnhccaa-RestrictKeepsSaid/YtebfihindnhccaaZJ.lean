/- This program's types; a slice compared with nil; from a contract to the given statement. -/
/- The shapes of this program's types. -/
import Derived.Test.YtebfihindnhccaaZI
import Derived.Test.YtebfihindnhccaaChecked
import Derived.Laws.Cover3
import Derived.Carry
import Derived.SizedLaws
import Derived.OpenShut
set_option linter.unusedVariables false
set_option linter.unusedSimpArgs false
section
namespace Go.Proofs.Ytebfihindnhccaa.Fw
open Go
abbrev T1:Ty:=.ref 1
abbrev T2:Ty:=.int .i64
abbrev T3:Ty:=.int .i64
abbrev T4:Ty:=.bool
abbrev T5:Ty:=.int .u8
abbrev T9:Ty:=.str
abbrev T12:Ty:=.int .u64
abbrev T21:Ty:=.int .i32
abbrev T31:Ty:=.ref 1
abbrev T32:Ty:=.ref 1
abbrev T33:Ty:=.ref 1
abbrev T35:Ty:=.ref 1
abbrev T36:Ty:=.ref 1
abbrev T37:Ty:=.ref 1
abbrev T38:Ty:=.ref 1
abbrev T39:Ty:=.ref 1
abbrev T41:Ty:=.slice T3
abbrev T42:Ty:=.agg (.prod T41 (T41))
abbrev T43:Ty:=.ref 1
abbrev T44:Ty:=.ref 1
abbrev T45:Ty:=.ref 1
abbrev T46:Ty:=.ref 1
abbrev T47:Ty:=.slice T41
abbrev T48:Ty:=.ref 1
abbrev T49:Ty:=.ref 1
abbrev T50:Ty:=.ref 1
abbrev T51:Ty:=.ref 1
abbrev T52:Ty:=.int .i64
abbrev T54:Ty:=.ref 1
abbrev T55:Ty:=.ref 1
abbrev T57:Ty:=.ref 1
abbrev T58:Ty:=.ref 1
abbrev T59:Ty:=.ref 1
abbrev T63:Ty:=.ref 1
abbrev T64:Ty:=.ref 1
abbrev T65:Ty:=.ref 0
abbrev T69:Ty:=.ref 1
abbrev T70:Ty:=.ref 1
abbrev T72:Ty:=.ref 1
abbrev T73:Ty:=.ref 1
abbrev T74:Ty:=.ref 1
abbrev T76:Ty:=.ref 1
abbrev T77:Ty:=.agg (.prod T3 (T3))
abbrev T78:Ty:=.agg (.prod T3 (T3))
abbrev T80:Ty:=.ref 1
abbrev T81:Ty:=.ref 1
abbrev T82:Ty:=.ref 1
abbrev T83:Ty:=.ref 2
abbrev T84:Ty:=.agg (.prod T3 (T3))
abbrev T85:Ty:=.agg (.prod T3 (T3))
abbrev T86:Ty:=.ref 1
abbrev T87:Ty:=.ref 1
abbrev T88:Ty:=.ref 1
abbrev T89:Ty:=.ref 1
abbrev T92:Ty:=.ref 1
abbrev T95:Ty:=.ref 1
abbrev T100:Ty:=.ref 1
abbrev T105:Ty:=.ref 1
abbrev T106:Ty:=.slice T9
abbrev T110:Ty:=.ref 1
abbrev T111:Ty:=.agg (.prod T9 (T9))
abbrev T112:Ty:=.agg (.prod T9 (T9))
abbrev T113:Ty:=.agg (.prod T3 (T3))
abbrev T114:Ty:=.slice T113
abbrev T115:Ty:=.ref 1
abbrev T116:Ty:=.ref 1
abbrev T117:Ty:=.ref 1
abbrev T118:Ty:=.ref 1
abbrev T119:Ty:=.ref 1
abbrev T120:Ty:=.ref 1
abbrev T121:Ty:=.ref 1
abbrev T122:Ty:=.ref 1
abbrev T123:Ty:=.ref 2
abbrev T124:Ty:=.ref 1
abbrev T125:Ty:=.ref 1
abbrev T127:Ty:=.ref 1
abbrev T128:Ty:=.ref 1
abbrev T129:Ty:=.agg (.prod T3 (T3))
abbrev T130:Ty:=.agg (.prod T3 (T3))
abbrev T132:Ty:=.ref 1
abbrev T133:Ty:=.ref 1
abbrev T134:Ty:=.ref 1
abbrev T135:Ty:=.ref 1
abbrev T136:Ty:=.ref 1
abbrev T138:Ty:=.ref 1
abbrev T139:Ty:=.ref 1
abbrev T140:Ty:=.agg (.prod T9 (T3))
abbrev T141:Ty:=.agg (.prod T9 (T3))
abbrev T142:Ty:=.ref 1
abbrev T143:Ty:=.ref 1
abbrev T144:Ty:=.ref 1
abbrev T145:Ty:=.ref 1
abbrev T146:Ty:=.ref 1
abbrev T147:Ty:=.ref 0
abbrev T150:Ty:=.ref 1
abbrev T151:Ty:=.ref 1
abbrev T152:Ty:=.ref 1
abbrev T153:Ty:=.ref 1
abbrev T154:Ty:=.ref 1
abbrev T155:Ty:=.ref 1
abbrev T156:Ty:=.ref 1
abbrev T157:Ty:=.ref 1
abbrev T158:Ty:=.ref 1
abbrev T159:Ty:=.ref 1
abbrev T161:Ty:=.ref 1
abbrev T162:Ty:=.ref 1
abbrev T163:Ty:=.ref 1
abbrev T164:Ty:=.ref 1
abbrev T165:Ty:=.ref 1
abbrev T166:Ty:=.int .u64
abbrev T167:Ty:=.ref 1
abbrev T168:Ty:=.ref 1
abbrev T169:Ty:=.slice T4
abbrev T170:Ty:=.ref 1
abbrev T171:Ty:=.ref 2
abbrev T172:Ty:=.ref 1
abbrev T173:Ty:=.ref 1
abbrev T174:Ty:=.ref 1
abbrev T175:Ty:=.ref 1
abbrev T176:Ty:=.ref 1
abbrev T177:Ty:=.ref 1
abbrev T178:Ty:=.ref 1
abbrev T179:Ty:=.ref 1
abbrev T180:Ty:=.int .u64
abbrev T181:Ty:=.ref 1
abbrev T182:Ty:=.ref 1
abbrev T183:Ty:=.ref 1
abbrev T184:Ty:=.ref 1
abbrev T185:Ty:=.ref 1
abbrev T186:Ty:=.ref 1
abbrev T187:Ty:=.ref 1
abbrev T188:Ty:=.ref 1
abbrev T189:Ty:=.ref 1
abbrev T190:Ty:=.ref 1
abbrev T191:Ty:=.ref 1
abbrev T192:Ty:=.ref 1
abbrev T193:Ty:=.ref 1
abbrev T194:Ty:=.int .i64
abbrev T196:Ty:=.ref 1
abbrev T197:Ty:=.ref 1
abbrev T198:Ty:=.ref 1
abbrev T199:Ty:=.ref 1
abbrev T200:Ty:=.ref 1
abbrev T201:Ty:=.int .u32
abbrev T202:Ty:=.ref 1
abbrev T203:Ty:=.int .u64
abbrev T204:Ty:=.ref 1
abbrev T205:Ty:=.ref 1
abbrev T206:Ty:=.ref 1
abbrev T207:Ty:=.ref 0
abbrev T208:Ty:=.ref 1
abbrev T209:Ty:=.ref 0
abbrev T211:Ty:=.ref 1
abbrev T212:Ty:=.ref 1
abbrev T218:Ty:=.ref 1
abbrev T221:Ty:=.ref 1
abbrev T222:Ty:=.ref 0
abbrev T28:Ty:=.slice T141
abbrev T60:Ty:=.slice T78
abbrev T61:Ty:=.agg (.prod T3 (T60))
abbrev T62:Ty:=.agg (.prod T3 (T60))
abbrev T66:Ty:=.slice T60
abbrev T96:Ty:=.slice T166
abbrev T97:Ty:=.slice T166
abbrev T98:Ty:=.agg (.prod T9 (T97))
abbrev T99:Ty:=.agg (.prod T9 (T97))
abbrev T101:Ty:=.slice T130
abbrev T102:Ty:=.agg (.prod T9 (.prod T97 (.prod T41 (T101))))
abbrev T103:Ty:=.agg (.prod T9 (.prod T97 (.prod T41 (T101))))
abbrev T107:Ty:=.slice T112
abbrev T108:Ty:=.agg (.prod T9 (.prod T106 (T107)))
abbrev T109:Ty:=.agg (.prod T9 (.prod T106 (T107)))
abbrev T131:Ty:=.slice T97
abbrev T22:Ty:=.slice T109
abbrev T23:Ty:=.slice T62
abbrev T24:Ty:=.agg (T23)
abbrev T25:Ty:=.agg (T23)
abbrev T26:Ty:=.agg (.prod T25 (.prod T25 (T25)))
abbrev T27:Ty:=.slice T103
abbrev T29:Ty:=.agg (.prod T27 (T28))
abbrev T30:Ty:=.agg (.prod T27 (T28))
abbrev T40:Ty:=.agg (.prod T25 (T25))
abbrev T56:Ty:=.slice T25
abbrev T67:Ty:=.agg (.prod T30 (.prod T41 (.prod T41 (T66))))
abbrev T68:Ty:=.agg (.prod T30 (.prod T41 (.prod T41 (T66))))
abbrev T90:Ty:=.slice T101
abbrev T93:Ty:=.slice T99
abbrev T148:Ty:=.agg (.prod T25 (.prod T41 (T41)))
abbrev T149:Ty:=.agg (.prod T25 (.prod T41 (T41)))
set_option maxRecDepth 100000
def tyTab:List (Nat×TI):=[(1,⟨T1,[],0,8⟩),
 (2,⟨T2,[],0,8⟩),
 (3,⟨T3,[],0,8⟩),
 (4,⟨T4,[],0,1⟩),
 (5,⟨T5,[],0,1⟩),
 (9,⟨T9,[],0,16⟩),
 (12,⟨T12,[],0,8⟩),
 (21,⟨T21,[],0,4⟩),
 (22,⟨T22,[],109,24⟩),
 (23,⟨T23,[],62,24⟩),
 (24,⟨T24,[(0,1)],0,24⟩),
 (25,⟨T25,[(0,1)],0,24⟩),
 (26,⟨T26,[(0,1),(1,1),(2,1)],25,72⟩),
 (27,⟨T27,[],103,24⟩),
 (28,⟨T28,[],141,24⟩),
 (29,⟨T29,[(0,1),(1,1)],0,48⟩),
 (30,⟨T30,[(0,1),(1,1)],0,48⟩),
 (31,⟨T31,[],0,8⟩),
 (32,⟨T32,[],0,8⟩),
 (33,⟨T33,[],0,8⟩),
 (35,⟨T35,[],0,8⟩),
 (36,⟨T36,[],0,8⟩),
 (37,⟨T37,[],0,8⟩),
 (38,⟨T38,[],0,8⟩),
 (39,⟨T39,[],0,8⟩),
 (40,⟨T40,[(0,1),(1,1)],25,48⟩),
 (41,⟨T41,[],3,24⟩),
 (42,⟨T42,[(0,1),(1,1)],41,48⟩),
 (43,⟨T43,[],0,8⟩),
 (44,⟨T44,[],0,8⟩),
 (45,⟨T45,[],0,8⟩),
 (46,⟨T46,[],0,8⟩),
 (47,⟨T47,[],41,24⟩),
 (48,⟨T48,[],0,8⟩),
 (49,⟨T49,[],0,8⟩),
 (50,⟨T50,[],0,8⟩),
 (51,⟨T51,[],0,8⟩),
 (52,⟨T52,[],0,8⟩),
 (54,⟨T54,[],0,8⟩),
 (55,⟨T55,[],0,8⟩),
 (56,⟨T56,[],25,24⟩),
 (57,⟨T57,[],0,8⟩),
 (58,⟨T58,[],0,8⟩),
 (59,⟨T59,[],0,8⟩),
 (60,⟨T60,[],78,24⟩),
 (61,⟨T61,[(0,1),(1,1)],0,32⟩),
 (62,⟨T62,[(0,1),(1,1)],0,32⟩),
 (63,⟨T63,[],0,8⟩),
 (64,⟨T64,[],0,8⟩),
 (65,⟨T65,[],0,8⟩),
 (66,⟨T66,[],60,24⟩),
 (67,⟨T67,[(0,2),(2,1),(3,1),(4,1)],0,120⟩),
 (68,⟨T68,[(0,2),(2,1),(3,1),(4,1)],0,120⟩),
 (69,⟨T69,[],0,8⟩),
 (70,⟨T70,[],0,8⟩),
 (72,⟨T72,[],0,8⟩),
 (73,⟨T73,[],0,8⟩),
 (74,⟨T74,[],0,8⟩),
 (76,⟨T76,[],0,8⟩),
 (77,⟨T77,[(0,1),(1,1)],0,16⟩),
 (78,⟨T78,[(0,1),(1,1)],0,16⟩),
 (80,⟨T80,[],0,8⟩),
 (81,⟨T81,[],0,8⟩),
 (82,⟨T82,[],0,8⟩),
 (83,⟨T83,[(85,4)],0,8⟩),
 (84,⟨T84,[(0,1),(1,1)],0,16⟩),
 (85,⟨T85,[(0,1),(1,1)],0,16⟩),
 (86,⟨T86,[],0,8⟩),
 (87,⟨T87,[],0,8⟩),
 (88,⟨T88,[],0,8⟩),
 (89,⟨T89,[],0,8⟩),
 (90,⟨T90,[],101,24⟩),
 (92,⟨T92,[],0,8⟩),
 (93,⟨T93,[],99,24⟩),
 (95,⟨T95,[],0,8⟩),
 (96,⟨T96,[],166,24⟩),
 (97,⟨T97,[],166,24⟩),
 (98,⟨T98,[(0,1),(1,1)],0,40⟩),
 (99,⟨T99,[(0,1),(1,1)],0,40⟩),
 (100,⟨T100,[],0,8⟩),
 (101,⟨T101,[],130,24⟩),
 (102,⟨T102,[(0,1),(1,1),(2,1),(3,1)],0,88⟩),
 (103,⟨T103,[(0,1),(1,1),(2,1),(3,1)],0,88⟩),
 (105,⟨T105,[],0,8⟩),
 (106,⟨T106,[],9,24⟩),
 (107,⟨T107,[],112,24⟩),
 (108,⟨T108,[(0,1),(1,1),(2,1)],0,64⟩),
 (109,⟨T109,[(0,1),(1,1),(2,1)],0,64⟩),
 (110,⟨T110,[],0,8⟩),
 (111,⟨T111,[(0,1),(1,1)],0,32⟩),
 (112,⟨T112,[(0,1),(1,1)],0,32⟩),
 (113,⟨T113,[(0,1),(1,1)],3,16⟩),
 (114,⟨T114,[],113,24⟩),
 (115,⟨T115,[],0,8⟩),
 (116,⟨T116,[],0,8⟩),
 (117,⟨T117,[],0,8⟩),
 (118,⟨T118,[],0,8⟩),
 (119,⟨T119,[],0,8⟩),
 (120,⟨T120,[],0,8⟩),
 (121,⟨T121,[],0,8⟩),
 (122,⟨T122,[],0,8⟩),
 (123,⟨T123,[(3,4)],0,8⟩),
 (124,⟨T124,[],0,8⟩),
 (125,⟨T125,[],0,8⟩),
 (127,⟨T127,[],0,8⟩),
 (128,⟨T128,[],0,8⟩),
 (129,⟨T129,[(0,1),(1,1)],0,16⟩),
 (130,⟨T130,[(0,1),(1,1)],0,16⟩),
 (131,⟨T131,[],97,24⟩),
 (132,⟨T132,[],0,8⟩),
 (133,⟨T133,[],0,8⟩),
 (134,⟨T134,[],0,8⟩),
 (135,⟨T135,[],0,8⟩),
 (136,⟨T136,[],0,8⟩),
 (138,⟨T138,[],0,8⟩),
 (139,⟨T139,[],0,8⟩),
 (140,⟨T140,[(0,1),(1,1)],0,24⟩),
 (141,⟨T141,[(0,1),(1,1)],0,24⟩),
 (142,⟨T142,[],0,8⟩),
 (143,⟨T143,[],0,8⟩),
 (144,⟨T144,[],0,8⟩),
 (145,⟨T145,[],0,8⟩),
 (146,⟨T146,[],0,8⟩),
 (147,⟨T147,[],0,8⟩),
 (148,⟨T148,[(0,1),(1,1),(2,1)],0,72⟩),
 (149,⟨T149,[(0,1),(1,1),(2,1)],0,72⟩),
 (150,⟨T150,[],0,8⟩),
 (151,⟨T151,[],0,8⟩),
 (152,⟨T152,[],0,8⟩),
 (153,⟨T153,[],0,8⟩),
 (154,⟨T154,[],0,8⟩),
 (155,⟨T155,[],0,8⟩),
 (156,⟨T156,[],0,8⟩),
 (157,⟨T157,[],0,8⟩),
 (158,⟨T158,[],0,8⟩),
 (159,⟨T159,[],0,8⟩),
 (161,⟨T161,[],0,8⟩),
 (162,⟨T162,[],0,8⟩),
 (163,⟨T163,[],0,8⟩),
 (164,⟨T164,[],0,8⟩),
 (165,⟨T165,[],0,8⟩),
 (166,⟨T166,[],0,8⟩),
 (167,⟨T167,[],0,8⟩),
 (168,⟨T168,[],0,8⟩),
 (169,⟨T169,[],4,24⟩),
 (170,⟨T170,[],0,8⟩),
 (171,⟨T171,[(3,3)],0,8⟩),
 (172,⟨T172,[],0,8⟩),
 (173,⟨T173,[],0,8⟩),
 (174,⟨T174,[],0,8⟩),
 (175,⟨T175,[],0,8⟩),
 (176,⟨T176,[],0,8⟩),
 (177,⟨T177,[],0,8⟩),
 (178,⟨T178,[],0,8⟩),
 (179,⟨T179,[],0,8⟩),
 (180,⟨T180,[],0,8⟩),
 (181,⟨T181,[],0,8⟩),
 (182,⟨T182,[],0,8⟩),
 (183,⟨T183,[],0,8⟩),
 (184,⟨T184,[],0,8⟩),
 (185,⟨T185,[],0,8⟩),
 (186,⟨T186,[],0,8⟩),
 (187,⟨T187,[],0,8⟩),
 (188,⟨T188,[],0,8⟩),
 (189,⟨T189,[],0,8⟩),
 (190,⟨T190,[],0,8⟩),
 (191,⟨T191,[],0,8⟩),
 (192,⟨T192,[],0,8⟩),
 (193,⟨T193,[],0,8⟩),
 (194,⟨T194,[],0,8⟩),
 (196,⟨T196,[],0,8⟩),
 (197,⟨T197,[],0,8⟩),
 (198,⟨T198,[],0,8⟩),
 (199,⟨T199,[],0,8⟩),
 (200,⟨T200,[],0,8⟩),
 (201,⟨T201,[],0,4⟩),
 (202,⟨T202,[],0,8⟩),
 (203,⟨T203,[],0,8⟩),
 (204,⟨T204,[],0,8⟩),
 (205,⟨T205,[],0,8⟩),
 (206,⟨T206,[],0,8⟩),
 (207,⟨T207,[],0,8⟩),
 (208,⟨T208,[],0,8⟩),
 (209,⟨T209,[],0,8⟩),
 (211,⟨T211,[],0,8⟩),
 (212,⟨T212,[],0,8⟩),
 (218,⟨T218,[],0,8⟩),
 (221,⟨T221,[],0,8⟩),
 (222,⟨T222,[],0,8⟩)]
theorem tyTab_ok (f) (pu:List Nat:=[]) (ne:List (Nat×TypeId):=[]):TbOk Try.prog ⟨tyTab,f,pu,ne⟩:=tbOk_of (by kernel_rfl)
theorem drawsAny:Try.prog.follows .mixedOrders=true:=by kernel_rfl
theorem ty1:lk 1 tyTab=some ⟨T1,[],0,8⟩:=rfl
theorem ty2:lk 2 tyTab=some ⟨T2,[],0,8⟩:=rfl
theorem ty3:lk 3 tyTab=some ⟨T3,[],0,8⟩:=rfl
theorem ty4:lk 4 tyTab=some ⟨T4,[],0,1⟩:=rfl
theorem ty5:lk 5 tyTab=some ⟨T5,[],0,1⟩:=rfl
theorem ty9:lk 9 tyTab=some ⟨T9,[],0,16⟩:=rfl
theorem ty12:lk 12 tyTab=some ⟨T12,[],0,8⟩:=rfl
theorem ty21:lk 21 tyTab=some ⟨T21,[],0,4⟩:=rfl
theorem ty22:lk 22 tyTab=some ⟨T22,[],109,24⟩:=rfl
theorem ty23:lk 23 tyTab=some ⟨T23,[],62,24⟩:=rfl
theorem ty24:lk 24 tyTab=some ⟨T24,[(0,1)],0,24⟩:=rfl
theorem ty25:lk 25 tyTab=some ⟨T25,[(0,1)],0,24⟩:=rfl
theorem ty26:lk 26 tyTab=some ⟨T26,[(0,1),(1,1),(2,1)],25,72⟩:=rfl
theorem ty27:lk 27 tyTab=some ⟨T27,[],103,24⟩:=rfl
theorem ty28:lk 28 tyTab=some ⟨T28,[],141,24⟩:=rfl
theorem ty29:lk 29 tyTab=some ⟨T29,[(0,1),(1,1)],0,48⟩:=rfl
theorem ty30:lk 30 tyTab=some ⟨T30,[(0,1),(1,1)],0,48⟩:=rfl
theorem ty31:lk 31 tyTab=some ⟨T31,[],0,8⟩:=rfl
theorem ty32:lk 32 tyTab=some ⟨T32,[],0,8⟩:=rfl
theorem ty33:lk 33 tyTab=some ⟨T33,[],0,8⟩:=rfl
theorem ty35:lk 35 tyTab=some ⟨T35,[],0,8⟩:=rfl
theorem ty36:lk 36 tyTab=some ⟨T36,[],0,8⟩:=rfl
theorem ty37:lk 37 tyTab=some ⟨T37,[],0,8⟩:=rfl
theorem ty38:lk 38 tyTab=some ⟨T38,[],0,8⟩:=rfl
theorem ty39:lk 39 tyTab=some ⟨T39,[],0,8⟩:=rfl
theorem ty40:lk 40 tyTab=some ⟨T40,[(0,1),(1,1)],25,48⟩:=rfl
theorem ty41:lk 41 tyTab=some ⟨T41,[],3,24⟩:=rfl
theorem ty42:lk 42 tyTab=some ⟨T42,[(0,1),(1,1)],41,48⟩:=rfl
theorem ty43:lk 43 tyTab=some ⟨T43,[],0,8⟩:=rfl
theorem ty44:lk 44 tyTab=some ⟨T44,[],0,8⟩:=rfl
theorem ty45:lk 45 tyTab=some ⟨T45,[],0,8⟩:=rfl
theorem ty46:lk 46 tyTab=some ⟨T46,[],0,8⟩:=rfl
theorem ty47:lk 47 tyTab=some ⟨T47,[],41,24⟩:=rfl
theorem ty48:lk 48 tyTab=some ⟨T48,[],0,8⟩:=rfl
theorem ty49:lk 49 tyTab=some ⟨T49,[],0,8⟩:=rfl
theorem ty50:lk 50 tyTab=some ⟨T50,[],0,8⟩:=rfl
theorem ty51:lk 51 tyTab=some ⟨T51,[],0,8⟩:=rfl
theorem ty52:lk 52 tyTab=some ⟨T52,[],0,8⟩:=rfl
theorem ty54:lk 54 tyTab=some ⟨T54,[],0,8⟩:=rfl
theorem ty55:lk 55 tyTab=some ⟨T55,[],0,8⟩:=rfl
theorem ty56:lk 56 tyTab=some ⟨T56,[],25,24⟩:=rfl
theorem ty57:lk 57 tyTab=some ⟨T57,[],0,8⟩:=rfl
theorem ty58:lk 58 tyTab=some ⟨T58,[],0,8⟩:=rfl
theorem ty59:lk 59 tyTab=some ⟨T59,[],0,8⟩:=rfl
theorem ty60:lk 60 tyTab=some ⟨T60,[],78,24⟩:=rfl
theorem ty61:lk 61 tyTab=some ⟨T61,[(0,1),(1,1)],0,32⟩:=rfl
theorem ty62:lk 62 tyTab=some ⟨T62,[(0,1),(1,1)],0,32⟩:=rfl
theorem ty63:lk 63 tyTab=some ⟨T63,[],0,8⟩:=rfl
theorem ty64:lk 64 tyTab=some ⟨T64,[],0,8⟩:=rfl
theorem ty65:lk 65 tyTab=some ⟨T65,[],0,8⟩:=rfl
theorem ty66:lk 66 tyTab=some ⟨T66,[],60,24⟩:=rfl
theorem ty67:lk 67 tyTab=some ⟨T67,[(0,2),(2,1),(3,1),(4,1)],0,120⟩:=rfl
theorem ty68:lk 68 tyTab=some ⟨T68,[(0,2),(2,1),(3,1),(4,1)],0,120⟩:=rfl
theorem ty69:lk 69 tyTab=some ⟨T69,[],0,8⟩:=rfl
theorem ty70:lk 70 tyTab=some ⟨T70,[],0,8⟩:=rfl
theorem ty72:lk 72 tyTab=some ⟨T72,[],0,8⟩:=rfl
theorem ty73:lk 73 tyTab=some ⟨T73,[],0,8⟩:=rfl
theorem ty74:lk 74 tyTab=some ⟨T74,[],0,8⟩:=rfl
theorem ty76:lk 76 tyTab=some ⟨T76,[],0,8⟩:=rfl
theorem ty77:lk 77 tyTab=some ⟨T77,[(0,1),(1,1)],0,16⟩:=rfl
theorem ty78:lk 78 tyTab=some ⟨T78,[(0,1),(1,1)],0,16⟩:=rfl
theorem ty80:lk 80 tyTab=some ⟨T80,[],0,8⟩:=rfl
theorem ty81:lk 81 tyTab=some ⟨T81,[],0,8⟩:=rfl
theorem ty82:lk 82 tyTab=some ⟨T82,[],0,8⟩:=rfl
theorem ty83:lk 83 tyTab=some ⟨T83,[(85,4)],0,8⟩:=rfl
theorem ty84:lk 84 tyTab=some ⟨T84,[(0,1),(1,1)],0,16⟩:=rfl
theorem ty85:lk 85 tyTab=some ⟨T85,[(0,1),(1,1)],0,16⟩:=rfl
theorem ty86:lk 86 tyTab=some ⟨T86,[],0,8⟩:=rfl
theorem ty87:lk 87 tyTab=some ⟨T87,[],0,8⟩:=rfl
theorem ty88:lk 88 tyTab=some ⟨T88,[],0,8⟩:=rfl
theorem ty89:lk 89 tyTab=some ⟨T89,[],0,8⟩:=rfl
theorem ty90:lk 90 tyTab=some ⟨T90,[],101,24⟩:=rfl
theorem ty92:lk 92 tyTab=some ⟨T92,[],0,8⟩:=rfl
theorem ty93:lk 93 tyTab=some ⟨T93,[],99,24⟩:=rfl
theorem ty95:lk 95 tyTab=some ⟨T95,[],0,8⟩:=rfl
theorem ty96:lk 96 tyTab=some ⟨T96,[],166,24⟩:=rfl
theorem ty97:lk 97 tyTab=some ⟨T97,[],166,24⟩:=rfl
theorem ty98:lk 98 tyTab=some ⟨T98,[(0,1),(1,1)],0,40⟩:=rfl
theorem ty99:lk 99 tyTab=some ⟨T99,[(0,1),(1,1)],0,40⟩:=rfl
theorem ty100:lk 100 tyTab=some ⟨T100,[],0,8⟩:=rfl
theorem ty101:lk 101 tyTab=some ⟨T101,[],130,24⟩:=rfl
theorem ty102:lk 102 tyTab=some ⟨T102,[(0,1),(1,1),(2,1),(3,1)],0,88⟩:=rfl
theorem ty103:lk 103 tyTab=some ⟨T103,[(0,1),(1,1),(2,1),(3,1)],0,88⟩:=rfl
theorem ty105:lk 105 tyTab=some ⟨T105,[],0,8⟩:=rfl
theorem ty106:lk 106 tyTab=some ⟨T106,[],9,24⟩:=rfl
theorem ty107:lk 107 tyTab=some ⟨T107,[],112,24⟩:=rfl
theorem ty108:lk 108 tyTab=some ⟨T108,[(0,1),(1,1),(2,1)],0,64⟩:=rfl
theorem ty109:lk 109 tyTab=some ⟨T109,[(0,1),(1,1),(2,1)],0,64⟩:=rfl
theorem ty110:lk 110 tyTab=some ⟨T110,[],0,8⟩:=rfl
theorem ty111:lk 111 tyTab=some ⟨T111,[(0,1),(1,1)],0,32⟩:=rfl
theorem ty112:lk 112 tyTab=some ⟨T112,[(0,1),(1,1)],0,32⟩:=rfl
theorem ty113:lk 113 tyTab=some ⟨T113,[(0,1),(1,1)],3,16⟩:=rfl
theorem ty114:lk 114 tyTab=some ⟨T114,[],113,24⟩:=rfl
theorem ty115:lk 115 tyTab=some ⟨T115,[],0,8⟩:=rfl
theorem ty116:lk 116 tyTab=some ⟨T116,[],0,8⟩:=rfl
theorem ty117:lk 117 tyTab=some ⟨T117,[],0,8⟩:=rfl
theorem ty118:lk 118 tyTab=some ⟨T118,[],0,8⟩:=rfl
theorem ty119:lk 119 tyTab=some ⟨T119,[],0,8⟩:=rfl
theorem ty120:lk 120 tyTab=some ⟨T120,[],0,8⟩:=rfl
theorem ty121:lk 121 tyTab=some ⟨T121,[],0,8⟩:=rfl
theorem ty122:lk 122 tyTab=some ⟨T122,[],0,8⟩:=rfl
theorem ty123:lk 123 tyTab=some ⟨T123,[(3,4)],0,8⟩:=rfl
theorem ty124:lk 124 tyTab=some ⟨T124,[],0,8⟩:=rfl
theorem ty125:lk 125 tyTab=some ⟨T125,[],0,8⟩:=rfl
theorem ty127:lk 127 tyTab=some ⟨T127,[],0,8⟩:=rfl
theorem ty128:lk 128 tyTab=some ⟨T128,[],0,8⟩:=rfl
theorem ty129:lk 129 tyTab=some ⟨T129,[(0,1),(1,1)],0,16⟩:=rfl
theorem ty130:lk 130 tyTab=some ⟨T130,[(0,1),(1,1)],0,16⟩:=rfl
theorem ty131:lk 131 tyTab=some ⟨T131,[],97,24⟩:=rfl
theorem ty132:lk 132 tyTab=some ⟨T132,[],0,8⟩:=rfl
theorem ty133:lk 133 tyTab=some ⟨T133,[],0,8⟩:=rfl
theorem ty134:lk 134 tyTab=some ⟨T134,[],0,8⟩:=rfl
theorem ty135:lk 135 tyTab=some ⟨T135,[],0,8⟩:=rfl
theorem ty136:lk 136 tyTab=some ⟨T136,[],0,8⟩:=rfl
theorem ty138:lk 138 tyTab=some ⟨T138,[],0,8⟩:=rfl
theorem ty139:lk 139 tyTab=some ⟨T139,[],0,8⟩:=rfl
theorem ty140:lk 140 tyTab=some ⟨T140,[(0,1),(1,1)],0,24⟩:=rfl
theorem ty141:lk 141 tyTab=some ⟨T141,[(0,1),(1,1)],0,24⟩:=rfl
theorem ty142:lk 142 tyTab=some ⟨T142,[],0,8⟩:=rfl
theorem ty143:lk 143 tyTab=some ⟨T143,[],0,8⟩:=rfl
theorem ty144:lk 144 tyTab=some ⟨T144,[],0,8⟩:=rfl
theorem ty145:lk 145 tyTab=some ⟨T145,[],0,8⟩:=rfl
theorem ty146:lk 146 tyTab=some ⟨T146,[],0,8⟩:=rfl
theorem ty147:lk 147 tyTab=some ⟨T147,[],0,8⟩:=rfl
theorem ty148:lk 148 tyTab=some ⟨T148,[(0,1),(1,1),(2,1)],0,72⟩:=rfl
theorem ty149:lk 149 tyTab=some ⟨T149,[(0,1),(1,1),(2,1)],0,72⟩:=rfl
theorem ty150:lk 150 tyTab=some ⟨T150,[],0,8⟩:=rfl
theorem ty151:lk 151 tyTab=some ⟨T151,[],0,8⟩:=rfl
theorem ty152:lk 152 tyTab=some ⟨T152,[],0,8⟩:=rfl
theorem ty153:lk 153 tyTab=some ⟨T153,[],0,8⟩:=rfl
theorem ty154:lk 154 tyTab=some ⟨T154,[],0,8⟩:=rfl
theorem ty155:lk 155 tyTab=some ⟨T155,[],0,8⟩:=rfl
theorem ty156:lk 156 tyTab=some ⟨T156,[],0,8⟩:=rfl
theorem ty157:lk 157 tyTab=some ⟨T157,[],0,8⟩:=rfl
theorem ty158:lk 158 tyTab=some ⟨T158,[],0,8⟩:=rfl
theorem ty159:lk 159 tyTab=some ⟨T159,[],0,8⟩:=rfl
theorem ty161:lk 161 tyTab=some ⟨T161,[],0,8⟩:=rfl
theorem ty162:lk 162 tyTab=some ⟨T162,[],0,8⟩:=rfl
theorem ty163:lk 163 tyTab=some ⟨T163,[],0,8⟩:=rfl
theorem ty164:lk 164 tyTab=some ⟨T164,[],0,8⟩:=rfl
theorem ty165:lk 165 tyTab=some ⟨T165,[],0,8⟩:=rfl
theorem ty166:lk 166 tyTab=some ⟨T166,[],0,8⟩:=rfl
theorem ty167:lk 167 tyTab=some ⟨T167,[],0,8⟩:=rfl
theorem ty168:lk 168 tyTab=some ⟨T168,[],0,8⟩:=rfl
theorem ty169:lk 169 tyTab=some ⟨T169,[],4,24⟩:=rfl
theorem ty170:lk 170 tyTab=some ⟨T170,[],0,8⟩:=rfl
theorem ty171:lk 171 tyTab=some ⟨T171,[(3,3)],0,8⟩:=rfl
theorem ty172:lk 172 tyTab=some ⟨T172,[],0,8⟩:=rfl
theorem ty173:lk 173 tyTab=some ⟨T173,[],0,8⟩:=rfl
theorem ty174:lk 174 tyTab=some ⟨T174,[],0,8⟩:=rfl
theorem ty175:lk 175 tyTab=some ⟨T175,[],0,8⟩:=rfl
theorem ty176:lk 176 tyTab=some ⟨T176,[],0,8⟩:=rfl
theorem ty177:lk 177 tyTab=some ⟨T177,[],0,8⟩:=rfl
theorem ty178:lk 178 tyTab=some ⟨T178,[],0,8⟩:=rfl
theorem ty179:lk 179 tyTab=some ⟨T179,[],0,8⟩:=rfl
theorem ty180:lk 180 tyTab=some ⟨T180,[],0,8⟩:=rfl
theorem ty181:lk 181 tyTab=some ⟨T181,[],0,8⟩:=rfl
theorem ty182:lk 182 tyTab=some ⟨T182,[],0,8⟩:=rfl
theorem ty183:lk 183 tyTab=some ⟨T183,[],0,8⟩:=rfl
theorem ty184:lk 184 tyTab=some ⟨T184,[],0,8⟩:=rfl
theorem ty185:lk 185 tyTab=some ⟨T185,[],0,8⟩:=rfl
theorem ty186:lk 186 tyTab=some ⟨T186,[],0,8⟩:=rfl
theorem ty187:lk 187 tyTab=some ⟨T187,[],0,8⟩:=rfl
theorem ty188:lk 188 tyTab=some ⟨T188,[],0,8⟩:=rfl
theorem ty189:lk 189 tyTab=some ⟨T189,[],0,8⟩:=rfl
theorem ty190:lk 190 tyTab=some ⟨T190,[],0,8⟩:=rfl
theorem ty191:lk 191 tyTab=some ⟨T191,[],0,8⟩:=rfl
theorem ty192:lk 192 tyTab=some ⟨T192,[],0,8⟩:=rfl
theorem ty193:lk 193 tyTab=some ⟨T193,[],0,8⟩:=rfl
theorem ty194:lk 194 tyTab=some ⟨T194,[],0,8⟩:=rfl
theorem ty196:lk 196 tyTab=some ⟨T196,[],0,8⟩:=rfl
theorem ty197:lk 197 tyTab=some ⟨T197,[],0,8⟩:=rfl
theorem ty198:lk 198 tyTab=some ⟨T198,[],0,8⟩:=rfl
theorem ty199:lk 199 tyTab=some ⟨T199,[],0,8⟩:=rfl
theorem ty200:lk 200 tyTab=some ⟨T200,[],0,8⟩:=rfl
theorem ty201:lk 201 tyTab=some ⟨T201,[],0,4⟩:=rfl
theorem ty202:lk 202 tyTab=some ⟨T202,[],0,8⟩:=rfl
theorem ty203:lk 203 tyTab=some ⟨T203,[],0,8⟩:=rfl
theorem ty204:lk 204 tyTab=some ⟨T204,[],0,8⟩:=rfl
theorem ty205:lk 205 tyTab=some ⟨T205,[],0,8⟩:=rfl
theorem ty206:lk 206 tyTab=some ⟨T206,[],0,8⟩:=rfl
theorem ty207:lk 207 tyTab=some ⟨T207,[],0,8⟩:=rfl
theorem ty208:lk 208 tyTab=some ⟨T208,[],0,8⟩:=rfl
theorem ty209:lk 209 tyTab=some ⟨T209,[],0,8⟩:=rfl
theorem ty211:lk 211 tyTab=some ⟨T211,[],0,8⟩:=rfl
theorem ty212:lk 212 tyTab=some ⟨T212,[],0,8⟩:=rfl
theorem ty218:lk 218 tyTab=some ⟨T218,[],0,8⟩:=rfl
theorem ty221:lk 221 tyTab=some ⟨T221,[],0,8⟩:=rfl
theorem ty222:lk 222 tyTab=some ⟨T222,[],0,8⟩:=rfl
end Go.Proofs.Ytebfihindnhccaa.Fw
end
/- A slice held against nil: the answer is open, but where there is an element it is no. -/
section
namespace Go.Proofs.Ytebfihindnhccaa.Fw
open Go Go.RowKit
section
variable {c:Cx} {R:Exit→Act→World→Prop} {k:List Kont} {σ σ':St}
theorem isnil_run {P:Program} {tb:Tb} {t:TypeId} {ti:TI} {e:Ty} (hT:TIok P tb t ti) (hti:ti.ty=.slice e) (w:World) (a:Option Addr) (n m:Nat):(Op.equal t (.slice a n m) (.slice none 0 0)).run P w=.ok a.isNone w:=by
 have h2:=hT.2
 rw [hti] at h2
 exact run_equal_slice_nil w t ti.el a n m h2.1
def isSliceT:Option TI→Bool
 | some ⟨.slice _,_,_,_⟩=>true
 | _=>false
theorem evL_isnil (hc:c.Ok) {ops:Array Oper} {rest:List Oper} {d:Nat} {t:TypeId} {x:Operand} {tt ty:TypeId} {pos:String} {after:Array Edge} {e:Ty} {l:List e.den} (neg:Bool)
  (hx:opv σ x=some (.p (.slice e) l)) (ht:isSliceT (lk t c.tb.ty)=true) (hk:∀ b:Bool,(b=true→l=[])→EvL c R k ops rest (σ.add (.p .bool (if neg then !b else b)) [] (some d))) :
  EvL c R k ops (⟨some d,.binOp (if neg then .neq else .eql) t x (.const (.slice none 0 0)) tt,ty,pos,after,none⟩ :: rest) σ:=by
 intro hd hko a w hsat
 obtain ⟨ρ,hsr⟩:=hsat
 have hev:OpsR (vw w c.O0 σ ρ) σ a.eval:=opv_ok hsr.env
 have hxv:=hev x _ hx
 obtain ⟨cs,⟨ad,m,rfl,h1,h2,h3⟩,hv⟩:=hxv
 have hv:a.eval x=.slice ad (List.length l) m:=hv
 unfold isSliceT at ht
 split at ht
 ·rename_i e' offs el bytes hlk
  have hTI:=hc.T _ _ hlk
  have heq:=isnil_run hTI rfl w ad (List.length l) m
  unfold wpListIn
  rw [if_pos (by simp [Region.wanted])]
  have hrun:(execOp a.eval ⟨some d,.binOp (if neg then .neq else .eql) t x (.const (.slice none 0 0)) tt,ty,pos,after,none⟩).run c.P w=.ok (.value (.bool (if neg then !ad.isNone else ad.isNone))) w:=by
   have hz:a.eval (.const (.slice none 0 0))=.slice none 0 0:=rfl
   cases neg<;>simp [execOp,hv,hz,eqGuard,binOp,heq]
  refine wp_value hrun ?_ (fun cl h=>by cases neg<;>cases h)
  have hb:ad.isNone=true→l=[]:=fun hn=>by
   rcases h3 with h3 | ⟨ad',rfl,_⟩
   ·exact h3
   ·simp at hn
  have hq:QS w c.O0 σ ρ (.p .bool (if neg then !ad.isNone else ad.isNone)) [] (.bool (if neg then !ad.isNone else ad.isNone)) ρ w:=QS.still (bool_vrep _)
  have hs2:=hsr.add hc.K hc.O (dst:=some d) (fun d' hd'=>by cases hd';exact dstOk_spec (hd _ List.mem_cons_self) d rfl) rfl hq
  exact hk ad.isNone hb (fun o ho=>hd o (by simp [ho])) hko _ _ ⟨ρ,hs2⟩
 ·cases ht
end
end Go.Proofs.Ytebfihindnhccaa.Fw
end
/- From a law function's contract to the given statement: the arguments, read as data, are the contract's pure values; the end of the call in the statement's words. -/
section
namespace Go.Proofs.Ytebfihindnhccaa.Fw
open Go Go.RowKit Go.ChangeShapes Go.WideShapes
set_option maxRecDepth 100000
def rdF (r:Ty→TypeId→Bool) (P:Program):Ty→Nat→List Field→Bool
 | .prod a b,o,fs=>match fs with
  | f :: fs=>f.offset == o && P.cellsOf f.type == a.size && r a f.type && rdF r P b (o + a.size) fs
  | []=>false
 | s,o,[f]=>f.offset == o && P.cellsOf f.type == s.size && r s f.type
 | _,_,_=>false
def arrF (P:Program) (m:Nat) (e:TypeId):List Field:=(List.range m).map fun i=>{ (default:Field) with offset:=i * P.cellsOf e,type:=e }
def rd (P:Program):Nat→Ty→TypeId→Bool
 | 0,_,_=>false
 | _ + 1,.int k,t=>isI k (P.underlying t)
 | _ + 1,.bool,t=>match P.underlying t with | some .bool=>true | _=>false
 | _ + 1,.str,t=>match P.underlying t with | some .string=>true | _=>false
 | n + 1,.slice e,t=>match P.underlying t with | some (.slice et)=>decide (0 < P.bytesOf et) && P.cellsOf et == e.size && rd P n e et | _=>false
 | n + 1,.agg s,t=>match P.underlying t with | some (.struct fs)=>P.cellsOf t == s.size && rdF (rd P n) P s 0 fs.toList | some (.array m e)=>P.cellsOf t == s.size && rdF (rd P n) P s 0 (arrF P m e) | _=>false
 | _ + 1,_,_=>false
theorem rd_bool {P:Program} {n:Nat} {t:TypeId} (h:rd P (n + 1) .bool t=true):P.underlying t=some .bool:=by
 simp only [rd] at h
 split at h
 ·assumption
 ·cases h
theorem rd_str {P:Program} {n:Nat} {t:TypeId} (h:rd P (n + 1) .str t=true):P.underlying t=some .string:=by
 simp only [rd] at h
 split at h
 ·assumption
 ·cases h
theorem rd_slice {P:Program} {n:Nat} {e:Ty} {t:TypeId} (h:rd P (n + 1) (.slice e) t=true):∃ et,P.underlying t=some (.slice et)∧0 < P.bytesOf et∧P.cellsOf et=e.size∧rd P n e et=true:=by
 simp only [rd] at h
 split at h
 ·rename_i et hu
  simp only [Bool.and_eq_true,decide_eq_true_eq,beq_iff_eq] at h
  exact ⟨et,hu,h.1.1,h.1.2,h.2⟩
 ·cases h
theorem rd_agg {P:Program} {n:Nat} {s:Ty} {t:TypeId} (h:rd P (n + 1) (.agg s) t=true):(∃ fs,P.underlying t=some (.struct fs)∧P.cellsOf t=s.size∧rdF (rd P n) P s 0 fs.toList=true)∨∃ m e,P.underlying t=some (.array m e)∧P.cellsOf t=s.size∧rdF (rd P n) P s 0 (arrF P m e)=true:=by
 simp only [rd] at h
 split at h
 ·rename_i fs hu
  simp only [Bool.and_eq_true,beq_iff_eq] at h
  exact .inl ⟨fs,hu,h.1,h.2⟩
 ·rename_i m e hu
  simp only [Bool.and_eq_true,beq_iff_eq] at h
  exact .inr ⟨m,e,hu,h.1,h.2⟩
 ·cases h
theorem cells_get {w:World} {base:Nat} {a:Addr} {n:Nat} {cs:List Value} (h:w.cells? base a n=some cs):cs.length=n∧∀ (j:Nat) (v:Value),cs[j]?=some v→w.cell? (a.add j)=some v:=by
 unfold World.cells? at h
 split at h
 ·have h1:=mapM_some_length h
  simp only [List.length_range] at h1
  refine ⟨h1,fun j v hj=>?_⟩
  have hlt:j < n:=by
   obtain ⟨hlt,_⟩:=List.getElem?_eq_some_iff.1 hj
   omega
  rw [mapM_some_get h j j (by simp [hlt]),hj]
 ·cases h
section
variable {H:Type} {enc:TypeId×Value→H} {P:Program} {w:World} {spare:Nat→Bool} {held:Bool}
theorem wAll_mem {e:TypeId}:∀ {l:List (DataW H)} {d:DataW H},d∈l→∀ n∈d.weights P e,n∈DataW.weightsAll P e l
 | a :: l,d,hd,n,hn=>by
  simp only [DataW.weightsAll,List.mem_append]
  rcases List.mem_cons.1 hd with rfl | hd
  ·exact .inl hn
  ·exact .inr (wAll_mem hd n hn)
 | [],_,hd,_,_=>by cases hd
theorem wEach_app {us:List TypeId} {gs:List (DataW H)}:∀ {ts:List TypeId} {ds:List (DataW H)},∀ n∈DataW.weightsEach P ts ds,n∈DataW.weightsEach P (ts++us) (ds++gs)
 | t :: ts,d :: ds,n,hn=>by
  simp only [DataW.weightsEach,List.cons_append,List.mem_append] at hn ⊢
  rcases hn with hn | hn
  ·exact .inl hn
  ·exact .inr (wEach_app n hn)
 | [],_,n,hn=>by simp [DataW.weightsEach] at hn
 | _ :: _,[],n,hn=>by simp [DataW.weightsEach] at hn
theorem wEach_arr {e:TypeId}:∀ {m:Nat} {k:Nat} {ds:List (DataW H)},∀ n∈DataW.weightsEach P (((List.range' k m).map fun i=>({ (default:Field) with offset:=i * P.cellsOf e,type:=e }:Field)).map (·.type)) ds,n∈DataW.weightsAll P e ds
 | 0,_,ds,n,hn=>by simp [DataW.weightsEach] at hn
 | m + 1,k,[],n,hn=>by
  rw [List.range'_succ] at hn
  simp [DataW.weightsEach] at hn
 | m + 1,k,d :: ds,n,hn=>by
  rw [List.range'_succ] at hn
  simp only [List.map_cons,DataW.weightsEach,List.mem_append] at hn
  simp only [DataW.weightsAll,List.mem_append]
  rcases hn with hn | hn
  ·exact .inl hn
  ·exact .inr (wEach_arr n hn)
theorem read_fields {n:Nat} {r:Ty→TypeId→Bool}
  (hr:∀ ty t,r ty t=true→∀ (cs:List Value) (x:DataW H×List MemPlace),DataW.trod enc P w 0 spare held n t cs=some x→(∀ b∈x.1.weights P t,b≤reachBytes)→∃ d:ty.den,Rep w (fun _=>False) ty cs d) (cs:List Value) :
  ∀ (s:Ty) (o:Nat) (fs:List Field),rdF r P s o fs=true→∀ xs:List (DataW H×List MemPlace),xs.length=fs.length →
   (∀ (i:Nat) (f:Field),fs[i]?=some f→DataW.trod enc P w 0 spare held n f.type ((cs.drop f.offset).take (P.cellsOf f.type))=xs[i]?) →
   (∀ b∈DataW.weightsEach P (fs.map (·.type)) (xs.map (·.1)),b≤reachBytes)→∃ d:s.den,Rep w (fun _=>False) s ((cs.drop o).take s.size) d:=by
 have one:∀ (s:Ty) (o:Nat) (f:Field),(f.offset == o && P.cellsOf f.type == s.size && r s f.type)=true→∀ x:DataW H×List MemPlace,
   DataW.trod enc P w 0 spare held n f.type ((cs.drop f.offset).take (P.cellsOf f.type))=some x →
   (∀ b∈x.1.weights P f.type,b≤reachBytes)→∃ d:s.den,Rep w (fun _=>False) s ((cs.drop o).take s.size) d:=by
  intro s o f h x hx hb
  simp only [Bool.and_eq_true,beq_iff_eq] at h
  obtain ⟨⟨rfl,h2⟩,h3⟩:=h
  rw [← h2]
  exact hr s f.type h3 _ x hx hb
 have lone:∀ (s:Ty) (o:Nat) (f:Field),(f.offset == o && P.cellsOf f.type == s.size && r s f.type)=true→∀ xs:List (DataW H×List MemPlace),xs.length=[f].length →
   (∀ (i:Nat) (g:Field),[f][i]?=some g→DataW.trod enc P w 0 spare held n g.type ((cs.drop g.offset).take (P.cellsOf g.type))=xs[i]?) →
   (∀ b∈DataW.weightsEach P ([f].map (·.type)) (xs.map (·.1)),b≤reachBytes)→∃ d:s.den,Rep w (fun _=>False) s ((cs.drop o).take s.size) d:=by
  intro s o f h xs hl hx hb
  obtain ⟨x,rfl⟩:∃ x,xs=[x]:=List.length_eq_one_iff.1 (by simpa using hl)
  exact one s o f h x (hx 0 f rfl) (fun b hb'=>hb b (by simp [DataW.weightsEach,hb']))
 intro s
 induction s with
 | prod a b iha ihb =>
  intro o fs h xs hl hx hb
  cases fs with
  | nil=>simp [rdF] at h
  | cons f fs =>
   simp only [rdF,Bool.and_eq_true] at h
   obtain ⟨⟨⟨h1,h2⟩,h3⟩,h4⟩:=h
   obtain ⟨x,ys,rfl⟩:∃ x ys,xs=x :: ys:=List.exists_cons_of_ne_nil (by intro h;subst h;simp at hl)
   obtain ⟨d1,r1⟩:=one a o f (by simp only [h1,h2,h3,Bool.and_self]) x (hx 0 f rfl) (fun b hb'=>hb b (by
     simp only [List.map_cons,DataW.weightsEach,List.mem_append]
     exact .inl hb'))
   obtain ⟨d2,r2⟩:=ihb (o + a.size) fs h4 ys (by simpa using hl) (fun i g hg=>hx (i + 1) g hg) (fun b hb'=>hb b (by
     simp only [List.map_cons,DataW.weightsEach,List.mem_append]
     exact .inr hb'))
   refine ⟨(d1,d2),(cs.drop o).take a.size,(cs.drop (o + a.size)).take b.size,?_,r1,r2⟩
   show (cs.drop o).take (a.size + b.size)=_
   rw [List.take_add,List.drop_drop]
 | int k=>intro o fs h;match fs,h with | [f],h=>exact lone _ o f (by simpa only [rdF] using h)
 | bool=>intro o fs h;match fs,h with | [f],h=>exact lone _ o f (by simpa only [rdF] using h)
 | str=>intro o fs h;match fs,h with | [f],h=>exact lone _ o f (by simpa only [rdF] using h)
 | slice e _=>intro o fs h;match fs,h with | [f],h=>exact lone _ o f (by simpa only [rdF] using h)
 | agg t _=>intro o fs h;match fs,h with | [f],h=>exact lone _ o f (by simpa only [rdF] using h)
 | ref k=>intro o fs h;match fs,h with | [f],h=>exact lone _ o f (by simpa only [rdF] using h)
theorem read_rep:∀ (k:Nat) (ty:Ty) (t:TypeId),rd P k ty t=true→∀ (n:Nat) (cs:List Value) (x:DataW H×List MemPlace),
  DataW.trod enc P w 0 spare held n t cs=some x→(∀ b∈x.1.weights P t,b≤reachBytes)→∃ d:ty.den,Rep w (fun _=>False) ty cs d:=by
 intro k
 induction k with
 | zero=>intro ty t h;simp [rd] at h
 | succ k ih =>
  intro ty t h n cs x hx hb
  cases ty with
  | int q =>
   have hu:=isI_ok (by simpa only [rd] using h)
   obtain ⟨m,rfl,rfl,hw⟩:=DataW.trod_int hu hx
   simp only [Lit.wf,Bool.and_eq_true,decide_eq_true_eq] at hw
   exact ⟨m,rfl,hw⟩
  | bool =>
   obtain ⟨b,rfl,rfl⟩:=DataW.trod_bool (rd_bool h) hx
   exact ⟨b,rfl⟩
  | str =>
   obtain ⟨b,rfl,rfl,_⟩:=DataW.trod_string (rd_str h) hx
   refine ⟨b,rfl,?_⟩
   have:=hb b.data.toList.length (by simp only [DataW.weights];exact List.mem_cons_self)
   have h2:b.data.toList.length=b.size:=Array.length_toList
   simp only [reachBytes] at this
   simp only [maxN]
   omega
  | slice e =>
   obtain ⟨et,hu,hb0,hce,he⟩:=rd_slice h
   rcases DataW.trod_slice hu hx with ⟨rfl,rfl⟩ | ⟨a,len,cap,elems,rest,m,rfl,rfl,rfl,-,hlc,-,hlen,helems,-,-⟩
   ·exact ⟨[],none,0,rfl,Nat.le_refl _,Nat.zero_le _,.inl rfl⟩
   ·have hsz:len≤maxN:=by
     have h1:=hb ((elems.length + rest.length) * P.bytesOf et) (by simp only [DataW.weights,hu,List.length_map];exact List.mem_cons_self)
     have h2:elems.length + rest.length≤(elems.length + rest.length) * P.bytesOf et:=Nat.le_mul_of_pos_right _ hb0
     simp only [reachBytes] at h1
     simp only [maxN]
     omega
    have hel:∀ i,i < len→∃ d:e.den,∃ es:List Value,es.length=e.size∧(∀ (j:Nat) (v:Value),es[j]?=some v→w.cell? (a.add (i * e.size + j))=some v)∧Rep w (fun _=>False) e es d:=by
     intro i hi
     have h1:=helems i hi
     obtain ⟨x,hx⟩:∃ x,elems[i]?=some x:=⟨_,List.getElem?_eq_getElem (by omega)⟩
     rw [hx] at h1
     obtain ⟨es,h2,h3⟩:=Option.bind_eq_some_iff.1 h1
     obtain ⟨h4,h5⟩:=cells_get h2
     obtain ⟨d,hd⟩:=ih e et he m es x h3 (fun b hb'=>hb b (by
      simp only [DataW.weights,hu]
      exact List.mem_cons_of_mem _ (List.mem_append_left _ (wAll_mem (List.mem_map.2 ⟨x,List.mem_of_getElem? hx,rfl⟩) b hb'))))
     refine ⟨d,es,by rw [h4,hce],fun j v hj=>?_,hd⟩
     have:=h5 j v hj
     rwa [add_of_add,hce] at this
    have hall:∃ ds:List e.den,ds.length=len∧∀ (i:Nat) (d:e.den),ds[i]?=some d→∃ es:List Value,es.length=e.size∧(∀ (j:Nat) (v:Value),es[j]?=some v→w.cell? (a.add (i * e.size + j))=some v)∧Rep w (fun _=>False) e es d:=by
     refine ⟨(List.range len).pmap (fun i hi=>Classical.choose (hel i hi)) (fun i hi=>List.mem_range.1 hi),by simp,fun i d hd=>?_⟩
     rw [List.getElem?_pmap] at hd
     simp only [Option.pmap_eq_some_iff] at hd
     obtain ⟨j,h1,h2,rfl⟩:=hd
     have hij:j=i:=by
      obtain ⟨hlt,he⟩:=List.getElem?_eq_some_iff.1 h2
      simpa using he.symm
     subst hij
     exact Classical.choose_spec (hel j h1)
    obtain ⟨ds,hdl,hds⟩:=hall
    exact ⟨ds,some a,cap,by rw [hdl],by omega,by omega,.inr ⟨a,rfl,fun h=>h,hds⟩⟩
  | agg s =>
   rcases rd_agg h with ⟨fs,hu,hcs,hf⟩ | ⟨q,e,hu,hcs,hf⟩
   ·obtain ⟨xs,m,rfl,rfl,hl,hxl,hxs⟩:=DataW.trod_struct hu hx
    obtain ⟨d,hd⟩:=read_fields (fun ty t hrd cs x hx hb=>ih ty t hrd m cs x hx hb) cs s 0 fs.toList hf xs (by simpa using hxl) (fun i f hi=>hxs i f (by simpa using hi)) (by
     simpa [DataW.weights,hu] using hb)
    refine ⟨d,?_⟩
    show Rep w _ s cs d
    rwa [List.drop_zero,List.take_of_length_le (by omega)] at hd
   ·obtain ⟨xs,m,rfl,rfl,hl,hxl,hxs⟩:=DataW.trod_array hu hx
    obtain ⟨d,hd⟩:=read_fields (fun ty t hrd cs x hx hb=>ih ty t hrd m cs x hx hb) cs s 0 (arrF P q e) hf xs (by simp [arrF,hxl]) (fun i f hi=>by
     unfold arrF at hi
     rw [List.getElem?_map] at hi
     by_cases hiq:i < q
     ·rw [List.getElem?_range hiq] at hi
      have hi:({ (default:Field) with offset:=i * P.cellsOf e,type:=e }:Field)=f:=by simpa using hi
      rw [← hi]
      exact hxs i hiq
     ·rw [List.getElem?_eq_none (by simp;omega)] at hi
      cases hi) (fun b hb'=>hb b (by
     simp only [DataW.weights,hu]
     unfold arrF at hb'
     rw [List.range_eq_range'] at hb'
     exact wEach_arr b hb'))
    refine ⟨d,?_⟩
    show Rep w _ s cs d
    rwa [List.drop_zero,List.take_of_length_le (by omega)] at hd
  | prod a b=>simp [rd] at h
  | ref j=>simp [rd] at h
theorem wrap_of {k:Nat} {ty:Ty} {t:TypeId} {v:Value} {r:Reach} {base:Nat} (h:rd P k ty t=true) (hv:Value.okWide P w r base t v):v=ty.wrap v.cells.toList:=by
 cases k with
 | zero=>simp [rd] at h
 | succ k =>
  cases ty with
  | int q =>
   obtain ⟨n,rfl⟩:=okWide_int (isI_ok (by simpa only [rd] using h)) hv
   rfl
  | bool =>
   obtain ⟨n,rfl⟩:=okWide_bool (rd_bool h) hv
   rfl
  | str =>
   obtain ⟨n,rfl⟩:=okWide_string (rd_str h) hv
   rfl
  | slice e =>
   obtain ⟨et,hu,_⟩:=rd_slice h
   obtain ⟨a,l,c,rfl⟩:=okWide_slice hu hv
   rfl
  | agg s =>
   rcases rd_agg h with ⟨fs,hu,_⟩ | ⟨q,e,hu,_⟩
   ·obtain ⟨cs,rfl,_⟩:=okWide_struct hu hv
    simp [Ty.wrap,Value.cells]
   ·simp only [Value.okWide,hu] at hv
    obtain ⟨cs,rfl,_⟩:=hv
    simp [Ty.wrap,Value.cells]
  | prod a b=>simp [rd] at h
  | ref j=>simp [rd] at h
def rdAll (P:Program):List Ty→List TypeId→Bool
 | [],[]=>true
 | ty :: tys,t :: ts=>rd P 50 ty t && P.readableRec t && decide (t < P.types.size) && rdAll P tys ts
 | _,_=>false
theorem read_all {r:Reach} {base:Nat}:∀ (tys:List Ty) (ts:List TypeId) (vs:List Value) (ds:List (DataW H)) (p:List MemPlace),rdAll P tys ts=true→DataW.TrodAll enc P w 0 spare held ts vs ds p →
  (∀ (j:Nat) (t:TypeId) (v:Value),ts[j]?=some t→vs[j]?=some v→Value.okWide P w r base t v)→(∀ b∈DataW.weightsEach P ts ds,b≤reachBytes)→∃ xs:dens tys,VReps w (fun _=>False) tys vs xs
 | [],[],vs,ds,p,_,h,_,_=>by
  obtain ⟨rfl,_,_⟩:=trodAll_nil h
  exact ⟨(),rfl⟩
 | ty :: tys,t :: ts,vs,ds,p,hrd,h,hv,hb=>by
  simp only [rdAll,Bool.and_eq_true] at hrd
  obtain ⟨⟨⟨h1,_⟩,_⟩,h2⟩:=hrd
  obtain ⟨v,vs',d,ds',p1,q1,rfl,rfl,rfl,⟨n,hd⟩,hrest⟩:=trodAll_cons h
  simp only [DataW.weightsEach,List.mem_append] at hb
  obtain ⟨x,hx⟩:=read_rep 50 ty t h1 n _ _ hd (fun b hb'=>hb b (.inl hb'))
  obtain ⟨xs,hxs⟩:=read_all tys ts vs' ds' q1 h2 hrest (fun j t' v' ht hv'=>hv (j + 1) t' v' ht hv') (fun b hb'=>hb b (.inr hb'))
  exact ⟨(x,xs),v,vs',rfl,⟨_,hx,wrap_of h1 (hv 0 t v rfl rfl)⟩,hxs⟩
 | [],_ :: _,_,_,_,h,_,_,_=>by simp [rdAll] at h
 | _ :: _,[],_,_,_,h,_,_,_=>by simp [rdAll] at h
theorem below_all (hl:laidOutB P=true) {W W':World} (hb:Below W.heap.size W W'):∀ (tys:List Ty) (ts:List TypeId) (vs:List Value) (ds:List (DataW H)) (p:List MemPlace),rdAll P tys ts=true →
  DataW.TrodAll enc P W 0 (fun _=>true) true ts vs ds p→(∀ x∈p,x.block < W.heap.size)→DataW.TrodAll enc P W' 0 (fun b=>decide (b < W.heap.size)) true ts vs ds p
 | [],[],vs,ds,p,_,h,_=>by
  obtain ⟨rfl,rfl,rfl⟩:=trodAll_nil h
  rfl
 | ty :: tys,t :: ts,vs,ds,p,hrd,h,hlt=>by
  simp only [rdAll,Bool.and_eq_true,decide_eq_true_eq] at hrd
  obtain ⟨⟨⟨_,h1⟩,h2⟩,h3⟩:=hrd
  obtain ⟨v,vs',d,ds',p1,q1,rfl,rfl,rfl,hd,hrest⟩:=trodAll_cons h
  exact ⟨p1,q1,Below.trod hl h1 h2 hd hb (fun x hx=>hlt x (List.mem_append_left _ hx)),below_all hl hb tys ts vs' ds' q1 h3 hrest (fun x hx=>hlt x (List.mem_append_right _ hx)),rfl⟩
 | [],_ :: _,_,_,_,h,_,_=>by simp [rdAll] at h
 | _ :: _,[],_,_,_,h,_,_=>by simp [rdAll] at h
end
theorem res_true {w:World} {O:Nat→Prop} {u:Value} {w':World} (h:ResR w O [.p .bool true] u w'):u=.bool true∧Below w.heap.size w w':=by
 obtain ⟨ρ',hq⟩:=h 0
 refine ⟨?_,hq.below⟩
 obtain ⟨cs,h1,h2⟩:VRep _ _ .bool u true:=hq.av
 have h1:cs=[.bool true]:=h1
 rw [h2,h1]
 rfl
theorem law_post {P:Program} {f:FuncId} {fn:Func} {sp:Spec} {s:ChangeSpec} {tb:TypeId} (hok:FnOk P f sp) (hpre:∀ ds,sp.pre ds) (hout:∀ ds,sp.out ds=[.p .bool true])
  (hl:laidOutB P=true) (hrd:rdAll P sp.ins fn.params.toList=true) (hres:fn.resultTypes=#[tb]) (hbool:P.underlying tb=some .bool) (hvars:s.vars=[])
  (hs:∀ (H:Type) (ds:List (DataW H)),ds.length=fn.params.size→(s.fn H ds).results=[.lit (.bool true)]∧(s.fn H ds).args=ds∧(s.fn H ds).vars=[])
  {H:Type} {enc:TypeId×Value→H} {W:World} {base:Nat} {args:Array Value} {ds gs:List (DataW H)} {before:List MemPlace} {us:List TypeId}
  (hval:∀ (j:Nat) t v,fn.params[j]?=some t→args[j]?=some v→Value.okWide P W .any base t v)
  (hW:DataW.Whole enc P fn.params.toList s.vars false W args.toList ds gs before)
  (hsz:(DataW.weightsEach P (fn.params.toList++us) (ds++gs)).all (·≤reachBytes)=true) :
  Calls P f args W fun e W'=>∃ v,e=.returned v∧s.post enc P fn false true false false W args v W':=by
 have hW':=hW
 obtain ⟨p,q,hA,hV,rfl,hfz,hnd⟩:=hW
 rw [hvars] at hV
 obtain ⟨rfl,rfl⟩:=trodVars_none hV
 obtain ⟨xs,hxs⟩:=read_all sp.ins fn.params.toList args.toList ds p hrd hA (fun j t v ht hv=>hval j t v (by simpa using ht) (by simpa using hv))
  (fun b hb=>by simpa using List.all_eq_true.1 hsz b (wEach_app b hb))
 have hlt:∀ x∈p,x.block < W.heap.size:=fun x hx=>by simpa using hW'.lt x (List.mem_append_left _ hx)
 have hlen:ds.length=fn.params.size:=by
  have:∀ (ts:List TypeId) (vs:List Value) (ds:List (DataW H)) (p:List MemPlace),DataW.TrodAll enc P W 0 (fun _=>true) true ts vs ds p→ds.length=ts.length:=by
   intro ts
   induction ts with
   | nil=>intro vs ds p h;obtain ⟨_,rfl,_⟩:=trodAll_nil h;rfl
   | cons t ts ih=>intro vs ds p h;obtain ⟨v,vs',d,ds',p1,q1,rfl,rfl,rfl,_,hr⟩:=trodAll_cons h;simp [ih _ _ _ hr]
  simpa using this _ _ _ _ hA
 have hc:=hok.2 W (fun _=>False) args.toList xs (fun _ h=>h.elim) hxs (hpre xs)
 rw [hout] at hc
 have ea:args.toList.toArray=args:=by simp
 rw [ea] at hc
 refine hc.mono fun e W' ⟨u,he,hu⟩=>?_
 obtain ⟨rfl,hb⟩:=res_true hu
 obtain ⟨e1,e2,e3⟩:=hs H (ds++[]) (by simpa using hlen)
 refine ⟨_,he,_,_,_,[],p,[],hW',?_,?_,?_,hb.frame _,fun h=>by cases h⟩
 ·rw [e1,hres]
  exact trodAll_mk1 (shut_bool hbool _)
 ·rw [e2,List.append_nil]
  exact below_all hl hb sp.ins _ _ _ _ hrd hA hlt
 ·rw [e3,hvars]
  rfl
end Go.Proofs.Ytebfihindnhccaa.Fw
end

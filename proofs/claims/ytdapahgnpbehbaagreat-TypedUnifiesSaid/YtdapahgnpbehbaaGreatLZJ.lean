/- This program's types; a slice compared with nil; from a contract to the given statement. -/
import Derived.Test.YtdapahgnpbehbaaGreatLZI
import Derived.Test.YtdapahgnpbehbaaGreatChecked
import Derived.Laws.Cover3
import Derived.Carry
import Derived.SizedLaws
import Derived.OpenShut
set_option linter.unusedVariables false
set_option linter.unusedSimpArgs false
namespace Go.Proofs.YtdapahgnpbehbaaGreat.Fw
section
open Go
abbrev T1:Ty:=.ref 1
abbrev T2:Ty:=.int .i64
abbrev T3:Ty:=.int .i64
abbrev T4:Ty:=.bool
abbrev T5:Ty:=.int .u8
abbrev T9:Ty:=.str
abbrev T12:Ty:=.int .u64
abbrev T21:Ty:=.int .i32
abbrev T26:Ty:=.ref 1
abbrev T27:Ty:=.ref 1
abbrev T32:Ty:=.ref 1
abbrev WV:Ty:=.int .i64
abbrev T34:Ty:=.ref 1
abbrev T35:Ty:=.ref 1
abbrev T36:Ty:=.ref 1
abbrev T38:Ty:=.ref 1
abbrev T39:Ty:=.ref 1
abbrev T41:Ty:=.ref 1
abbrev T42:Ty:=.ref 1
abbrev T43:Ty:=.ref 1
abbrev T44:Ty:=.ref 1
abbrev T46:Ty:=.ref 1
abbrev T51:Ty:=.ref 1
abbrev T52:Ty:=.agg (.prod T3 (T3))
abbrev BE:Ty:=.agg (.prod T3 (T3))
abbrev T54:Ty:=.ref 1
abbrev T56:Ty:=.ref 1
abbrev T57:Ty:=.ref 1
abbrev T59:Ty:=.ref 1
abbrev GM:Ty:=.slice T3
abbrev T63:Ty:=.ref 1
abbrev T64:Ty:=.ref 1
abbrev T65:Ty:=.ref 1
abbrev T66:Ty:=.ref 1
abbrev T67:Ty:=.ref 1
abbrev T69:Ty:=.ref 1
abbrev T70:Ty:=.ref 1
abbrev T71:Ty:=.ref 1
abbrev T72:Ty:=.ref 0
abbrev T75:Ty:=.ref 1
abbrev T76:Ty:=.ref 1
abbrev T77:Ty:=.ref 1
abbrev T78:Ty:=.ref 1
abbrev T79:Ty:=.ref 1
abbrev T85:Ty:=.ref 1
abbrev T86:Ty:=.agg (.prod T3 (T3))
abbrev T87:Ty:=.agg (.prod T3 (T3))
abbrev T88:Ty:=.ref 1
abbrev T89:Ty:=.ref 1
abbrev T90:Ty:=.ref 1
abbrev T91:Ty:=.ref 1
abbrev T92:Ty:=.ref 1
abbrev T94:Ty:=.ref 1
abbrev T95:Ty:=.ref 2
abbrev T96:Ty:=.ref 1
abbrev T97:Ty:=.ref 1
abbrev T99:Ty:=.ref 1
abbrev A7E:Ty:=.ref 1
abbrev A7F:Ty:=.ref 1
abbrev A7G:Ty:=.ref 1
abbrev CA:Ty:=.slice T9
abbrev A7H:Ty:=.ref 1
abbrev A7I:Ty:=.ref 1
abbrev A7J:Ty:=.ref 1
abbrev A7K:Ty:=.agg (.prod T9 (T3))
abbrev A01:Ty:=.agg (.prod T9 (T3))
abbrev A7L:Ty:=.ref 1
abbrev A7M:Ty:=.ref 1
abbrev A7N:Ty:=.ref 1
abbrev A7O:Ty:=.slice T4
abbrev A7P:Ty:=.ref 0
abbrev A7Q:Ty:=.ref 1
abbrev A7R:Ty:=.ref 1
abbrev A7S:Ty:=.ref 1
abbrev A7T:Ty:=.ref 0
abbrev A7U:Ty:=.ref 1
abbrev A7V:Ty:=.ref 1
abbrev A7W:Ty:=.ref 1
abbrev A7X:Ty:=.ref 1
abbrev A7Y:Ty:=.ref 1
abbrev A7Z:Ty:=.ref 1
abbrev A80:Ty:=.ref 1
abbrev A81:Ty:=.ref 1
abbrev A82:Ty:=.ref 1
abbrev A83:Ty:=.ref 1
abbrev A84:Ty:=.ref 1
abbrev A85:Ty:=.ref 1
abbrev A86:Ty:=.ref 1
abbrev A87:Ty:=.ref 1
abbrev A88:Ty:=.ref 1
abbrev A89:Ty:=.ref 1
abbrev A8a:Ty:=.ref 1
abbrev A8b:Ty:=.ref 1
abbrev A8c:Ty:=.ref 1
abbrev A8d:Ty:=.agg (.prod T9 (T9))
abbrev mN:Ty:=.agg (.prod T9 (T9))
abbrev Pq:Ty:=.int .u64
abbrev A8e:Ty:=.ref 1
abbrev A8f:Ty:=.ref 1
abbrev A8g:Ty:=.ref 1
abbrev A8h:Ty:=.ref 1
abbrev A8i:Ty:=.ref 2
abbrev A8j:Ty:=.ref 1
abbrev A8k:Ty:=.ref 1
abbrev A8l:Ty:=.ref 1
abbrev A8m:Ty:=.ref 1
abbrev A8n:Ty:=.ref 1
abbrev J2:Ty:=.agg (.prod T3 (T3))
abbrev A8o:Ty:=.slice J2
abbrev A8p:Ty:=.ref 1
abbrev A8q:Ty:=.ref 1
abbrev A8r:Ty:=.ref 1
abbrev A8s:Ty:=.ref 1
abbrev A8t:Ty:=.ref 1
abbrev A8u:Ty:=.ref 1
abbrev A8v:Ty:=.ref 1
abbrev A8w:Ty:=.ref 1
abbrev A8x:Ty:=.ref 1
abbrev A8y:Ty:=.ref 1
abbrev A8z:Ty:=.ref 1
abbrev A8A:Ty:=.ref 1
abbrev A8B:Ty:=.ref 1
abbrev A8C:Ty:=.ref 1
abbrev A8D:Ty:=.ref 1
abbrev A8E:Ty:=.ref 1
abbrev A8F:Ty:=.ref 1
abbrev A8G:Ty:=.ref 1
abbrev A8H:Ty:=.ref 1
abbrev A8I:Ty:=.ref 1
abbrev A8J:Ty:=.ref 1
abbrev A8K:Ty:=.ref 1
abbrev A8L:Ty:=.ref 1
abbrev A8M:Ty:=.int .u64
abbrev A8N:Ty:=.ref 1
abbrev A8O:Ty:=.ref 1
abbrev A8P:Ty:=.ref 1
abbrev A8Q:Ty:=.ref 1
abbrev A8R:Ty:=.ref 1
abbrev A8S:Ty:=.ref 1
abbrev A8T:Ty:=.ref 1
abbrev A8U:Ty:=.ref 1
abbrev A8V:Ty:=.ref 1
abbrev A8W:Ty:=.int .i64
abbrev A8X:Ty:=.ref 1
abbrev A8Y:Ty:=.ref 1
abbrev A8Z:Ty:=.ref 1
abbrev A90:Ty:=.ref 1
abbrev A91:Ty:=.ref 1
abbrev A92:Ty:=.int .u32
abbrev A93:Ty:=.ref 1
abbrev A94:Ty:=.ref 1
abbrev A95:Ty:=.ref 1
abbrev A96:Ty:=.int .u64
abbrev A97:Ty:=.ref 1
abbrev A98:Ty:=.ref 1
abbrev A99:Ty:=.ref 1
abbrev A9a:Ty:=.ref 0
abbrev A9b:Ty:=.ref 1
abbrev A9c:Ty:=.ref 0
abbrev A9d:Ty:=.ref 1
abbrev A9e:Ty:=.ref 1
abbrev A9f:Ty:=.ref 1
abbrev A9g:Ty:=.ref 1
abbrev A9h:Ty:=.ref 0
abbrev UZ:Ty:=.slice A01
abbrev Cl:Ty:=.slice BE
abbrev T48:Ty:=.agg (.prod T3 (Cl))
abbrev JD:Ty:=.agg (.prod T3 (Cl))
abbrev T80:Ty:=.slice Pq
abbrev EM:Ty:=.slice Pq
abbrev b4:Ty:=.slice T87
abbrev T83:Ty:=.agg (.prod T9 (.prod EM (.prod GM (b4))))
abbrev T84:Ty:=.agg (.prod T9 (.prod EM (.prod GM (b4))))
abbrev A9i:Ty:=.agg (.prod T9 (EM))
abbrev ZC:Ty:=.agg (.prod T9 (EM))
abbrev b5:Ty:=.slice mN
abbrev A9j:Ty:=.agg (.prod T9 (.prod CA (b5)))
abbrev u3:Ty:=.agg (.prod T9 (.prod CA (b5)))
abbrev A4r:Ty:=.slice Cl
abbrev Sn:Ty:=.slice EM
abbrev FW:Ty:=.slice u3
abbrev Em:Ty:=.slice JD
abbrev T24:Ty:=.agg (Em)
abbrev E9:Ty:=.agg (Em)
abbrev So:Ty:=.slice T84
abbrev T30:Ty:=.agg (.prod So (UZ))
abbrev GN:Ty:=.agg (.prod So (UZ))
abbrev T45:Ty:=.slice b4
abbrev T55:Ty:=.agg (.prod E9 (.prod E9 (E9)))
abbrev T58:Ty:=.slice E9
abbrev T61:Ty:=.agg (.prod E9 (.prod GM (E9)))
abbrev T62:Ty:=.agg (.prod E9 (.prod GM (E9)))
abbrev T73:Ty:=.agg (.prod GN (.prod GM (GM)))
abbrev T74:Ty:=.agg (.prod GN (.prod GM (GM)))
abbrev KV:Ty:=.slice ZC
abbrev A9k:Ty:=.agg (.prod E9 (.prod GM (GM)))
abbrev A9l:Ty:=.agg (.prod E9 (.prod GM (GM)))
abbrev A9m:Ty:=.agg (.prod GN (.prod GM (.prod GM (A4r))))
abbrev A9n:Ty:=.agg (.prod GN (.prod GM (.prod GM (A4r))))
set_option maxRecDepth 100000
def AK:List (Nat×TI):=[(1,⟨T1,[],0,8⟩),
 (2,⟨T2,[],0,8⟩),
 (3,⟨T3,[],0,8⟩),
 (4,⟨T4,[],0,1⟩),
 (5,⟨T5,[],0,1⟩),
 (9,⟨T9,[],0,16⟩),
 (12,⟨T12,[],0,8⟩),
 (21,⟨T21,[],0,4⟩),
 (22,⟨FW,[],111,24⟩),
 (23,⟨Em,[],49,24⟩),
 (24,⟨T24,[(0,1)],0,24⟩),
 (25,⟨E9,[(0,1)],0,24⟩),
 (26,⟨T26,[],0,8⟩),
 (27,⟨T27,[],0,8⟩),
 (28,⟨So,[],84,24⟩),
 (29,⟨UZ,[],116,24⟩),
 (30,⟨T30,[(0,1),(1,1)],0,48⟩),
 (31,⟨GN,[(0,1),(1,1)],0,48⟩),
 (32,⟨T32,[],0,8⟩),
 (33,⟨WV,[],0,8⟩),
 (34,⟨T34,[],0,8⟩),
 (35,⟨T35,[],0,8⟩),
 (36,⟨T36,[],0,8⟩),
 (38,⟨T38,[],0,8⟩),
 (39,⟨T39,[],0,8⟩),
 (41,⟨T41,[],0,8⟩),
 (42,⟨T42,[],0,8⟩),
 (43,⟨T43,[],0,8⟩),
 (44,⟨T44,[],0,8⟩),
 (45,⟨T45,[],82,24⟩),
 (46,⟨T46,[],0,8⟩),
 (47,⟨Cl,[],53,24⟩),
 (48,⟨T48,[(0,1),(1,1)],0,32⟩),
 (49,⟨JD,[(0,1),(1,1)],0,32⟩),
 (51,⟨T51,[],0,8⟩),
 (52,⟨T52,[(0,1),(1,1)],0,16⟩),
 (53,⟨BE,[(0,1),(1,1)],0,16⟩),
 (54,⟨T54,[],0,8⟩),
 (55,⟨T55,[(0,1),(1,1),(2,1)],25,72⟩),
 (56,⟨T56,[],0,8⟩),
 (57,⟨T57,[],0,8⟩),
 (58,⟨T58,[],25,24⟩),
 (59,⟨T59,[],0,8⟩),
 (60,⟨GM,[],3,24⟩),
 (61,⟨T61,[(0,1),(1,1),(2,1)],0,72⟩),
 (62,⟨T62,[(0,1),(1,1),(2,1)],0,72⟩),
 (63,⟨T63,[],0,8⟩),
 (64,⟨T64,[],0,8⟩),
 (65,⟨T65,[],0,8⟩),
 (66,⟨T66,[],0,8⟩),
 (67,⟨T67,[],0,8⟩),
 (69,⟨T69,[],0,8⟩),
 (70,⟨T70,[],0,8⟩),
 (71,⟨T71,[],0,8⟩),
 (72,⟨T72,[],0,8⟩),
 (73,⟨T73,[(0,2),(2,1),(3,1)],0,96⟩),
 (74,⟨T74,[(0,2),(2,1),(3,1)],0,96⟩),
 (75,⟨T75,[],0,8⟩),
 (76,⟨T76,[],0,8⟩),
 (77,⟨T77,[],0,8⟩),
 (78,⟨T78,[],0,8⟩),
 (79,⟨T79,[],0,8⟩),
 (80,⟨T80,[],155,24⟩),
 (81,⟨EM,[],155,24⟩),
 (82,⟨b4,[],87,24⟩),
 (83,⟨T83,[(0,1),(1,1),(2,1),(3,1)],0,88⟩),
 (84,⟨T84,[(0,1),(1,1),(2,1),(3,1)],0,88⟩),
 (85,⟨T85,[],0,8⟩),
 (86,⟨T86,[(0,1),(1,1)],0,16⟩),
 (87,⟨T87,[(0,1),(1,1)],0,16⟩),
 (88,⟨T88,[],0,8⟩),
 (89,⟨T89,[],0,8⟩),
 (90,⟨T90,[],0,8⟩),
 (91,⟨T91,[],0,8⟩),
 (92,⟨T92,[],0,8⟩),
 (94,⟨T94,[],0,8⟩),
 (95,⟨T95,[(3,4)],0,8⟩),
 (96,⟨T96,[],0,8⟩),
 (97,⟨T97,[],0,8⟩),
 (99,⟨T99,[],0,8⟩),
 (100,⟨KV,[],104,24⟩),
 (102,⟨A7E,[],0,8⟩),
 (103,⟨A9i,[(0,1),(1,1)],0,40⟩),
 (104,⟨ZC,[(0,1),(1,1)],0,40⟩),
 (105,⟨A7F,[],0,8⟩),
 (107,⟨A7G,[],0,8⟩),
 (108,⟨CA,[],9,24⟩),
 (109,⟨b5,[],154,24⟩),
 (110,⟨A9j,[(0,1),(1,1),(2,1)],0,64⟩),
 (111,⟨u3,[(0,1),(1,1),(2,1)],0,64⟩),
 (112,⟨A7H,[],0,8⟩),
 (113,⟨A7I,[],0,8⟩),
 (114,⟨A7J,[],0,8⟩),
 (115,⟨A7K,[(0,1),(1,1)],0,24⟩),
 (116,⟨A01,[(0,1),(1,1)],0,24⟩),
 (117,⟨A7L,[],0,8⟩),
 (118,⟨A7M,[],0,8⟩),
 (119,⟨A7N,[],0,8⟩),
 (120,⟨A7O,[],4,24⟩),
 (121,⟨A7P,[],0,8⟩),
 (122,⟨A9k,[(0,1),(1,1),(2,1)],0,72⟩),
 (123,⟨A9l,[(0,1),(1,1),(2,1)],0,72⟩),
 (124,⟨A7Q,[],0,8⟩),
 (125,⟨A7R,[],0,8⟩),
 (126,⟨A7S,[],0,8⟩),
 (127,⟨A7T,[],0,8⟩),
 (128,⟨A4r,[],47,24⟩),
 (129,⟨A9m,[(0,2),(2,1),(3,1),(4,1)],0,120⟩),
 (130,⟨A9n,[(0,2),(2,1),(3,1),(4,1)],0,120⟩),
 (131,⟨A7U,[],0,8⟩),
 (132,⟨A7V,[],0,8⟩),
 (133,⟨A7W,[],0,8⟩),
 (134,⟨A7X,[],0,8⟩),
 (135,⟨A7Y,[],0,8⟩),
 (136,⟨A7Z,[],0,8⟩),
 (137,⟨A80,[],0,8⟩),
 (138,⟨A81,[],0,8⟩),
 (139,⟨A82,[],0,8⟩),
 (140,⟨A83,[],0,8⟩),
 (142,⟨A84,[],0,8⟩),
 (143,⟨A85,[],0,8⟩),
 (144,⟨Sn,[],81,24⟩),
 (145,⟨A86,[],0,8⟩),
 (146,⟨A87,[],0,8⟩),
 (147,⟨A88,[],0,8⟩),
 (148,⟨A89,[],0,8⟩),
 (149,⟨A8a,[],0,8⟩),
 (151,⟨A8b,[],0,8⟩),
 (152,⟨A8c,[],0,8⟩),
 (153,⟨A8d,[(0,1),(1,1)],0,32⟩),
 (154,⟨mN,[(0,1),(1,1)],0,32⟩),
 (155,⟨Pq,[],0,8⟩),
 (156,⟨A8e,[],0,8⟩),
 (157,⟨A8f,[],0,8⟩),
 (158,⟨A8g,[],0,8⟩),
 (159,⟨A8h,[],0,8⟩),
 (160,⟨A8i,[(3,3)],0,8⟩),
 (161,⟨A8j,[],0,8⟩),
 (162,⟨A8k,[],0,8⟩),
 (163,⟨A8l,[],0,8⟩),
 (164,⟨A8m,[],0,8⟩),
 (165,⟨A8n,[],0,8⟩),
 (166,⟨J2,[(0,1),(1,1)],3,16⟩),
 (167,⟨A8o,[],166,24⟩),
 (168,⟨A8p,[],0,8⟩),
 (169,⟨A8q,[],0,8⟩),
 (170,⟨A8r,[],0,8⟩),
 (171,⟨A8s,[],0,8⟩),
 (172,⟨A8t,[],0,8⟩),
 (173,⟨A8u,[],0,8⟩),
 (174,⟨A8v,[],0,8⟩),
 (176,⟨A8w,[],0,8⟩),
 (177,⟨A8x,[],0,8⟩),
 (178,⟨A8y,[],0,8⟩),
 (179,⟨A8z,[],0,8⟩),
 (180,⟨A8A,[],0,8⟩),
 (181,⟨A8B,[],0,8⟩),
 (182,⟨A8C,[],0,8⟩),
 (183,⟨A8D,[],0,8⟩),
 (184,⟨A8E,[],0,8⟩),
 (185,⟨A8F,[],0,8⟩),
 (186,⟨A8G,[],0,8⟩),
 (187,⟨A8H,[],0,8⟩),
 (188,⟨A8I,[],0,8⟩),
 (189,⟨A8J,[],0,8⟩),
 (190,⟨A8K,[],0,8⟩),
 (191,⟨A8L,[],0,8⟩),
 (192,⟨A8M,[],0,8⟩),
 (193,⟨A8N,[],0,8⟩),
 (194,⟨A8O,[],0,8⟩),
 (195,⟨A8P,[],0,8⟩),
 (196,⟨A8Q,[],0,8⟩),
 (197,⟨A8R,[],0,8⟩),
 (198,⟨A8S,[],0,8⟩),
 (199,⟨A8T,[],0,8⟩),
 (200,⟨A8U,[],0,8⟩),
 (201,⟨A8V,[],0,8⟩),
 (202,⟨A8W,[],0,8⟩),
 (204,⟨A8X,[],0,8⟩),
 (205,⟨A8Y,[],0,8⟩),
 (206,⟨A8Z,[],0,8⟩),
 (207,⟨A90,[],0,8⟩),
 (208,⟨A91,[],0,8⟩),
 (209,⟨A92,[],0,4⟩),
 (210,⟨A93,[],0,8⟩),
 (211,⟨A94,[],0,8⟩),
 (212,⟨A95,[],0,8⟩),
 (213,⟨A96,[],0,8⟩),
 (214,⟨A97,[],0,8⟩),
 (215,⟨A98,[],0,8⟩),
 (216,⟨A99,[],0,8⟩),
 (217,⟨A9a,[],0,8⟩),
 (218,⟨A9b,[],0,8⟩),
 (219,⟨A9c,[],0,8⟩),
 (221,⟨A9d,[],0,8⟩),
 (222,⟨A9e,[],0,8⟩),
 (228,⟨A9f,[],0,8⟩),
 (231,⟨A9g,[],0,8⟩),
 (232,⟨A9h,[],0,8⟩)]
theorem tyTab_ok (f) (a:List Nat) (b:List Nat:=[]) (ne:List (Nat×TypeId):=[]):DL Tryz.prog ⟨AK,f,b,ne,a⟩:=A3P (by kernel_rfl)
theorem drawsAny:Tryz.prog.follows .mixedOrders=true:=by kernel_rfl
theorem J3:lk 1 AK=some ⟨T1,[],0,8⟩:=rfl
theorem mO:lk 2 AK=some ⟨T2,[],0,8⟩:=rfl
theorem ty3:lk 3 AK=some ⟨T3,[],0,8⟩:=rfl
theorem ty4:lk 4 AK=some ⟨T4,[],0,1⟩:=rfl
theorem ty5:lk 5 AK=some ⟨T5,[],0,1⟩:=rfl
theorem ty9:lk 9 AK=some ⟨T9,[],0,16⟩:=rfl
theorem A02:lk 12 AK=some ⟨T12,[],0,8⟩:=rfl
theorem A03:lk 21 AK=some ⟨T21,[],0,4⟩:=rfl
theorem A04:lk 22 AK=some ⟨FW,[],111,24⟩:=rfl
theorem A05:lk 23 AK=some ⟨Em,[],49,24⟩:=rfl
theorem A06:lk 24 AK=some ⟨T24,[(0,1)],0,24⟩:=rfl
theorem A07:lk 25 AK=some ⟨E9,[(0,1)],0,24⟩:=rfl
theorem A08:lk 26 AK=some ⟨T26,[],0,8⟩:=rfl
theorem A09:lk 27 AK=some ⟨T27,[],0,8⟩:=rfl
theorem A0a:lk 28 AK=some ⟨So,[],84,24⟩:=rfl
theorem A0b:lk 29 AK=some ⟨UZ,[],116,24⟩:=rfl
theorem A0c:lk 30 AK=some ⟨T30,[(0,1),(1,1)],0,48⟩:=rfl
theorem A0d:lk 31 AK=some ⟨GN,[(0,1),(1,1)],0,48⟩:=rfl
theorem A0e:lk 32 AK=some ⟨T32,[],0,8⟩:=rfl
theorem A0f:lk 33 AK=some ⟨WV,[],0,8⟩:=rfl
theorem A0g:lk 34 AK=some ⟨T34,[],0,8⟩:=rfl
theorem A0h:lk 35 AK=some ⟨T35,[],0,8⟩:=rfl
theorem A0i:lk 36 AK=some ⟨T36,[],0,8⟩:=rfl
theorem A0j:lk 38 AK=some ⟨T38,[],0,8⟩:=rfl
theorem A0k:lk 39 AK=some ⟨T39,[],0,8⟩:=rfl
theorem A0l:lk 41 AK=some ⟨T41,[],0,8⟩:=rfl
theorem A0m:lk 42 AK=some ⟨T42,[],0,8⟩:=rfl
theorem A0n:lk 43 AK=some ⟨T43,[],0,8⟩:=rfl
theorem A0o:lk 44 AK=some ⟨T44,[],0,8⟩:=rfl
theorem A0p:lk 45 AK=some ⟨T45,[],82,24⟩:=rfl
theorem A0q:lk 46 AK=some ⟨T46,[],0,8⟩:=rfl
theorem A0r:lk 47 AK=some ⟨Cl,[],53,24⟩:=rfl
theorem A0s:lk 48 AK=some ⟨T48,[(0,1),(1,1)],0,32⟩:=rfl
theorem A0t:lk 49 AK=some ⟨JD,[(0,1),(1,1)],0,32⟩:=rfl
theorem A0u:lk 51 AK=some ⟨T51,[],0,8⟩:=rfl
theorem A0v:lk 52 AK=some ⟨T52,[(0,1),(1,1)],0,16⟩:=rfl
theorem A0w:lk 53 AK=some ⟨BE,[(0,1),(1,1)],0,16⟩:=rfl
theorem A0x:lk 54 AK=some ⟨T54,[],0,8⟩:=rfl
theorem A0y:lk 55 AK=some ⟨T55,[(0,1),(1,1),(2,1)],25,72⟩:=rfl
theorem A0z:lk 56 AK=some ⟨T56,[],0,8⟩:=rfl
theorem A0A:lk 57 AK=some ⟨T57,[],0,8⟩:=rfl
theorem A0B:lk 58 AK=some ⟨T58,[],25,24⟩:=rfl
theorem A0C:lk 59 AK=some ⟨T59,[],0,8⟩:=rfl
theorem A0D:lk 60 AK=some ⟨GM,[],3,24⟩:=rfl
theorem A0E:lk 61 AK=some ⟨T61,[(0,1),(1,1),(2,1)],0,72⟩:=rfl
theorem A0F:lk 62 AK=some ⟨T62,[(0,1),(1,1),(2,1)],0,72⟩:=rfl
theorem A0G:lk 63 AK=some ⟨T63,[],0,8⟩:=rfl
theorem A0H:lk 64 AK=some ⟨T64,[],0,8⟩:=rfl
theorem A0I:lk 65 AK=some ⟨T65,[],0,8⟩:=rfl
theorem A0J:lk 66 AK=some ⟨T66,[],0,8⟩:=rfl
theorem A0K:lk 67 AK=some ⟨T67,[],0,8⟩:=rfl
theorem A0L:lk 69 AK=some ⟨T69,[],0,8⟩:=rfl
theorem A0M:lk 70 AK=some ⟨T70,[],0,8⟩:=rfl
theorem A0N:lk 71 AK=some ⟨T71,[],0,8⟩:=rfl
theorem A0O:lk 72 AK=some ⟨T72,[],0,8⟩:=rfl
theorem A0P:lk 73 AK=some ⟨T73,[(0,2),(2,1),(3,1)],0,96⟩:=rfl
theorem A0Q:lk 74 AK=some ⟨T74,[(0,2),(2,1),(3,1)],0,96⟩:=rfl
theorem A0R:lk 75 AK=some ⟨T75,[],0,8⟩:=rfl
theorem A0S:lk 76 AK=some ⟨T76,[],0,8⟩:=rfl
theorem A0T:lk 77 AK=some ⟨T77,[],0,8⟩:=rfl
theorem A0U:lk 78 AK=some ⟨T78,[],0,8⟩:=rfl
theorem A0V:lk 79 AK=some ⟨T79,[],0,8⟩:=rfl
theorem A0W:lk 80 AK=some ⟨T80,[],155,24⟩:=rfl
theorem A0X:lk 81 AK=some ⟨EM,[],155,24⟩:=rfl
theorem A0Y:lk 82 AK=some ⟨b4,[],87,24⟩:=rfl
theorem A0Z:lk 83 AK=some ⟨T83,[(0,1),(1,1),(2,1),(3,1)],0,88⟩:=rfl
theorem A10:lk 84 AK=some ⟨T84,[(0,1),(1,1),(2,1),(3,1)],0,88⟩:=rfl
theorem A11:lk 85 AK=some ⟨T85,[],0,8⟩:=rfl
theorem A12:lk 86 AK=some ⟨T86,[(0,1),(1,1)],0,16⟩:=rfl
theorem A13:lk 87 AK=some ⟨T87,[(0,1),(1,1)],0,16⟩:=rfl
theorem A14:lk 88 AK=some ⟨T88,[],0,8⟩:=rfl
theorem A15:lk 89 AK=some ⟨T89,[],0,8⟩:=rfl
theorem A16:lk 90 AK=some ⟨T90,[],0,8⟩:=rfl
theorem A17:lk 91 AK=some ⟨T91,[],0,8⟩:=rfl
theorem A18:lk 92 AK=some ⟨T92,[],0,8⟩:=rfl
theorem A19:lk 94 AK=some ⟨T94,[],0,8⟩:=rfl
theorem A1a:lk 95 AK=some ⟨T95,[(3,4)],0,8⟩:=rfl
theorem A1b:lk 96 AK=some ⟨T96,[],0,8⟩:=rfl
theorem A1c:lk 97 AK=some ⟨T97,[],0,8⟩:=rfl
theorem A1d:lk 99 AK=some ⟨T99,[],0,8⟩:=rfl
theorem b6:lk 100 AK=some ⟨KV,[],104,24⟩:=rfl
theorem b7:lk 102 AK=some ⟨A7E,[],0,8⟩:=rfl
theorem b8:lk 103 AK=some ⟨A9i,[(0,1),(1,1)],0,40⟩:=rfl
theorem b9:lk 104 AK=some ⟨ZC,[(0,1),(1,1)],0,40⟩:=rfl
theorem cA:lk 105 AK=some ⟨A7F,[],0,8⟩:=rfl
theorem cB:lk 107 AK=some ⟨A7G,[],0,8⟩:=rfl
theorem cC:lk 108 AK=some ⟨CA,[],9,24⟩:=rfl
theorem cE:lk 109 AK=some ⟨b5,[],154,24⟩:=rfl
theorem cF:lk 110 AK=some ⟨A9j,[(0,1),(1,1),(2,1)],0,64⟩:=rfl
theorem cG:lk 111 AK=some ⟨u3,[(0,1),(1,1),(2,1)],0,64⟩:=rfl
theorem cH:lk 112 AK=some ⟨A7H,[],0,8⟩:=rfl
theorem cI:lk 113 AK=some ⟨A7I,[],0,8⟩:=rfl
theorem cJ:lk 114 AK=some ⟨A7J,[],0,8⟩:=rfl
theorem cK:lk 115 AK=some ⟨A7K,[(0,1),(1,1)],0,24⟩:=rfl
theorem cL:lk 116 AK=some ⟨A01,[(0,1),(1,1)],0,24⟩:=rfl
theorem cM:lk 117 AK=some ⟨A7L,[],0,8⟩:=rfl
theorem cN:lk 118 AK=some ⟨A7M,[],0,8⟩:=rfl
theorem cO:lk 119 AK=some ⟨A7N,[],0,8⟩:=rfl
theorem cQ:lk 120 AK=some ⟨A7O,[],4,24⟩:=rfl
theorem cR:lk 121 AK=some ⟨A7P,[],0,8⟩:=rfl
theorem cS:lk 122 AK=some ⟨A9k,[(0,1),(1,1),(2,1)],0,72⟩:=rfl
theorem cU:lk 123 AK=some ⟨A9l,[(0,1),(1,1),(2,1)],0,72⟩:=rfl
theorem cV:lk 124 AK=some ⟨A7Q,[],0,8⟩:=rfl
theorem cW:lk 125 AK=some ⟨A7R,[],0,8⟩:=rfl
theorem cX:lk 126 AK=some ⟨A7S,[],0,8⟩:=rfl
theorem cZ:lk 127 AK=some ⟨A7T,[],0,8⟩:=rfl
theorem c5:lk 128 AK=some ⟨A4r,[],47,24⟩:=rfl
theorem c6:lk 129 AK=some ⟨A9m,[(0,2),(2,1),(3,1),(4,1)],0,120⟩:=rfl
theorem c7:lk 130 AK=some ⟨A9n,[(0,2),(2,1),(3,1),(4,1)],0,120⟩:=rfl
theorem c8:lk 131 AK=some ⟨A7U,[],0,8⟩:=rfl
theorem c9:lk 132 AK=some ⟨A7V,[],0,8⟩:=rfl
theorem dA:lk 133 AK=some ⟨A7W,[],0,8⟩:=rfl
theorem dB:lk 134 AK=some ⟨A7X,[],0,8⟩:=rfl
theorem dC:lk 135 AK=some ⟨A7Y,[],0,8⟩:=rfl
theorem dD:lk 136 AK=some ⟨A7Z,[],0,8⟩:=rfl
theorem dE:lk 137 AK=some ⟨A80,[],0,8⟩:=rfl
theorem dF:lk 138 AK=some ⟨A81,[],0,8⟩:=rfl
theorem dG:lk 139 AK=some ⟨A82,[],0,8⟩:=rfl
theorem dH:lk 140 AK=some ⟨A83,[],0,8⟩:=rfl
theorem dI:lk 142 AK=some ⟨A84,[],0,8⟩:=rfl
theorem dJ:lk 143 AK=some ⟨A85,[],0,8⟩:=rfl
theorem dK:lk 144 AK=some ⟨Sn,[],81,24⟩:=rfl
theorem dL:lk 145 AK=some ⟨A86,[],0,8⟩:=rfl
theorem dM:lk 146 AK=some ⟨A87,[],0,8⟩:=rfl
theorem dN:lk 147 AK=some ⟨A88,[],0,8⟩:=rfl
theorem dP:lk 148 AK=some ⟨A89,[],0,8⟩:=rfl
theorem dQ:lk 149 AK=some ⟨A8a,[],0,8⟩:=rfl
theorem dR:lk 151 AK=some ⟨A8b,[],0,8⟩:=rfl
theorem dS:lk 152 AK=some ⟨A8c,[],0,8⟩:=rfl
theorem dT:lk 153 AK=some ⟨A8d,[(0,1),(1,1)],0,32⟩:=rfl
theorem dU:lk 154 AK=some ⟨mN,[(0,1),(1,1)],0,32⟩:=rfl
theorem dV:lk 155 AK=some ⟨Pq,[],0,8⟩:=rfl
theorem dW:lk 156 AK=some ⟨A8e,[],0,8⟩:=rfl
theorem dX:lk 157 AK=some ⟨A8f,[],0,8⟩:=rfl
theorem dY:lk 158 AK=some ⟨A8g,[],0,8⟩:=rfl
theorem dZ:lk 159 AK=some ⟨A8h,[],0,8⟩:=rfl
theorem d3:lk 160 AK=some ⟨A8i,[(3,3)],0,8⟩:=rfl
theorem d4:lk 161 AK=some ⟨A8j,[],0,8⟩:=rfl
theorem d5:lk 162 AK=some ⟨A8k,[],0,8⟩:=rfl
theorem d6:lk 163 AK=some ⟨A8l,[],0,8⟩:=rfl
theorem d7:lk 164 AK=some ⟨A8m,[],0,8⟩:=rfl
theorem d8:lk 165 AK=some ⟨A8n,[],0,8⟩:=rfl
theorem d9:lk 166 AK=some ⟨J2,[(0,1),(1,1)],3,16⟩:=rfl
theorem eB:lk 167 AK=some ⟨A8o,[],166,24⟩:=rfl
theorem eC:lk 168 AK=some ⟨A8p,[],0,8⟩:=rfl
theorem eD:lk 169 AK=some ⟨A8q,[],0,8⟩:=rfl
theorem eE:lk 170 AK=some ⟨A8r,[],0,8⟩:=rfl
theorem eF:lk 171 AK=some ⟨A8s,[],0,8⟩:=rfl
theorem eG:lk 172 AK=some ⟨A8t,[],0,8⟩:=rfl
theorem eH:lk 173 AK=some ⟨A8u,[],0,8⟩:=rfl
theorem eI:lk 174 AK=some ⟨A8v,[],0,8⟩:=rfl
theorem eJ:lk 176 AK=some ⟨A8w,[],0,8⟩:=rfl
theorem eK:lk 177 AK=some ⟨A8x,[],0,8⟩:=rfl
theorem eL:lk 178 AK=some ⟨A8y,[],0,8⟩:=rfl
theorem eO:lk 179 AK=some ⟨A8z,[],0,8⟩:=rfl
theorem eQ:lk 180 AK=some ⟨A8A,[],0,8⟩:=rfl
theorem eU:lk 181 AK=some ⟨A8B,[],0,8⟩:=rfl
theorem eX:lk 182 AK=some ⟨A8C,[],0,8⟩:=rfl
theorem eY:lk 183 AK=some ⟨A8D,[],0,8⟩:=rfl
theorem eZ:lk 184 AK=some ⟨A8E,[],0,8⟩:=rfl
theorem e5:lk 185 AK=some ⟨A8F,[],0,8⟩:=rfl
theorem e7:lk 186 AK=some ⟨A8G,[],0,8⟩:=rfl
theorem e9:lk 187 AK=some ⟨A8H,[],0,8⟩:=rfl
theorem fA:lk 188 AK=some ⟨A8I,[],0,8⟩:=rfl
theorem fB:lk 189 AK=some ⟨A8J,[],0,8⟩:=rfl
theorem fC:lk 190 AK=some ⟨A8K,[],0,8⟩:=rfl
theorem fD:lk 191 AK=some ⟨A8L,[],0,8⟩:=rfl
theorem fE:lk 192 AK=some ⟨A8M,[],0,8⟩:=rfl
theorem fF:lk 193 AK=some ⟨A8N,[],0,8⟩:=rfl
theorem fG:lk 194 AK=some ⟨A8O,[],0,8⟩:=rfl
theorem fH:lk 195 AK=some ⟨A8P,[],0,8⟩:=rfl
theorem fJ:lk 196 AK=some ⟨A8Q,[],0,8⟩:=rfl
theorem fL:lk 197 AK=some ⟨A8R,[],0,8⟩:=rfl
theorem fN:lk 198 AK=some ⟨A8S,[],0,8⟩:=rfl
theorem fO:lk 199 AK=some ⟨A8T,[],0,8⟩:=rfl
theorem fP:lk 200 AK=some ⟨A8U,[],0,8⟩:=rfl
theorem fQ:lk 201 AK=some ⟨A8V,[],0,8⟩:=rfl
theorem fR:lk 202 AK=some ⟨A8W,[],0,8⟩:=rfl
theorem fS:lk 204 AK=some ⟨A8X,[],0,8⟩:=rfl
theorem fT:lk 205 AK=some ⟨A8Y,[],0,8⟩:=rfl
theorem fU:lk 206 AK=some ⟨A8Z,[],0,8⟩:=rfl
theorem fV:lk 207 AK=some ⟨A90,[],0,8⟩:=rfl
theorem fW:lk 208 AK=some ⟨A91,[],0,8⟩:=rfl
theorem fX:lk 209 AK=some ⟨A92,[],0,4⟩:=rfl
theorem fY:lk 210 AK=some ⟨A93,[],0,8⟩:=rfl
theorem fZ:lk 211 AK=some ⟨A94,[],0,8⟩:=rfl
theorem f3:lk 212 AK=some ⟨A95,[],0,8⟩:=rfl
theorem f4:lk 213 AK=some ⟨A96,[],0,8⟩:=rfl
theorem f5:lk 214 AK=some ⟨A97,[],0,8⟩:=rfl
theorem f6:lk 215 AK=some ⟨A98,[],0,8⟩:=rfl
theorem f7:lk 216 AK=some ⟨A99,[],0,8⟩:=rfl
theorem f9:lk 217 AK=some ⟨A9a,[],0,8⟩:=rfl
theorem gB:lk 218 AK=some ⟨A9b,[],0,8⟩:=rfl
theorem gC:lk 219 AK=some ⟨A9c,[],0,8⟩:=rfl
theorem gD:lk 221 AK=some ⟨A9d,[],0,8⟩:=rfl
theorem gE:lk 222 AK=some ⟨A9e,[],0,8⟩:=rfl
theorem gF:lk 228 AK=some ⟨A9f,[],0,8⟩:=rfl
theorem gG:lk 231 AK=some ⟨A9g,[],0,8⟩:=rfl
theorem gH:lk 232 AK=some ⟨A9h,[],0,8⟩:=rfl
end
section
open Go Go.RowKit
section
variable {c:Cx} {R:Exit→Act→World→Prop} {k:List Dp} {σ σ':St}
theorem u4 {P:Program} {tb:Tb} {t:TypeId} {ti:TI} {e:Ty} (hT:EJ P tb t ti) (c:ti.ty=.slice e) (w:World) (a:Option Addr) (n m:Nat):(Op.equal t (.slice a n m) (.slice none 0 0)).run P w=.ok a.isNone w:=by
 have b:=hT.2;rw[c]at b;exact run_equal_slice_nil w t ti.el a n m b.1
def gI:Option TI→Bool
 | some ⟨.slice _,_,_,_⟩=>true
 | _=>false
theorem XW (g:c.Ok) {ops:Array Oper} {rest:List Oper} {d:Nat} {t:TypeId} {x:Operand} {r ty:TypeId} {pos:String} {after:Array Edge} {e:Ty} {l:List e.den} (neg:Bool)
  (G:Aj σ x=some (.p (.slice e) l)) (i:gI (lk t c.tb.ty)=true) (hk:∀b:Bool,(b=true→l=[])→Hh c R k ops rest (σ.add (.p .bool (if neg then !b else b)) [] (some d))) :
  Hh c R k ops (⟨some d,.binOp (if neg then .neq else .eql) t x (.const (.slice none 0 0)) r,ty,pos,after,none⟩ :: rest) σ:=by
 intro n z a w F;obtain⟨ρ,q⟩:=F;have y:GK (vw w c.O0 σ ρ) σ a.eval:=D5 q.env;have H:=y x _ G;obtain⟨cs,⟨ad,m,rfl,h1,N,f⟩,j⟩:=H;have j:a.eval x=.slice ad (List.length l) m:=j;unfold gI at i;split at i
 ·rename_i M offs el bytes A;have s:=g.T _ _ A;have heq:=u4 s rfl w ad (List.length l) m;unfold wpListIn;rw[BY (by simp[Region.wanted])];have D:(execOp a.eval ⟨some d,.binOp (if neg then .neq else .eql) t x (.const (.slice none 0 0)) r,ty,pos,after,none⟩).run c.P w=.ok (.value (.bool (if neg then !ad.isNone else ad.isNone))) w:=by
   have I:a.eval (.const (.slice none 0 0))=.slice none 0 0:=rfl;cases neg<;>simp[execOp,j,I,eqGuard,binOp,heq]
  refine Aq D ?_ (fun cl h=>by cases neg<;>cases h);have u:ad.isNone=true→l=[]:=fun hn=>by
   rcases f with f|⟨J,rfl,_⟩
   ·exact f
   ·simp at hn
  have C:QS w c.O0 σ ρ (.p .bool (if neg then !ad.isNone else ad.isNone)) [] (.bool (if neg then !ad.isNone else ad.isNone)) ρ w:=QS.still (Bi _);have E:=q.add g.K g.O (dst:=some d) (fun L v=>by cases v;exact Be (n _ ABq) d rfl) rfl C;exact hk ad.isNone u (fun o B=>n o (by simp[B])) z _ _ ⟨ρ,E⟩
 ·cases i
end
end
section
open Go Go.RowKit Go.ChangeShapes Go.WideShapes
set_option maxRecDepth 100000
def qX (r:Ty→TypeId→Bool) (P:Program):Ty→Nat→List Field→Bool
 | .prod a b,o,fs=>match fs with
  | f :: fs=>f.offset==o&&P.cellsOf f.type==a.size&&r a f.type&&qX r P b (o+a.size) fs
  | []=>false
 | s,o,[f]=>f.offset==o&&P.cellsOf f.type==s.size&&r s f.type
 | _,_,_=>false
def u5 (P:Program) (m:Nat) (e:TypeId):List Field:=(List.range m).map fun i=>{ (default:Field) with offset:=i*P.cellsOf e,type:=e }
def rd (P:Program):Nat→Ty→TypeId→Bool
 | 0,_,_=>false
 | _+1,.int k,t=>isI k (P.underlying t)
 | _+1,.bool,t=>match P.underlying t with|some .bool=>true|_=>false
 | _+1,.str,t=>match P.underlying t with|some .string=>true|_=>false
 | n+1,.slice e,t=>match P.underlying t with|some (.slice et)=>decide (0<P.bytesOf et)&&P.cellsOf et==e.size&&rd P n e et|_=>false
 | n+1,.agg s,t=>match P.underlying t with|some (.struct fs)=>P.cellsOf t==s.size&&qX (rd P n) P s 0 fs.toList|some (.array m e)=>P.cellsOf t==s.size&&qX (rd P n) P s 0 (u5 P m e)|_=>false
 | _+1,_,_=>false
theorem qY {P:Program} {n:Nat} {t:TypeId} (h:rd P (n+1) .bool t=true):P.underlying t=some .bool:=by
 simp only[rd]at h;split at h
 ·assumption
 ·cases h
theorem A1e {P:Program} {n:Nat} {t:TypeId} (h:rd P (n+1) .str t=true):P.underlying t=some .string:=by
 simp only[rd]at h;split at h
 ·assumption
 ·cases h
theorem gJ {P:Program} {n:Nat} {e:Ty} {t:TypeId} (h:rd P (n+1) (.slice e) t=true):∃et,P.underlying t=some (.slice et)∧0<P.bytesOf et∧P.cellsOf et=e.size∧rd P n e et=true:=by
 simp only[rd]at h;split at h
 ·rename_i et hu;simp only[As,IS,AAq]at h;exact⟨et,hu,h.1.1,h.1.2,h.2⟩
 ·cases h
theorem A1f {P:Program} {n:Nat} {s:Ty} {t:TypeId} (h:rd P (n+1) (.agg s) t=true):(∃fs,P.underlying t=some (.struct fs)∧P.cellsOf t=s.size∧qX (rd P n) P s 0 fs.toList=true)∨∃m e,P.underlying t=some (.array m e)∧P.cellsOf t=s.size∧qX (rd P n) P s 0 (u5 P m e)=true:=by
 simp only[rd]at h;split at h
 ·rename_i fs hu;simp only[As,AAq]at h;exact .inl ⟨fs,hu,h.1,h.2⟩
 ·rename_i m e hu;simp only[As,AAq]at h;exact .inr ⟨m,e,hu,h.1,h.2⟩
 ·cases h
theorem u6 {w:World} {base:Nat} {a:Addr} {n:Nat} {cs:List Value} (h:w.cells? base a n=some cs):cs.length=n∧∀(j:Nat) (v:Value),cs[j]?=some v→w.cell? (a.add j)=some v:=by
 unfold World.cells? at h;split at h
 ·have h1:=mapM_some_length h;simp only[ABI]at h1;refine⟨h1,fun j v b=>?_⟩;have c:j<n:=by
   obtain⟨c,_⟩:=aT.1 b;omega
  rw[mapM_some_get h j j (by simp[c]),b]
 ·cases h
section
variable {H:Type} {enc:TypeId×Value→H} {P:Program} {w:World} {spare:Nat→Bool} {held:Bool}
theorem gK {e:TypeId}:∀ {l:List (DataW H)} {d:DataW H},d∈l→∀n∈d.weights P e,n∈DataW.weightsAll P e l
 | a :: l,d,b,n,hn=>by
  simp only[DataW.weightsAll,Of];rcases By.1 b with rfl|b
  ·exact .inl hn
  ·exact .inr (gK b n hn)
 | [],_,b,_,_=>by cases b
theorem XX {b:List TypeId} {a:List (DataW H)}:∀ {ts:List TypeId} {ds:List (DataW H)},∀n∈DataW.weightsEach P ts ds,n∈DataW.weightsEach P (ts++b) (ds++a)
 | t :: ts,d :: ds,n,hn=>by
  simp only[DataW.weightsEach,ABz,Of]at hn ⊢;rcases hn with hn|hn
  ·exact .inl hn
  ·exact .inr (XX n hn)
 | [],_,n,hn=>by simp[DataW.weightsEach]at hn
 | _ :: _,[],n,hn=>by simp[DataW.weightsEach]at hn
theorem XY {e:TypeId}:∀ {m:Nat} {k:Nat} {ds:List (DataW H)},∀n∈DataW.weightsEach P (((List.range' k m).map fun i=>({ (default:Field) with offset:=i*P.cellsOf e,type:=e }:Field)).map (·.type)) ds,n∈DataW.weightsAll P e ds
 | 0,_,ds,n,hn=>by simp[DataW.weightsEach]at hn
 | m+1,k,[],n,hn=>by
  rw[ACN]at hn;simp[DataW.weightsEach]at hn
 | m+1,k,d :: ds,n,hn=>by
  rw[ACN]at hn;simp only[AA4,DataW.weightsEach,Of]at hn;simp only[DataW.weightsAll,Of];rcases hn with hn|hn
  ·exact .inl hn
  ·exact .inr (XY n hn)
theorem SH {n:Nat} {r:Ty→TypeId→Bool}
  (A:∀ty t,r ty t=true→∀(cs:List Value) (x:DataW H×List MemPlace),DataW.trod enc P w 0 spare held n t cs=some x→(∀b∈x.1.weights P t,b≤reachBytes)→∃d:ty.den,Bq w (fun _=>False) ty cs d) (cs:List Value) :
  ∀(s:Ty) (o:Nat) (fs:List Field),qX r P s o fs=true→∀xs:List (DataW H×List MemPlace),xs.length=fs.length →
   (∀(i:Nat) (f:Field),fs[i]?=some f→DataW.trod enc P w 0 spare held n f.type ((cs.drop f.offset).take (P.cellsOf f.type))=xs[i]?) →
   (∀b∈DataW.weightsEach P (fs.map (·.type)) (xs.map (·.1)),b≤reachBytes)→∃d:s.den,Bq w (fun _=>False) s ((cs.drop o).take s.size) d:=by
 have one:∀(s:Ty) (o:Nat) (f:Field),(f.offset==o&&P.cellsOf f.type==s.size&&r s f.type)=true→∀x:DataW H×List MemPlace,
   DataW.trod enc P w 0 spare held n f.type ((cs.drop f.offset).take (P.cellsOf f.type))=some x →
   (∀b∈x.1.weights P f.type,b≤reachBytes)→∃d:s.den,Bq w (fun _=>False) s ((cs.drop o).take s.size) d:=by
  intro s o f h x j c;simp only[As,AAq]at h;obtain⟨⟨rfl,p⟩,q⟩:=h;rw[←p];exact A s f.type q _ x j c
 have lone:∀(s:Ty) (o:Nat) (f:Field),(f.offset==o&&P.cellsOf f.type==s.size&&r s f.type)=true→∀xs:List (DataW H×List MemPlace),xs.length=[f].length →
   (∀(i:Nat) (g:Field),[f][i]?=some g→DataW.trod enc P w 0 spare held n g.type ((cs.drop g.offset).take (P.cellsOf g.type))=xs[i]?) →
   (∀b∈DataW.weightsEach P ([f].map (·.type)) (xs.map (·.1)),b≤reachBytes)→∃d:s.den,Bq w (fun _=>False) s ((cs.drop o).take s.size) d:=by
  intro s o f h xs m j c;obtain⟨x,rfl⟩:∃x,xs=[x]:=AB4.1 (by simpa using m);exact one s o f h x (j 0 f rfl) (fun b l=>c b (by simp[DataW.weightsEach,l]))
 intro s;induction s with
 | prod a b E B =>
  intro o fs h xs m j c;cases fs with
  | nil=>simp[qX]at h
  | cons f fs =>
   simp only[qX,As]at h;obtain⟨⟨⟨h1,p⟩,q⟩,y⟩:=h;obtain⟨x,ys,rfl⟩:∃x ys,xs=x :: ys:=List.exists_cons_of_ne_nil (by intro h;subst h;simp at m);obtain⟨u,C⟩:=one a o f (by simp only[h1,p,q,Bool.and_self]) x (j 0 f rfl) (fun b l=>c b (by
     simp only[AA4,DataW.weightsEach,Of];exact .inl l))
   obtain⟨v,D⟩:=B (o+a.size) fs y ys (by simpa using m) (fun i g z=>j (i+1) g z) (fun b l=>c b (by
     simp only[AA4,DataW.weightsEach,Of];exact .inr l))
   refine⟨(u,v),(cs.drop o).take a.size,(cs.drop (o+a.size)).take b.size,?_,C,D⟩;show (cs.drop o).take (a.size+b.size)=_;rw[List.take_add,ABY]
 | int k=>intro o fs h;match fs,h with|[f],h=>exact lone _ o f (by simpa only[qX] using h)
 | bool=>intro o fs h;match fs,h with|[f],h=>exact lone _ o f (by simpa only[qX] using h)
 | str=>intro o fs h;match fs,h with|[f],h=>exact lone _ o f (by simpa only[qX] using h)
 | slice e _=>intro o fs h;match fs,h with|[f],h=>exact lone _ o f (by simpa only[qX] using h)
 | agg t _=>intro o fs h;match fs,h with|[f],h=>exact lone _ o f (by simpa only[qX] using h)
 | ref k=>intro o fs h;match fs,h with|[f],h=>exact lone _ o f (by simpa only[qX] using h)
theorem A1g:∀(k:Nat) (ty:Ty) (t:TypeId),rd P k ty t=true→∀(n:Nat) (cs:List Value) (x:DataW H×List MemPlace),
  DataW.trod enc P w 0 spare held n t cs=some x→(∀b∈x.1.weights P t,b≤reachBytes)→∃d:ty.den,Bq w (fun _=>False) ty cs d:=by
 intro k;induction k with
 | zero=>intro ty t h;simp[rd]at h
 | succ k B =>
  intro ty t h n cs x c l;cases ty with
  | int q =>
   have hu:=Yq (by simpa only[rd] using h);obtain⟨m,rfl,rfl,F⟩:=DataW.trod_int hu c;simp only[Lit.wf,As,IS]at F;exact⟨m,rfl,F⟩
  | bool =>
   obtain⟨b,rfl,rfl⟩:=DataW.trod_bool (qY h) c;exact⟨b,rfl⟩
  | str =>
   obtain⟨b,rfl,rfl,_⟩:=DataW.trod_string (A1e h) c;refine⟨b,rfl,?_⟩;have:=l b.data.toList.length (by simp only[DataW.weights];exact ABq);have p:b.data.toList.length=b.size:=ABM;simp only[reachBytes]at this;simp only[AO];omega
  | slice e =>
   obtain⟨et,hu,L,C,u⟩:=gJ h;rcases DataW.trod_slice hu c with ⟨rfl,rfl⟩|⟨a,len,cap,elems,rest,m,rfl,rfl,rfl,-,U,-,V,Q,-,-⟩
   ·exact⟨[],none,0,rfl,Is _,NO _,.inl rfl⟩
   ·have X:len≤AO:=by
     have h1:=l ((elems.length+rest.length)*P.bytesOf et) (by simp only[DataW.weights,hu,To];exact ABq);have p:elems.length+rest.length≤(elems.length+rest.length)*P.bytesOf et:=Nat.le_mul_of_pos_right _ L;simp only[reachBytes]at h1;simp only[AO];omega
    have D:∀i,i<len→∃d:e.den,∃g:List Value,g.length=e.size∧(∀(j:Nat) (v:Value),g[j]?=some v→w.cell? (a.add (i*e.size+j))=some v)∧Bq w (fun _=>False) e g d:=by
     intro i hi;have h1:=Q i hi;obtain⟨x,c⟩:∃x,elems[i]?=some x:=⟨_,AT (by omega)⟩;rw[c]at h1;obtain⟨g,p,G⟩:=Option.bind_eq_some_iff.1 h1;obtain⟨I,J⟩:=u6 p;obtain⟨d,o⟩:=B e et u m g x G (fun b r=>l b (by
      simp only[DataW.weights,hu];exact If _ (AAp _ (gK (GO.2 ⟨x,AAB c,rfl⟩) b r))))
     refine⟨d,g,by rw[I,C],fun j v S=>?_,o⟩;have:=J j v S
     rwa [Da,C]at this
    have K:∃ds:List e.den,ds.length=len∧∀(i:Nat) (d:e.den),ds[i]?=some d→∃g:List Value,g.length=e.size∧(∀(j:Nat) (v:Value),g[j]?=some v→w.cell? (a.add (i*e.size+j))=some v)∧Bq w (fun _=>False) e g d:=by
     refine⟨(List.range len).pmap (fun i hi=>Classical.choose (D i hi)) (fun i hi=>oN.1 hi),by simp,fun i d o=>?_⟩;rw[List.getElem?_pmap]at o;simp only[Option.pmap_eq_some_iff]at o;obtain⟨j,h1,p,rfl⟩:=o;have R:j=i:=by
      obtain⟨W,u⟩:=aT.1 p;simpa using u.symm
     subst R;exact Classical.choose_spec (D j h1)
    obtain⟨ds,N,O⟩:=K;exact⟨ds,some a,cap,by rw[N],by omega,by omega,.inr ⟨a,rfl,fun h=>h,O⟩⟩
  | agg s =>
   rcases A1f h with ⟨fs,hu,M,hf⟩|⟨q,e,hu,M,hf⟩
   ·obtain⟨xs,m,rfl,rfl,T,z,A⟩:=DataW.trod_struct hu c;obtain⟨d,o⟩:=SH (fun ty t y cs x c l=>B ty t y m cs x c l) cs s 0 fs.toList hf xs (by simpa using z) (fun i f hi=>A i f (by simpa using hi)) (by
     simpa[DataW.weights,hu] using l)
    refine⟨d,?_⟩;show Bq w _ s cs d
    rwa [AAv,An (by omega)]at o
   ·obtain⟨xs,m,rfl,rfl,T,z,A⟩:=DataW.trod_array hu c;obtain⟨d,o⟩:=SH (fun ty t y cs x c l=>B ty t y m cs x c l) cs s 0 (u5 P q e) hf xs (by simp[u5,z]) (fun i f hi=>by
     unfold u5 at hi;rw[AA0]at hi;by_cases E:i<q
     ·rw[AAF E]at hi;have hi:({ (default:Field) with offset:=i*P.cellsOf e,type:=e }:Field)=f:=by simpa using hi
      rw[←hi];exact A i E
     ·rw[dO (by simp;omega)]at hi;cases hi) (fun b r=>l b (by
     simp only[DataW.weights,hu];unfold u5 at r;rw[List.range_eq_range']at r;exact XY b r))
    refine⟨d,?_⟩;show Bq w _ s cs d
    rwa [AAv,An (by omega)]at o
  | prod a b=>simp[rd]at h
  | ref j=>simp[rd]at h
theorem A4s {k:Nat} {ty:Ty} {t:TypeId} {v:Value} {r:Reach} {base:Nat} (h:rd P k ty t=true) (d:Value.okWide P w r base t v):v=ty.wrap v.cells.toList:=by
 cases k with
 | zero=>simp[rd]at h
 | succ k =>
  cases ty with
  | int q =>
   obtain⟨n,rfl⟩:=okWide_int (Yq (by simpa only[rd] using h)) d;rfl
  | bool =>
   obtain⟨n,rfl⟩:=okWide_bool (qY h) d;rfl
  | str =>
   obtain⟨n,rfl⟩:=okWide_string (A1e h) d;rfl
  | slice e =>
   obtain⟨et,hu,_⟩:=gJ h;obtain⟨a,l,c,rfl⟩:=okWide_slice hu d;rfl
  | agg s =>
   rcases A1f h with ⟨fs,hu,_⟩|⟨q,e,hu,_⟩
   ·obtain⟨cs,rfl,_⟩:=okWide_struct hu d;simp[Ty.wrap,Value.cells]
   ·simp only[Value.okWide,hu]at d;obtain⟨cs,rfl,_⟩:=d;simp[Ty.wrap,Value.cells]
  | prod a b=>simp[rd]at h
  | ref j=>simp[rd]at h
def Nt (P:Program):List Ty→List TypeId→Bool
 | [],[]=>true
 | ty :: a,t :: ts=>rd P 50 ty t&&P.readableRec t&&decide (t<P.types.size)&&Nt P a ts
 | _,_=>false
theorem gL {r:Reach} {base:Nat}:∀(a:List Ty) (ts:List TypeId) (c:List Value) (ds:List (DataW H)) (p:List MemPlace),Nt P a ts=true→DataW.TrodAll enc P w 0 spare held ts c ds p →
  (∀(j:Nat) (t:TypeId) (v:Value),ts[j]?=some t→c[j]?=some v→Value.okWide P w r base t v)→(∀b∈DataW.weightsEach P ts ds,b≤reachBytes)→∃xs:Ku a,R4 w (fun _=>False) a c xs
 | [],[],c,ds,p,_,h,_,_=>by
  obtain⟨rfl,_,_⟩:=trodAll_nil h;exact⟨(),rfl⟩
 | ty :: a,t :: ts,c,ds,p,g,h,i,e=>by
  simp only[Nt,As]at g;obtain⟨⟨⟨h1,_⟩,_⟩,m⟩:=g;obtain⟨v,k,d,l,D,A,rfl,rfl,rfl,⟨n,o⟩,q⟩:=trodAll_cons h;simp only[DataW.weightsEach,Of]at e;obtain⟨x,y⟩:=A1g 50 ty t h1 n _ _ o (fun b f=>e b (.inl f));obtain⟨xs,z⟩:=gL a ts k l A m q (fun j B C s u=>i (j+1) B C s u) (fun b f=>e b (.inr f));exact⟨(x,xs),v,k,rfl,⟨_,y,A4s h1 (i 0 t v rfl rfl)⟩,z⟩
 | [],_ :: _,_,_,_,h,_,_,_=>by simp[Nt]at h
 | _ :: _,[],_,_,_,h,_,_,_=>by simp[Nt]at h
theorem XZ (i:laidOutB P=true) {W f:World} (g:Below W.heap.size W f):∀(e:List Ty) (ts:List TypeId) (a:List Value) (ds:List (DataW H)) (p:List MemPlace),Nt P e ts=true →
  DataW.TrodAll enc P W 0 (fun _=>true) true ts a ds p→(∀x∈p,x.block<W.heap.size)→DataW.TrodAll enc P f 0 (fun b=>decide (b<W.heap.size)) true ts a ds p
 | [],[],a,ds,p,_,h,_=>by
  obtain⟨rfl,rfl,rfl⟩:=trodAll_nil h;rfl
 | ty :: e,t :: ts,a,ds,p,k,h,j=>by
  simp only[Nt,As,IS]at k;obtain⟨⟨⟨_,h1⟩,n⟩,o⟩:=k;obtain⟨v,u,d,m,s,l,rfl,rfl,rfl,q,r⟩:=trodAll_cons h;exact⟨s,l,Below.trod i h1 n q g (fun x c=>j x (AAp _ c)),XZ i g e ts u m l o r (fun x c=>j x (ABa _ c)),rfl⟩
 | [],_ :: _,_,_,_,h,_,_=>by simp[Nt]at h
 | _ :: _,[],_,_,_,h,_,_=>by simp[Nt]at h
end
theorem A1h {w:World} {O:Nat→Prop} {u:Value} {w':World} (h:yU w O [.p .bool true] u w'):u=.bool true∧Below w.heap.size w w':=by
 obtain⟨ρ',a⟩:=h 0;refine⟨?_,a.below⟩;obtain⟨cs,h1,b⟩:Bb _ _ .bool u true:=a.av;have h1:cs=[.bool true]:=h1;rw[b,h1];rfl
theorem A1i {P:Program} {f:FuncId} {fn:Func} {sp:Ad} {s:ChangeSpec} {tb:TypeId} (J:Ag P f sp) (L:∀ds,sp.pre ds) (K:∀ds,sp.out ds=[.p .bool true])
  (F:laidOutB P=true) (r:Nt P sp.ins fn.params.toList=true) (N:fn.resultTypes=#[tb]) (D:P.underlying tb=some .bool) (w:s.vars=[])
  (hs:∀(H:Type) (ds:List (DataW H)),ds.length=fn.params.size→(s.fn H ds).results=[.lit (.bool true)]∧(s.fn H ds).args=ds∧(s.fn H ds).vars=[])
  {H:Type} {enc:TypeId×Value→H} {W:World} {base:Nat} {args:Array Value} {ds l:List (DataW H)} {y:List MemPlace} {X:List TypeId}
  (S:∀(j:Nat) t v,fn.params[j]?=some t→args[j]?=some v→Value.okWide P W .any base t v)
  (n:DataW.Whole enc P fn.params.toList s.vars false W args.toList ds l y)
  (O:(DataW.weightsEach P (fn.params.toList++X) (ds++l)).all (·≤reachBytes)=true) :
  Calls P f args W fun e k=>∃v,e=.returned v∧s.post enc P fn false true false false W args v k:=by
 have o:=n;obtain⟨p,q,c,m,rfl,Z,aa⟩:=n;rw[w]at m;obtain⟨rfl,rfl⟩:=trodVars_none m;obtain⟨xs,U⟩:=gL sp.ins fn.params.toList args.toList ds p r c (fun j t v Q R=>S j t v (by simpa using Q) (by simpa using R))
  (fun b a=>by simpa using IN.1 O b (XX b a))
 have I:∀x∈p,x.block<W.heap.size:=fun x T=>by simpa using o.lt x (AAp _ T)
 have G:ds.length=fn.params.size:=by
  have:∀(ts:List TypeId) (i:List Value) (ds:List (DataW H)) (p:List MemPlace),DataW.TrodAll enc P W 0 (fun _=>true) true ts i ds p→ds.length=ts.length:=by
   intro ts;induction ts with
   | nil=>intro i ds p h;obtain⟨_,rfl,_⟩:=trodAll_nil h;rfl
   | cons t ts V=>intro i ds p h;obtain⟨v,ae,d,Y,ab,ad,rfl,rfl,rfl,_,M⟩:=trodAll_cons h;simp[V _ _ _ M]
  simpa using this _ _ _ _ c
 have g:=J.2 W (fun _=>False) args.toList xs (fun _ h=>h.elim) U (L xs);rw[K]at g;have C:args.toList.toArray=args:=by simp
 rw[C]at g;refine g.mono fun e k ⟨u,E,hu⟩=>?_;obtain⟨rfl,a⟩:=A1h hu;obtain⟨z,A,B⟩:=hs H (ds++[]) (by simpa using G);refine⟨_,E,_,_,_,[],p,[],o,?_,?_,?_,a.frame _,fun h=>by cases h⟩
 ·rw[z,N];exact trodAll_mk1 (shut_bool D _)
 ·rw[A,AAh];exact XZ F a sp.ins _ _ _ _ r c I
 ·rw[B,w];rfl
end
end Go.Proofs.YtdapahgnpbehbaaGreat.Fw

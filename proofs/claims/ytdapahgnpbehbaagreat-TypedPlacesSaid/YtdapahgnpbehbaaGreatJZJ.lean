/- This program's types; a slice compared with nil; from a contract to the given statement. -/
import Derived.Test.YtdapahgnpbehbaaGreatJZI
import Derived.Test.YtdapahgnpbehbaaGreatChecked
import Derived.Laws.Cover3
import Derived.Carry
import Derived.SizedLaws
import Derived.OpenShut
set_option linter.unusedVariables false
set_option linter.unusedSimpArgs false
namespace Go.Proofs.YtdapahgnpbehbaaGreat.Fw
section
open Go
abbrev T1:Ty:=.ref 1
abbrev T2:Ty:=.int .i64
abbrev T3:Ty:=.int .i64
abbrev T4:Ty:=.bool
abbrev T5:Ty:=.int .u8
abbrev T9:Ty:=.str
abbrev T12:Ty:=.int .u64
abbrev T21:Ty:=.int .i32
abbrev T26:Ty:=.ref 1
abbrev T27:Ty:=.ref 1
abbrev T32:Ty:=.ref 1
abbrev Wq:Ty:=.int .i64
abbrev T34:Ty:=.ref 1
abbrev T35:Ty:=.ref 1
abbrev T36:Ty:=.ref 1
abbrev T38:Ty:=.ref 1
abbrev T39:Ty:=.ref 1
abbrev T41:Ty:=.ref 1
abbrev T42:Ty:=.ref 1
abbrev T43:Ty:=.ref 1
abbrev T44:Ty:=.ref 1
abbrev T46:Ty:=.ref 1
abbrev T51:Ty:=.ref 1
abbrev T52:Ty:=.agg (.prod T3 (T3))
abbrev BE:Ty:=.agg (.prod T3 (T3))
abbrev T54:Ty:=.ref 1
abbrev T56:Ty:=.ref 1
abbrev T57:Ty:=.ref 1
abbrev T59:Ty:=.ref 1
abbrev Es:Ty:=.slice T3
abbrev T63:Ty:=.ref 1
abbrev T64:Ty:=.ref 1
abbrev T65:Ty:=.ref 1
abbrev T66:Ty:=.ref 1
abbrev T67:Ty:=.ref 1
abbrev T69:Ty:=.ref 1
abbrev T70:Ty:=.ref 1
abbrev T71:Ty:=.ref 1
abbrev T72:Ty:=.ref 0
abbrev T75:Ty:=.ref 1
abbrev T76:Ty:=.ref 1
abbrev T77:Ty:=.ref 1
abbrev T78:Ty:=.ref 1
abbrev T79:Ty:=.ref 1
abbrev T85:Ty:=.ref 1
abbrev T86:Ty:=.agg (.prod T3 (T3))
abbrev T87:Ty:=.agg (.prod T3 (T3))
abbrev T88:Ty:=.ref 1
abbrev T89:Ty:=.ref 1
abbrev T90:Ty:=.ref 1
abbrev T91:Ty:=.ref 1
abbrev T92:Ty:=.ref 1
abbrev T94:Ty:=.ref 1
abbrev T95:Ty:=.ref 2
abbrev T96:Ty:=.ref 1
abbrev T97:Ty:=.ref 1
abbrev T99:Ty:=.ref 1
abbrev A8d:Ty:=.ref 1
abbrev A8e:Ty:=.ref 1
abbrev A8f:Ty:=.ref 1
abbrev B9:Ty:=.slice T9
abbrev A8g:Ty:=.ref 1
abbrev A8h:Ty:=.ref 1
abbrev A8i:Ty:=.ref 1
abbrev A8j:Ty:=.agg (.prod T9 (T3))
abbrev A0r:Ty:=.agg (.prod T9 (T3))
abbrev A8k:Ty:=.ref 1
abbrev A8l:Ty:=.ref 1
abbrev A8m:Ty:=.ref 1
abbrev A8n:Ty:=.slice T4
abbrev A8o:Ty:=.ref 0
abbrev A8p:Ty:=.ref 1
abbrev A8q:Ty:=.ref 1
abbrev A8r:Ty:=.ref 1
abbrev A8s:Ty:=.ref 0
abbrev A8t:Ty:=.ref 1
abbrev A8u:Ty:=.ref 1
abbrev A8v:Ty:=.ref 1
abbrev A8w:Ty:=.ref 1
abbrev A8x:Ty:=.ref 1
abbrev A8y:Ty:=.ref 1
abbrev A8z:Ty:=.ref 1
abbrev A8A:Ty:=.ref 1
abbrev A8B:Ty:=.ref 1
abbrev A8C:Ty:=.ref 1
abbrev A8D:Ty:=.ref 1
abbrev A8E:Ty:=.ref 1
abbrev A8F:Ty:=.ref 1
abbrev A8G:Ty:=.ref 1
abbrev A8H:Ty:=.ref 1
abbrev A8I:Ty:=.ref 1
abbrev A8J:Ty:=.ref 1
abbrev A8K:Ty:=.ref 1
abbrev A8L:Ty:=.ref 1
abbrev A8M:Ty:=.agg (.prod T9 (T9))
abbrev jD:Ty:=.agg (.prod T9 (T9))
abbrev Pn:Ty:=.int .u64
abbrev A8N:Ty:=.ref 1
abbrev A8O:Ty:=.ref 1
abbrev A8P:Ty:=.ref 1
abbrev A8Q:Ty:=.ref 1
abbrev A8R:Ty:=.ref 2
abbrev A8S:Ty:=.ref 1
abbrev A8T:Ty:=.ref 1
abbrev A8U:Ty:=.ref 1
abbrev A8V:Ty:=.ref 1
abbrev A8W:Ty:=.ref 1
abbrev Ji:Ty:=.agg (.prod T3 (T3))
abbrev A8X:Ty:=.slice Ji
abbrev A8Y:Ty:=.ref 1
abbrev A8Z:Ty:=.ref 1
abbrev A90:Ty:=.ref 1
abbrev A91:Ty:=.ref 1
abbrev A92:Ty:=.ref 1
abbrev A93:Ty:=.ref 1
abbrev A94:Ty:=.ref 1
abbrev A95:Ty:=.ref 1
abbrev A96:Ty:=.ref 1
abbrev A97:Ty:=.ref 1
abbrev A98:Ty:=.ref 1
abbrev A99:Ty:=.ref 1
abbrev A9a:Ty:=.ref 1
abbrev A9b:Ty:=.ref 1
abbrev A9c:Ty:=.ref 1
abbrev A9d:Ty:=.ref 1
abbrev A9e:Ty:=.ref 1
abbrev A9f:Ty:=.ref 1
abbrev A9g:Ty:=.ref 1
abbrev A9h:Ty:=.ref 1
abbrev A9i:Ty:=.ref 1
abbrev A9j:Ty:=.ref 1
abbrev A9k:Ty:=.ref 1
abbrev A9l:Ty:=.int .u64
abbrev A9m:Ty:=.ref 1
abbrev A9n:Ty:=.ref 1
abbrev A9o:Ty:=.ref 1
abbrev A9p:Ty:=.ref 1
abbrev A9q:Ty:=.ref 1
abbrev A9r:Ty:=.ref 1
abbrev A9s:Ty:=.ref 1
abbrev A9t:Ty:=.ref 1
abbrev A9u:Ty:=.ref 1
abbrev A9v:Ty:=.int .i64
abbrev A9w:Ty:=.ref 1
abbrev A9x:Ty:=.ref 1
abbrev A9y:Ty:=.ref 1
abbrev A9z:Ty:=.ref 1
abbrev A9A:Ty:=.ref 1
abbrev A9B:Ty:=.int .u32
abbrev A9C:Ty:=.ref 1
abbrev A9D:Ty:=.ref 1
abbrev A9E:Ty:=.ref 1
abbrev A9F:Ty:=.int .u64
abbrev A9G:Ty:=.ref 1
abbrev A9H:Ty:=.ref 1
abbrev A9I:Ty:=.ref 1
abbrev A9J:Ty:=.ref 0
abbrev A9K:Ty:=.ref 1
abbrev A9L:Ty:=.ref 0
abbrev A9M:Ty:=.ref 1
abbrev A9N:Ty:=.ref 1
abbrev A9O:Ty:=.ref 1
abbrev A9P:Ty:=.ref 1
abbrev A9Q:Ty:=.ref 0
abbrev TQ:Ty:=.slice A0r
abbrev Ce:Ty:=.slice BE
abbrev T48:Ty:=.agg (.prod T3 (Ce))
abbrev GH:Ty:=.agg (.prod T3 (Ce))
abbrev T80:Ty:=.slice Pn
abbrev EL:Ty:=.slice Pn
abbrev cJ:Ty:=.slice T87
abbrev T83:Ty:=.agg (.prod T9 (.prod EL (.prod Es (cJ))))
abbrev T84:Ty:=.agg (.prod T9 (.prod EL (.prod Es (cJ))))
abbrev A9R:Ty:=.agg (.prod T9 (EL))
abbrev ZP:Ty:=.agg (.prod T9 (EL))
abbrev cK:Ty:=.slice jD
abbrev A9S:Ty:=.agg (.prod T9 (.prod B9 (cK)))
abbrev vQ:Ty:=.agg (.prod T9 (.prod B9 (cK)))
abbrev A3H:Ty:=.slice Ce
abbrev S4:Ty:=.slice EL
abbrev FP:Ty:=.slice vQ
abbrev Dv:Ty:=.slice GH
abbrev T24:Ty:=.agg (Dv)
abbrev D8:Ty:=.agg (Dv)
abbrev ST:Ty:=.slice T84
abbrev T30:Ty:=.agg (.prod ST (TQ))
abbrev F7:Ty:=.agg (.prod ST (TQ))
abbrev T45:Ty:=.slice cJ
abbrev T55:Ty:=.agg (.prod D8 (.prod D8 (D8)))
abbrev T58:Ty:=.slice D8
abbrev T61:Ty:=.agg (.prod D8 (.prod Es (D8)))
abbrev T62:Ty:=.agg (.prod D8 (.prod Es (D8)))
abbrev T73:Ty:=.agg (.prod F7 (.prod Es (Es)))
abbrev T74:Ty:=.agg (.prod F7 (.prod Es (Es)))
abbrev KF:Ty:=.slice ZP
abbrev A9T:Ty:=.agg (.prod D8 (.prod Es (Es)))
abbrev A9U:Ty:=.agg (.prod D8 (.prod Es (Es)))
abbrev A9V:Ty:=.agg (.prod F7 (.prod Es (.prod Es (A3H))))
abbrev A9W:Ty:=.agg (.prod F7 (.prod Es (.prod Es (A3H))))
set_option maxRecDepth 100000
def AK:List (Nat×TI):=[(1,⟨T1,[],0,8⟩),
 (2,⟨T2,[],0,8⟩),
 (3,⟨T3,[],0,8⟩),
 (4,⟨T4,[],0,1⟩),
 (5,⟨T5,[],0,1⟩),
 (9,⟨T9,[],0,16⟩),
 (12,⟨T12,[],0,8⟩),
 (21,⟨T21,[],0,4⟩),
 (22,⟨FP,[],111,24⟩),
 (23,⟨Dv,[],49,24⟩),
 (24,⟨T24,[(0,1)],0,24⟩),
 (25,⟨D8,[(0,1)],0,24⟩),
 (26,⟨T26,[],0,8⟩),
 (27,⟨T27,[],0,8⟩),
 (28,⟨ST,[],84,24⟩),
 (29,⟨TQ,[],116,24⟩),
 (30,⟨T30,[(0,1),(1,1)],0,48⟩),
 (31,⟨F7,[(0,1),(1,1)],0,48⟩),
 (32,⟨T32,[],0,8⟩),
 (33,⟨Wq,[],0,8⟩),
 (34,⟨T34,[],0,8⟩),
 (35,⟨T35,[],0,8⟩),
 (36,⟨T36,[],0,8⟩),
 (38,⟨T38,[],0,8⟩),
 (39,⟨T39,[],0,8⟩),
 (41,⟨T41,[],0,8⟩),
 (42,⟨T42,[],0,8⟩),
 (43,⟨T43,[],0,8⟩),
 (44,⟨T44,[],0,8⟩),
 (45,⟨T45,[],82,24⟩),
 (46,⟨T46,[],0,8⟩),
 (47,⟨Ce,[],53,24⟩),
 (48,⟨T48,[(0,1),(1,1)],0,32⟩),
 (49,⟨GH,[(0,1),(1,1)],0,32⟩),
 (51,⟨T51,[],0,8⟩),
 (52,⟨T52,[(0,1),(1,1)],0,16⟩),
 (53,⟨BE,[(0,1),(1,1)],0,16⟩),
 (54,⟨T54,[],0,8⟩),
 (55,⟨T55,[(0,1),(1,1),(2,1)],25,72⟩),
 (56,⟨T56,[],0,8⟩),
 (57,⟨T57,[],0,8⟩),
 (58,⟨T58,[],25,24⟩),
 (59,⟨T59,[],0,8⟩),
 (60,⟨Es,[],3,24⟩),
 (61,⟨T61,[(0,1),(1,1),(2,1)],0,72⟩),
 (62,⟨T62,[(0,1),(1,1),(2,1)],0,72⟩),
 (63,⟨T63,[],0,8⟩),
 (64,⟨T64,[],0,8⟩),
 (65,⟨T65,[],0,8⟩),
 (66,⟨T66,[],0,8⟩),
 (67,⟨T67,[],0,8⟩),
 (69,⟨T69,[],0,8⟩),
 (70,⟨T70,[],0,8⟩),
 (71,⟨T71,[],0,8⟩),
 (72,⟨T72,[],0,8⟩),
 (73,⟨T73,[(0,2),(2,1),(3,1)],0,96⟩),
 (74,⟨T74,[(0,2),(2,1),(3,1)],0,96⟩),
 (75,⟨T75,[],0,8⟩),
 (76,⟨T76,[],0,8⟩),
 (77,⟨T77,[],0,8⟩),
 (78,⟨T78,[],0,8⟩),
 (79,⟨T79,[],0,8⟩),
 (80,⟨T80,[],155,24⟩),
 (81,⟨EL,[],155,24⟩),
 (82,⟨cJ,[],87,24⟩),
 (83,⟨T83,[(0,1),(1,1),(2,1),(3,1)],0,88⟩),
 (84,⟨T84,[(0,1),(1,1),(2,1),(3,1)],0,88⟩),
 (85,⟨T85,[],0,8⟩),
 (86,⟨T86,[(0,1),(1,1)],0,16⟩),
 (87,⟨T87,[(0,1),(1,1)],0,16⟩),
 (88,⟨T88,[],0,8⟩),
 (89,⟨T89,[],0,8⟩),
 (90,⟨T90,[],0,8⟩),
 (91,⟨T91,[],0,8⟩),
 (92,⟨T92,[],0,8⟩),
 (94,⟨T94,[],0,8⟩),
 (95,⟨T95,[(3,4)],0,8⟩),
 (96,⟨T96,[],0,8⟩),
 (97,⟨T97,[],0,8⟩),
 (99,⟨T99,[],0,8⟩),
 (100,⟨KF,[],104,24⟩),
 (102,⟨A8d,[],0,8⟩),
 (103,⟨A9R,[(0,1),(1,1)],0,40⟩),
 (104,⟨ZP,[(0,1),(1,1)],0,40⟩),
 (105,⟨A8e,[],0,8⟩),
 (107,⟨A8f,[],0,8⟩),
 (108,⟨B9,[],9,24⟩),
 (109,⟨cK,[],154,24⟩),
 (110,⟨A9S,[(0,1),(1,1),(2,1)],0,64⟩),
 (111,⟨vQ,[(0,1),(1,1),(2,1)],0,64⟩),
 (112,⟨A8g,[],0,8⟩),
 (113,⟨A8h,[],0,8⟩),
 (114,⟨A8i,[],0,8⟩),
 (115,⟨A8j,[(0,1),(1,1)],0,24⟩),
 (116,⟨A0r,[(0,1),(1,1)],0,24⟩),
 (117,⟨A8k,[],0,8⟩),
 (118,⟨A8l,[],0,8⟩),
 (119,⟨A8m,[],0,8⟩),
 (120,⟨A8n,[],4,24⟩),
 (121,⟨A8o,[],0,8⟩),
 (122,⟨A9T,[(0,1),(1,1),(2,1)],0,72⟩),
 (123,⟨A9U,[(0,1),(1,1),(2,1)],0,72⟩),
 (124,⟨A8p,[],0,8⟩),
 (125,⟨A8q,[],0,8⟩),
 (126,⟨A8r,[],0,8⟩),
 (127,⟨A8s,[],0,8⟩),
 (128,⟨A3H,[],47,24⟩),
 (129,⟨A9V,[(0,2),(2,1),(3,1),(4,1)],0,120⟩),
 (130,⟨A9W,[(0,2),(2,1),(3,1),(4,1)],0,120⟩),
 (131,⟨A8t,[],0,8⟩),
 (132,⟨A8u,[],0,8⟩),
 (133,⟨A8v,[],0,8⟩),
 (134,⟨A8w,[],0,8⟩),
 (135,⟨A8x,[],0,8⟩),
 (136,⟨A8y,[],0,8⟩),
 (137,⟨A8z,[],0,8⟩),
 (138,⟨A8A,[],0,8⟩),
 (139,⟨A8B,[],0,8⟩),
 (140,⟨A8C,[],0,8⟩),
 (142,⟨A8D,[],0,8⟩),
 (143,⟨A8E,[],0,8⟩),
 (144,⟨S4,[],81,24⟩),
 (145,⟨A8F,[],0,8⟩),
 (146,⟨A8G,[],0,8⟩),
 (147,⟨A8H,[],0,8⟩),
 (148,⟨A8I,[],0,8⟩),
 (149,⟨A8J,[],0,8⟩),
 (151,⟨A8K,[],0,8⟩),
 (152,⟨A8L,[],0,8⟩),
 (153,⟨A8M,[(0,1),(1,1)],0,32⟩),
 (154,⟨jD,[(0,1),(1,1)],0,32⟩),
 (155,⟨Pn,[],0,8⟩),
 (156,⟨A8N,[],0,8⟩),
 (157,⟨A8O,[],0,8⟩),
 (158,⟨A8P,[],0,8⟩),
 (159,⟨A8Q,[],0,8⟩),
 (160,⟨A8R,[(3,3)],0,8⟩),
 (161,⟨A8S,[],0,8⟩),
 (162,⟨A8T,[],0,8⟩),
 (163,⟨A8U,[],0,8⟩),
 (164,⟨A8V,[],0,8⟩),
 (165,⟨A8W,[],0,8⟩),
 (166,⟨Ji,[(0,1),(1,1)],3,16⟩),
 (167,⟨A8X,[],166,24⟩),
 (168,⟨A8Y,[],0,8⟩),
 (169,⟨A8Z,[],0,8⟩),
 (170,⟨A90,[],0,8⟩),
 (171,⟨A91,[],0,8⟩),
 (172,⟨A92,[],0,8⟩),
 (173,⟨A93,[],0,8⟩),
 (174,⟨A94,[],0,8⟩),
 (176,⟨A95,[],0,8⟩),
 (177,⟨A96,[],0,8⟩),
 (178,⟨A97,[],0,8⟩),
 (179,⟨A98,[],0,8⟩),
 (180,⟨A99,[],0,8⟩),
 (181,⟨A9a,[],0,8⟩),
 (182,⟨A9b,[],0,8⟩),
 (183,⟨A9c,[],0,8⟩),
 (184,⟨A9d,[],0,8⟩),
 (185,⟨A9e,[],0,8⟩),
 (186,⟨A9f,[],0,8⟩),
 (187,⟨A9g,[],0,8⟩),
 (188,⟨A9h,[],0,8⟩),
 (189,⟨A9i,[],0,8⟩),
 (190,⟨A9j,[],0,8⟩),
 (191,⟨A9k,[],0,8⟩),
 (192,⟨A9l,[],0,8⟩),
 (193,⟨A9m,[],0,8⟩),
 (194,⟨A9n,[],0,8⟩),
 (195,⟨A9o,[],0,8⟩),
 (196,⟨A9p,[],0,8⟩),
 (197,⟨A9q,[],0,8⟩),
 (198,⟨A9r,[],0,8⟩),
 (199,⟨A9s,[],0,8⟩),
 (200,⟨A9t,[],0,8⟩),
 (201,⟨A9u,[],0,8⟩),
 (202,⟨A9v,[],0,8⟩),
 (204,⟨A9w,[],0,8⟩),
 (205,⟨A9x,[],0,8⟩),
 (206,⟨A9y,[],0,8⟩),
 (207,⟨A9z,[],0,8⟩),
 (208,⟨A9A,[],0,8⟩),
 (209,⟨A9B,[],0,4⟩),
 (210,⟨A9C,[],0,8⟩),
 (211,⟨A9D,[],0,8⟩),
 (212,⟨A9E,[],0,8⟩),
 (213,⟨A9F,[],0,8⟩),
 (214,⟨A9G,[],0,8⟩),
 (215,⟨A9H,[],0,8⟩),
 (216,⟨A9I,[],0,8⟩),
 (217,⟨A9J,[],0,8⟩),
 (218,⟨A9K,[],0,8⟩),
 (219,⟨A9L,[],0,8⟩),
 (221,⟨A9M,[],0,8⟩),
 (222,⟨A9N,[],0,8⟩),
 (228,⟨A9O,[],0,8⟩),
 (231,⟨A9P,[],0,8⟩),
 (232,⟨A9Q,[],0,8⟩)]
theorem tyTab_ok (f) (a:List Nat) (b:List Nat:=[]) (ne:List (Nat×TypeId):=[]):DG Tryz.prog ⟨AK,f,b,ne,a⟩:=A34 (by kernel_rfl)
theorem drawsAny:Tryz.prog.follows .mixedOrders=true:=by kernel_rfl
theorem Ju:lk 1 AK=some ⟨T1,[],0,8⟩:=rfl
theorem nN:lk 2 AK=some ⟨T2,[],0,8⟩:=rfl
theorem ty3:lk 3 AK=some ⟨T3,[],0,8⟩:=rfl
theorem ty4:lk 4 AK=some ⟨T4,[],0,1⟩:=rfl
theorem ty5:lk 5 AK=some ⟨T5,[],0,1⟩:=rfl
theorem ty9:lk 9 AK=some ⟨T9,[],0,16⟩:=rfl
theorem A3I:lk 12 AK=some ⟨T12,[],0,8⟩:=rfl
theorem A3J:lk 21 AK=some ⟨T21,[],0,4⟩:=rfl
theorem A3K:lk 22 AK=some ⟨FP,[],111,24⟩:=rfl
theorem A3L:lk 23 AK=some ⟨Dv,[],49,24⟩:=rfl
theorem A3M:lk 24 AK=some ⟨T24,[(0,1)],0,24⟩:=rfl
theorem A3N:lk 25 AK=some ⟨D8,[(0,1)],0,24⟩:=rfl
theorem A3O:lk 26 AK=some ⟨T26,[],0,8⟩:=rfl
theorem A3P:lk 27 AK=some ⟨T27,[],0,8⟩:=rfl
theorem A3Q:lk 28 AK=some ⟨ST,[],84,24⟩:=rfl
theorem A3R:lk 29 AK=some ⟨TQ,[],116,24⟩:=rfl
theorem A3S:lk 30 AK=some ⟨T30,[(0,1),(1,1)],0,48⟩:=rfl
theorem A3T:lk 31 AK=some ⟨F7,[(0,1),(1,1)],0,48⟩:=rfl
theorem A3U:lk 32 AK=some ⟨T32,[],0,8⟩:=rfl
theorem A3V:lk 33 AK=some ⟨Wq,[],0,8⟩:=rfl
theorem A3W:lk 34 AK=some ⟨T34,[],0,8⟩:=rfl
theorem A3X:lk 35 AK=some ⟨T35,[],0,8⟩:=rfl
theorem A3Y:lk 36 AK=some ⟨T36,[],0,8⟩:=rfl
theorem A3Z:lk 38 AK=some ⟨T38,[],0,8⟩:=rfl
theorem A40:lk 39 AK=some ⟨T39,[],0,8⟩:=rfl
theorem A41:lk 41 AK=some ⟨T41,[],0,8⟩:=rfl
theorem A42:lk 42 AK=some ⟨T42,[],0,8⟩:=rfl
theorem A43:lk 43 AK=some ⟨T43,[],0,8⟩:=rfl
theorem A44:lk 44 AK=some ⟨T44,[],0,8⟩:=rfl
theorem A45:lk 45 AK=some ⟨T45,[],82,24⟩:=rfl
theorem A46:lk 46 AK=some ⟨T46,[],0,8⟩:=rfl
theorem A47:lk 47 AK=some ⟨Ce,[],53,24⟩:=rfl
theorem A48:lk 48 AK=some ⟨T48,[(0,1),(1,1)],0,32⟩:=rfl
theorem A49:lk 49 AK=some ⟨GH,[(0,1),(1,1)],0,32⟩:=rfl
theorem A4a:lk 51 AK=some ⟨T51,[],0,8⟩:=rfl
theorem A4b:lk 52 AK=some ⟨T52,[(0,1),(1,1)],0,16⟩:=rfl
theorem A4c:lk 53 AK=some ⟨BE,[(0,1),(1,1)],0,16⟩:=rfl
theorem A4d:lk 54 AK=some ⟨T54,[],0,8⟩:=rfl
theorem A4e:lk 55 AK=some ⟨T55,[(0,1),(1,1),(2,1)],25,72⟩:=rfl
theorem A4f:lk 56 AK=some ⟨T56,[],0,8⟩:=rfl
theorem A4g:lk 57 AK=some ⟨T57,[],0,8⟩:=rfl
theorem A4h:lk 58 AK=some ⟨T58,[],25,24⟩:=rfl
theorem A4i:lk 59 AK=some ⟨T59,[],0,8⟩:=rfl
theorem A4j:lk 60 AK=some ⟨Es,[],3,24⟩:=rfl
theorem A4k:lk 61 AK=some ⟨T61,[(0,1),(1,1),(2,1)],0,72⟩:=rfl
theorem A4l:lk 62 AK=some ⟨T62,[(0,1),(1,1),(2,1)],0,72⟩:=rfl
theorem A4m:lk 63 AK=some ⟨T63,[],0,8⟩:=rfl
theorem A4n:lk 64 AK=some ⟨T64,[],0,8⟩:=rfl
theorem A4o:lk 65 AK=some ⟨T65,[],0,8⟩:=rfl
theorem A4p:lk 66 AK=some ⟨T66,[],0,8⟩:=rfl
theorem A4q:lk 67 AK=some ⟨T67,[],0,8⟩:=rfl
theorem A4r:lk 69 AK=some ⟨T69,[],0,8⟩:=rfl
theorem A4s:lk 70 AK=some ⟨T70,[],0,8⟩:=rfl
theorem A4t:lk 71 AK=some ⟨T71,[],0,8⟩:=rfl
theorem A4u:lk 72 AK=some ⟨T72,[],0,8⟩:=rfl
theorem A4v:lk 73 AK=some ⟨T73,[(0,2),(2,1),(3,1)],0,96⟩:=rfl
theorem A4w:lk 74 AK=some ⟨T74,[(0,2),(2,1),(3,1)],0,96⟩:=rfl
theorem A4x:lk 75 AK=some ⟨T75,[],0,8⟩:=rfl
theorem A4y:lk 76 AK=some ⟨T76,[],0,8⟩:=rfl
theorem A4z:lk 77 AK=some ⟨T77,[],0,8⟩:=rfl
theorem A4A:lk 78 AK=some ⟨T78,[],0,8⟩:=rfl
theorem A4B:lk 79 AK=some ⟨T79,[],0,8⟩:=rfl
theorem A4C:lk 80 AK=some ⟨T80,[],155,24⟩:=rfl
theorem A4D:lk 81 AK=some ⟨EL,[],155,24⟩:=rfl
theorem A4E:lk 82 AK=some ⟨cJ,[],87,24⟩:=rfl
theorem A4F:lk 83 AK=some ⟨T83,[(0,1),(1,1),(2,1),(3,1)],0,88⟩:=rfl
theorem A4G:lk 84 AK=some ⟨T84,[(0,1),(1,1),(2,1),(3,1)],0,88⟩:=rfl
theorem A4H:lk 85 AK=some ⟨T85,[],0,8⟩:=rfl
theorem A4I:lk 86 AK=some ⟨T86,[(0,1),(1,1)],0,16⟩:=rfl
theorem A4J:lk 87 AK=some ⟨T87,[(0,1),(1,1)],0,16⟩:=rfl
theorem A4K:lk 88 AK=some ⟨T88,[],0,8⟩:=rfl
theorem A4L:lk 89 AK=some ⟨T89,[],0,8⟩:=rfl
theorem A4M:lk 90 AK=some ⟨T90,[],0,8⟩:=rfl
theorem A4N:lk 91 AK=some ⟨T91,[],0,8⟩:=rfl
theorem A4O:lk 92 AK=some ⟨T92,[],0,8⟩:=rfl
theorem A4P:lk 94 AK=some ⟨T94,[],0,8⟩:=rfl
theorem A4Q:lk 95 AK=some ⟨T95,[(3,4)],0,8⟩:=rfl
theorem A4R:lk 96 AK=some ⟨T96,[],0,8⟩:=rfl
theorem A4S:lk 97 AK=some ⟨T97,[],0,8⟩:=rfl
theorem A4T:lk 99 AK=some ⟨T99,[],0,8⟩:=rfl
theorem nP:lk 100 AK=some ⟨KF,[],104,24⟩:=rfl
theorem nQ:lk 102 AK=some ⟨A8d,[],0,8⟩:=rfl
theorem nS:lk 103 AK=some ⟨A9R,[(0,1),(1,1)],0,40⟩:=rfl
theorem nT:lk 104 AK=some ⟨ZP,[(0,1),(1,1)],0,40⟩:=rfl
theorem nU:lk 105 AK=some ⟨A8e,[],0,8⟩:=rfl
theorem nV:lk 107 AK=some ⟨A8f,[],0,8⟩:=rfl
theorem nW:lk 108 AK=some ⟨B9,[],9,24⟩:=rfl
theorem nX:lk 109 AK=some ⟨cK,[],154,24⟩:=rfl
theorem nY:lk 110 AK=some ⟨A9S,[(0,1),(1,1),(2,1)],0,64⟩:=rfl
theorem nZ:lk 111 AK=some ⟨vQ,[(0,1),(1,1),(2,1)],0,64⟩:=rfl
theorem n4:lk 112 AK=some ⟨A8g,[],0,8⟩:=rfl
theorem n5:lk 113 AK=some ⟨A8h,[],0,8⟩:=rfl
theorem n6:lk 114 AK=some ⟨A8i,[],0,8⟩:=rfl
theorem n7:lk 115 AK=some ⟨A8j,[(0,1),(1,1)],0,24⟩:=rfl
theorem n8:lk 116 AK=some ⟨A0r,[(0,1),(1,1)],0,24⟩:=rfl
theorem n9:lk 117 AK=some ⟨A8k,[],0,8⟩:=rfl
theorem oA:lk 118 AK=some ⟨A8l,[],0,8⟩:=rfl
theorem oB:lk 119 AK=some ⟨A8m,[],0,8⟩:=rfl
theorem oC:lk 120 AK=some ⟨A8n,[],4,24⟩:=rfl
theorem oD:lk 121 AK=some ⟨A8o,[],0,8⟩:=rfl
theorem oE:lk 122 AK=some ⟨A9T,[(0,1),(1,1),(2,1)],0,72⟩:=rfl
theorem oG:lk 123 AK=some ⟨A9U,[(0,1),(1,1),(2,1)],0,72⟩:=rfl
theorem oH:lk 124 AK=some ⟨A8p,[],0,8⟩:=rfl
theorem oI:lk 125 AK=some ⟨A8q,[],0,8⟩:=rfl
theorem oJ:lk 126 AK=some ⟨A8r,[],0,8⟩:=rfl
theorem oK:lk 127 AK=some ⟨A8s,[],0,8⟩:=rfl
theorem oL:lk 128 AK=some ⟨A3H,[],47,24⟩:=rfl
theorem oM:lk 129 AK=some ⟨A9V,[(0,2),(2,1),(3,1),(4,1)],0,120⟩:=rfl
theorem oO:lk 130 AK=some ⟨A9W,[(0,2),(2,1),(3,1),(4,1)],0,120⟩:=rfl
theorem oP:lk 131 AK=some ⟨A8t,[],0,8⟩:=rfl
theorem oQ:lk 132 AK=some ⟨A8u,[],0,8⟩:=rfl
theorem oT:lk 133 AK=some ⟨A8v,[],0,8⟩:=rfl
theorem oU:lk 134 AK=some ⟨A8w,[],0,8⟩:=rfl
theorem oV:lk 135 AK=some ⟨A8x,[],0,8⟩:=rfl
theorem oW:lk 136 AK=some ⟨A8y,[],0,8⟩:=rfl
theorem oX:lk 137 AK=some ⟨A8z,[],0,8⟩:=rfl
theorem oY:lk 138 AK=some ⟨A8A,[],0,8⟩:=rfl
theorem oZ:lk 139 AK=some ⟨A8B,[],0,8⟩:=rfl
theorem o4:lk 140 AK=some ⟨A8C,[],0,8⟩:=rfl
theorem o5:lk 142 AK=some ⟨A8D,[],0,8⟩:=rfl
theorem o6:lk 143 AK=some ⟨A8E,[],0,8⟩:=rfl
theorem o7:lk 144 AK=some ⟨S4,[],81,24⟩:=rfl
theorem o8:lk 145 AK=some ⟨A8F,[],0,8⟩:=rfl
theorem o9:lk 146 AK=some ⟨A8G,[],0,8⟩:=rfl
theorem pA:lk 147 AK=some ⟨A8H,[],0,8⟩:=rfl
theorem pB:lk 148 AK=some ⟨A8I,[],0,8⟩:=rfl
theorem pC:lk 149 AK=some ⟨A8J,[],0,8⟩:=rfl
theorem pD:lk 151 AK=some ⟨A8K,[],0,8⟩:=rfl
theorem pE:lk 152 AK=some ⟨A8L,[],0,8⟩:=rfl
theorem pF:lk 153 AK=some ⟨A8M,[(0,1),(1,1)],0,32⟩:=rfl
theorem pG:lk 154 AK=some ⟨jD,[(0,1),(1,1)],0,32⟩:=rfl
theorem pH:lk 155 AK=some ⟨Pn,[],0,8⟩:=rfl
theorem pI:lk 156 AK=some ⟨A8N,[],0,8⟩:=rfl
theorem pJ:lk 157 AK=some ⟨A8O,[],0,8⟩:=rfl
theorem pK:lk 158 AK=some ⟨A8P,[],0,8⟩:=rfl
theorem pL:lk 159 AK=some ⟨A8Q,[],0,8⟩:=rfl
theorem pM:lk 160 AK=some ⟨A8R,[(3,3)],0,8⟩:=rfl
theorem pN:lk 161 AK=some ⟨A8S,[],0,8⟩:=rfl
theorem pO:lk 162 AK=some ⟨A8T,[],0,8⟩:=rfl
theorem pP:lk 163 AK=some ⟨A8U,[],0,8⟩:=rfl
theorem pQ:lk 164 AK=some ⟨A8V,[],0,8⟩:=rfl
theorem pR:lk 165 AK=some ⟨A8W,[],0,8⟩:=rfl
theorem pS:lk 166 AK=some ⟨Ji,[(0,1),(1,1)],3,16⟩:=rfl
theorem pT:lk 167 AK=some ⟨A8X,[],166,24⟩:=rfl
theorem pU:lk 168 AK=some ⟨A8Y,[],0,8⟩:=rfl
theorem pV:lk 169 AK=some ⟨A8Z,[],0,8⟩:=rfl
theorem pW:lk 170 AK=some ⟨A90,[],0,8⟩:=rfl
theorem pX:lk 171 AK=some ⟨A91,[],0,8⟩:=rfl
theorem pY:lk 172 AK=some ⟨A92,[],0,8⟩:=rfl
theorem pZ:lk 173 AK=some ⟨A93,[],0,8⟩:=rfl
theorem p4:lk 174 AK=some ⟨A94,[],0,8⟩:=rfl
theorem p5:lk 176 AK=some ⟨A95,[],0,8⟩:=rfl
theorem p6:lk 177 AK=some ⟨A96,[],0,8⟩:=rfl
theorem p7:lk 178 AK=some ⟨A97,[],0,8⟩:=rfl
theorem p8:lk 179 AK=some ⟨A98,[],0,8⟩:=rfl
theorem p9:lk 180 AK=some ⟨A99,[],0,8⟩:=rfl
theorem qA:lk 181 AK=some ⟨A9a,[],0,8⟩:=rfl
theorem qB:lk 182 AK=some ⟨A9b,[],0,8⟩:=rfl
theorem qC:lk 183 AK=some ⟨A9c,[],0,8⟩:=rfl
theorem qD:lk 184 AK=some ⟨A9d,[],0,8⟩:=rfl
theorem qE:lk 185 AK=some ⟨A9e,[],0,8⟩:=rfl
theorem qF:lk 186 AK=some ⟨A9f,[],0,8⟩:=rfl
theorem qG:lk 187 AK=some ⟨A9g,[],0,8⟩:=rfl
theorem qH:lk 188 AK=some ⟨A9h,[],0,8⟩:=rfl
theorem qI:lk 189 AK=some ⟨A9i,[],0,8⟩:=rfl
theorem qJ:lk 190 AK=some ⟨A9j,[],0,8⟩:=rfl
theorem qK:lk 191 AK=some ⟨A9k,[],0,8⟩:=rfl
theorem qL:lk 192 AK=some ⟨A9l,[],0,8⟩:=rfl
theorem qM:lk 193 AK=some ⟨A9m,[],0,8⟩:=rfl
theorem qN:lk 194 AK=some ⟨A9n,[],0,8⟩:=rfl
theorem qO:lk 195 AK=some ⟨A9o,[],0,8⟩:=rfl
theorem qP:lk 196 AK=some ⟨A9p,[],0,8⟩:=rfl
theorem qQ:lk 197 AK=some ⟨A9q,[],0,8⟩:=rfl
theorem qR:lk 198 AK=some ⟨A9r,[],0,8⟩:=rfl
theorem qS:lk 199 AK=some ⟨A9s,[],0,8⟩:=rfl
theorem qT:lk 200 AK=some ⟨A9t,[],0,8⟩:=rfl
theorem qU:lk 201 AK=some ⟨A9u,[],0,8⟩:=rfl
theorem qV:lk 202 AK=some ⟨A9v,[],0,8⟩:=rfl
theorem qW:lk 204 AK=some ⟨A9w,[],0,8⟩:=rfl
theorem qX:lk 205 AK=some ⟨A9x,[],0,8⟩:=rfl
theorem qY:lk 206 AK=some ⟨A9y,[],0,8⟩:=rfl
theorem qZ:lk 207 AK=some ⟨A9z,[],0,8⟩:=rfl
theorem q9:lk 208 AK=some ⟨A9A,[],0,8⟩:=rfl
theorem rA:lk 209 AK=some ⟨A9B,[],0,4⟩:=rfl
theorem rE:lk 210 AK=some ⟨A9C,[],0,8⟩:=rfl
theorem rF:lk 211 AK=some ⟨A9D,[],0,8⟩:=rfl
theorem rG:lk 212 AK=some ⟨A9E,[],0,8⟩:=rfl
theorem rH:lk 213 AK=some ⟨A9F,[],0,8⟩:=rfl
theorem rI:lk 214 AK=some ⟨A9G,[],0,8⟩:=rfl
theorem rJ:lk 215 AK=some ⟨A9H,[],0,8⟩:=rfl
theorem rK:lk 216 AK=some ⟨A9I,[],0,8⟩:=rfl
theorem rO:lk 217 AK=some ⟨A9J,[],0,8⟩:=rfl
theorem rQ:lk 218 AK=some ⟨A9K,[],0,8⟩:=rfl
theorem rR:lk 219 AK=some ⟨A9L,[],0,8⟩:=rfl
theorem rS:lk 221 AK=some ⟨A9M,[],0,8⟩:=rfl
theorem rT:lk 222 AK=some ⟨A9N,[],0,8⟩:=rfl
theorem rU:lk 228 AK=some ⟨A9O,[],0,8⟩:=rfl
theorem rV:lk 231 AK=some ⟨A9P,[],0,8⟩:=rfl
theorem rW:lk 232 AK=some ⟨A9Q,[],0,8⟩:=rfl
end
section
open Go Go.RowKit
section
variable {c:Cx} {R:Exit->Act->World->Prop} {k:List Dl} {σ σ':St}
theorem vR {P:Program} {tb:Tb} {t:TypeId} {ti:TI} {e:Ty} (hT:EI P tb t ti) (c:ti.ty=.slice e) (w:World) (a:Option Addr) (n m:Nat):(Op.equal t (.slice a n m) (.slice none 0 0)).run P w=.ok a.isNone w:=by
 have b:=hT.2;rw[c]at b;exact run_equal_slice_nil w t ti.el a n m b.1
def cL:Option TI->Bool
 | some ⟨.slice _,_,_,_⟩=>true
 | _=>false
theorem Xi (g:c.Ok) {ops:Array Oper} {rest:List Oper} {d:Nat} {t:TypeId} {x:Operand} {r ty:TypeId} {pos:String} {after:Array Edge} {e:Ty} {l:List e.den} (neg:Bool)
  (G:Ah σ x=some (.p (.slice e) l)) (i:cL (lk t c.tb.ty)=true) (hk:∀b:Bool,(b=true->l=[])->HZ c R k ops rest (σ.add (.p .bool (if neg then !b else b)) [] (some d))) :
  HZ c R k ops (⟨some d,.binOp (if neg then .neq else .eql) t x (.const (.slice none 0 0)) r,ty,pos,after,none⟩ :: rest) σ:=by
 intro n z a w F;obtain⟨ρ,q⟩:=F;have y:GI (vw w c.O0 σ ρ) σ a.eval:=D6 q.env;have H:=y x _ G;obtain⟨cs,⟨ad,m,rfl,h1,N,f⟩,j⟩:=H;have j:a.eval x=.slice ad (List.length l) m:=j;unfold cL at i;split at i
 ·rename_i M offs el bytes A;have s:=g.T _ _ A;have heq:=vR s rfl w ad (List.length l) m;unfold wpListIn;rw[BY (by simp[Region.wanted])];have D:(execOp a.eval ⟨some d,.binOp (if neg then .neq else .eql) t x (.const (.slice none 0 0)) r,ty,pos,after,none⟩).run c.P w=.ok (.value (.bool (if neg then !ad.isNone else ad.isNone))) w:=by
   have I:a.eval (.const (.slice none 0 0))=.slice none 0 0:=rfl;cases neg<;>simp[execOp,j,I,eqGuard,binOp,heq]
  refine Aq D ?_ (λcl h=>by cases neg<;>cases h);have u:ad.isNone=true->l=[]:=λhn=>by
   rcases f with f|⟨J,rfl,_⟩
   ·exact f
   ·simp at hn
  have C:QS w c.O0 σ ρ (.p .bool (if neg then !ad.isNone else ad.isNone)) [] (.bool (if neg then !ad.isNone else ad.isNone)) ρ w:=QS.still (Bi _);have E:=q.add g.K g.O (dst:=some d) (λL v=>by cases v;exact Bb (n _ ABP) d rfl) rfl C;exact hk ad.isNone u (λo B=>n o (by simp[B])) z _ _ ⟨ρ,E⟩
 ·cases i
end
end
section
open Go Go.RowKit Go.ChangeShapes Go.WideShapes
set_option maxRecDepth 100000
def rZ (r:Ty->TypeId->Bool) (P:Program):Ty->Nat->List Field->Bool
 | .prod a b,o,fs=>match fs with
  | f :: fs=>f.offset==o&&P.cellsOf f.type==a.size&&r a f.type&&rZ r P b (o+a.size) fs
  | []=>false
 | s,o,[f]=>f.offset==o&&P.cellsOf f.type==s.size&&r s f.type
 | _,_,_=>false
def vS (P:Program) (m:Nat) (e:TypeId):List Field:=(List.range m).map λi=>{ (default:Field) with offset:=i*P.cellsOf e,type:=e }
def rd (P:Program):Nat->Ty->TypeId->Bool
 | 0,_,_=>false
 | _+1,.int k,t=>isI k (P.underlying t)
 | _+1,.bool,t=>match P.underlying t with|some .bool=>true|_=>false
 | _+1,.str,t=>match P.underlying t with|some .string=>true|_=>false
 | n+1,.slice e,t=>match P.underlying t with|some (.slice et)=>decide (0<P.bytesOf et)&&P.cellsOf et==e.size&&rd P n e et|_=>false
 | n+1,.agg s,t=>match P.underlying t with|some (.struct fs)=>P.cellsOf t==s.size&&rZ (rd P n) P s 0 fs.toList|some (.array m e)=>P.cellsOf t==s.size&&rZ (rd P n) P s 0 (vS P m e)|_=>false
 | _+1,_,_=>false
theorem r8 {P:Program} {n:Nat} {t:TypeId} (h:rd P (n+1) .bool t=true):P.underlying t=some .bool:=by
 simp only[rd]at h;split at h
 ·assumption
 ·cases h
theorem A0s {P:Program} {n:Nat} {t:TypeId} (h:rd P (n+1) .str t=true):P.underlying t=some .string:=by
 simp only[rd]at h;split at h
 ·assumption
 ·cases h
theorem cM {P:Program} {n:Nat} {e:Ty} {t:TypeId} (h:rd P (n+1) (.slice e) t=true):∃et,P.underlying t=some (.slice et)/\0<P.bytesOf et/\P.cellsOf et=e.size/\rd P n e et=true:=by
 simp only[rd]at h;split at h
 ·rename_i et hu;simp only[As,IS,AAN]at h;exact⟨et,hu,h.1.1,h.1.2,h.2⟩
 ·cases h
theorem A0t {P:Program} {n:Nat} {s:Ty} {t:TypeId} (h:rd P (n+1) (.agg s) t=true):(∃fs,P.underlying t=some (.struct fs)/\P.cellsOf t=s.size/\rZ (rd P n) P s 0 fs.toList=true)\/∃m e,P.underlying t=some (.array m e)/\P.cellsOf t=s.size/\rZ (rd P n) P s 0 (vS P m e)=true:=by
 simp only[rd]at h;split at h
 ·rename_i fs hu;simp only[As,AAN]at h;exact .inl ⟨fs,hu,h.1,h.2⟩
 ·rename_i m e hu;simp only[As,AAN]at h;exact .inr ⟨m,e,hu,h.1,h.2⟩
 ·cases h
theorem vT {w:World} {base:Nat} {a:Addr} {n:Nat} {cs:List Value} (h:w.cells? base a n=some cs):cs.length=n/\∀(j:Nat) (v:Value),cs[j]?=some v->w.cell? (a.add j)=some v:=by
 unfold World.cells? at h;split at h
 ·have h1:=mapM_some_length h;simp only[ABT]at h1;refine⟨h1,λj v b=>?_⟩;have c:j<n:=by
   obtain⟨c,_⟩:=bY.1 b;omega
  rw[mapM_some_get h j j (by simp[c]),b]
 ·cases h
section
variable {H:Type} {enc:TypeId×Value->H} {P:Program} {w:World} {spare:Nat->Bool} {held:Bool}
theorem cN {e:TypeId}:∀ {l:List (DataW H)} {d:DataW H},d∈l->∀n∈d.weights P e,n∈DataW.weightsAll P e l
 | a :: l,d,b,n,hn=>by
  simp only[DataW.weightsAll,OF];rcases By.1 b with rfl|b
  ·exact .inl hn
  ·exact .inr (cN b n hn)
 | [],_,b,_,_=>by cases b
theorem Xj {b:List TypeId} {a:List (DataW H)}:∀ {ts:List TypeId} {ds:List (DataW H)},∀n∈DataW.weightsEach P ts ds,n∈DataW.weightsEach P (ts++b) (ds++a)
 | t :: ts,d :: ds,n,hn=>by
  simp only[DataW.weightsEach,AC0,OF]at hn ⊢;rcases hn with hn|hn
  ·exact .inl hn
  ·exact .inr (Xj n hn)
 | [],_,n,hn=>by simp[DataW.weightsEach]at hn
 | _ :: _,[],n,hn=>by simp[DataW.weightsEach]at hn
theorem Xk {e:TypeId}:∀ {m:Nat} {k:Nat} {ds:List (DataW H)},∀n∈DataW.weightsEach P (((List.range' k m).map λi=>({ (default:Field) with offset:=i*P.cellsOf e,type:=e }:Field)).map (·.type)) ds,n∈DataW.weightsAll P e ds
 | 0,_,ds,n,hn=>by simp[DataW.weightsEach]at hn
 | m+1,k,[],n,hn=>by
  rw[ADd]at hn;simp[DataW.weightsEach]at hn
 | m+1,k,d :: ds,n,hn=>by
  rw[ADd]at hn;simp only[AAn,DataW.weightsEach,OF]at hn;simp only[DataW.weightsAll,OF];rcases hn with hn|hn
  ·exact .inl hn
  ·exact .inr (Xk n hn)
theorem SU {n:Nat} {r:Ty->TypeId->Bool}
  (A:∀ty t,r ty t=true->∀(cs:List Value) (x:DataW H×List MemPlace),DataW.trod enc P w 0 spare held n t cs=some x->(∀b∈x.1.weights P t,b<=reachBytes)->∃d:ty.den,Br w (λ_=>False) ty cs d) (cs:List Value) :
  ∀(s:Ty) (o:Nat) (fs:List Field),rZ r P s o fs=true->∀xs:List (DataW H×List MemPlace),xs.length=fs.length ->
   (∀(i:Nat) (f:Field),fs[i]?=some f->DataW.trod enc P w 0 spare held n f.type ((cs.drop f.offset).take (P.cellsOf f.type))=xs[i]?) ->
   (∀b∈DataW.weightsEach P (fs.map (·.type)) (xs.map (·.1)),b<=reachBytes)->∃d:s.den,Br w (λ_=>False) s ((cs.drop o).take s.size) d:=by
 have one:∀(s:Ty) (o:Nat) (f:Field),(f.offset==o&&P.cellsOf f.type==s.size&&r s f.type)=true->∀x:DataW H×List MemPlace,
   DataW.trod enc P w 0 spare held n f.type ((cs.drop f.offset).take (P.cellsOf f.type))=some x ->
   (∀b∈x.1.weights P f.type,b<=reachBytes)->∃d:s.den,Br w (λ_=>False) s ((cs.drop o).take s.size) d:=by
  intro s o f h x j c;simp only[As,AAN]at h;obtain⟨⟨rfl,p⟩,q⟩:=h;rw[<-p];exact A s f.type q _ x j c
 have lone:∀(s:Ty) (o:Nat) (f:Field),(f.offset==o&&P.cellsOf f.type==s.size&&r s f.type)=true->∀xs:List (DataW H×List MemPlace),xs.length=[f].length ->
   (∀(i:Nat) (g:Field),[f][i]?=some g->DataW.trod enc P w 0 spare held n g.type ((cs.drop g.offset).take (P.cellsOf g.type))=xs[i]?) ->
   (∀b∈DataW.weightsEach P ([f].map (·.type)) (xs.map (·.1)),b<=reachBytes)->∃d:s.den,Br w (λ_=>False) s ((cs.drop o).take s.size) d:=by
  intro s o f h xs m j c;obtain⟨x,rfl⟩:∃x,xs=[x]:=ABv.1 (by simpa using m);exact one s o f h x (j 0 f rfl) (λb l=>c b (by simp[DataW.weightsEach,l]))
 intro s;induction s with
 | prod a b E B =>
  intro o fs h xs m j c;cases fs with
  | nil=>simp[rZ]at h
  | cons f fs =>
   simp only[rZ,As]at h;obtain⟨⟨⟨h1,p⟩,q⟩,y⟩:=h;obtain⟨x,ys,rfl⟩:∃x ys,xs=x :: ys:=List.exists_cons_of_ne_nil (by intro h;subst h;simp at m);obtain⟨u,C⟩:=one a o f (by simp only[h1,p,q,Bool.and_self]) x (j 0 f rfl) (λb l=>c b (by
     simp only[AAn,DataW.weightsEach,OF];exact .inl l))
   obtain⟨v,D⟩:=B (o+a.size) fs y ys (by simpa using m) (λi g z=>j (i+1) g z) (λb l=>c b (by
     simp only[AAn,DataW.weightsEach,OF];exact .inr l))
   refine⟨(u,v),(cs.drop o).take a.size,(cs.drop (o+a.size)).take b.size,?_,C,D⟩;show (cs.drop o).take (a.size+b.size)=_;rw[List.take_add,ACo]
 | int k=>intro o fs h;match fs,h with|[f],h=>exact lone _ o f (by simpa only[rZ] using h)
 | bool=>intro o fs h;match fs,h with|[f],h=>exact lone _ o f (by simpa only[rZ] using h)
 | str=>intro o fs h;match fs,h with|[f],h=>exact lone _ o f (by simpa only[rZ] using h)
 | slice e _=>intro o fs h;match fs,h with|[f],h=>exact lone _ o f (by simpa only[rZ] using h)
 | agg t _=>intro o fs h;match fs,h with|[f],h=>exact lone _ o f (by simpa only[rZ] using h)
 | ref k=>intro o fs h;match fs,h with|[f],h=>exact lone _ o f (by simpa only[rZ] using h)
theorem A0u:∀(k:Nat) (ty:Ty) (t:TypeId),rd P k ty t=true->∀(n:Nat) (cs:List Value) (x:DataW H×List MemPlace),
  DataW.trod enc P w 0 spare held n t cs=some x->(∀b∈x.1.weights P t,b<=reachBytes)->∃d:ty.den,Br w (λ_=>False) ty cs d:=by
 intro k;induction k with
 | zero=>intro ty t h;simp[rd]at h
 | succ k B =>
  intro ty t h n cs x c l;cases ty with
  | int q =>
   have hu:=Y3 (by simpa only[rd] using h);obtain⟨m,rfl,rfl,F⟩:=DataW.trod_int hu c;simp only[Lit.wf,As,IS]at F;exact⟨m,rfl,F⟩
  | bool =>
   obtain⟨b,rfl,rfl⟩:=DataW.trod_bool (r8 h) c;exact⟨b,rfl⟩
  | str =>
   obtain⟨b,rfl,rfl,_⟩:=DataW.trod_string (A0s h) c;refine⟨b,rfl,?_⟩;have:=l b.data.toList.length (by simp only[DataW.weights];exact ABP);have p:b.data.toList.length=b.size:=ACd;simp only[reachBytes]at this;simp only[AO];omega
  | slice e =>
   obtain⟨et,hu,L,C,u⟩:=cM h;rcases DataW.trod_slice hu c with ⟨rfl,rfl⟩|⟨a,len,cap,elems,rest,m,rfl,rfl,rfl,-,U,-,V,Q,-,-⟩
   ·exact⟨[],none,0,rfl,NO _,Is _,.inl rfl⟩
   ·have X:len<=AO:=by
     have h1:=l ((elems.length+rest.length)*P.bytesOf et) (by simp only[DataW.weights,hu,On];exact ABP);have p:elems.length+rest.length<=(elems.length+rest.length)*P.bytesOf et:=Nat.le_mul_of_pos_right _ L;simp only[reachBytes]at h1;simp only[AO];omega
    have D:∀i,i<len->∃d:e.den,∃g:List Value,g.length=e.size/\(∀(j:Nat) (v:Value),g[j]?=some v->w.cell? (a.add (i*e.size+j))=some v)/\Br w (λ_=>False) e g d:=by
     intro i hi;have h1:=Q i hi;obtain⟨x,c⟩:∃x,elems[i]?=some x:=⟨_,AT (by omega)⟩;rw[c]at h1;obtain⟨g,p,G⟩:=Option.bind_eq_some_iff.1 h1;obtain⟨I,J⟩:=vT p;obtain⟨d,o⟩:=B e et u m g x G (λb r=>l b (by
      simp only[DataW.weights,hu];exact If _ (AAM _ (cN (Do.2 ⟨x,AB2 c,rfl⟩) b r))))
     refine⟨d,g,by rw[I,C],λj v S=>?_,o⟩;have:=J j v S
     rwa [DW,C]at this
    have K:∃ds:List e.den,ds.length=len/\∀(i:Nat) (d:e.den),ds[i]?=some d->∃g:List Value,g.length=e.size/\(∀(j:Nat) (v:Value),g[j]?=some v->w.cell? (a.add (i*e.size+j))=some v)/\Br w (λ_=>False) e g d:=by
     refine⟨(List.range len).pmap (λi hi=>Classical.choose (D i hi)) (λi hi=>oR.1 hi),by simp,λi d o=>?_⟩;rw[List.getElem?_pmap]at o;simp only[Option.pmap_eq_some_iff]at o;obtain⟨j,h1,p,rfl⟩:=o;have R:j=i:=by
      obtain⟨W,u⟩:=bY.1 p;simpa using u.symm
     subst R;exact Classical.choose_spec (D j h1)
    obtain⟨ds,N,O⟩:=K;exact⟨ds,some a,cap,by rw[N],by omega,by omega,.inr ⟨a,rfl,λh=>h,O⟩⟩
  | agg s =>
   rcases A0t h with ⟨fs,hu,M,hf⟩|⟨q,e,hu,M,hf⟩
   ·obtain⟨xs,m,rfl,rfl,T,z,A⟩:=DataW.trod_struct hu c;obtain⟨d,o⟩:=SU (λty t y cs x c l=>B ty t y m cs x c l) cs s 0 fs.toList hf xs (by simpa using z) (λi f hi=>A i f (by simpa using hi)) (by
     simpa[DataW.weights,hu] using l)
    refine⟨d,?_⟩;show Br w _ s cs d
    rwa [AAV,An (by omega)]at o
   ·obtain⟨xs,m,rfl,rfl,T,z,A⟩:=DataW.trod_array hu c;obtain⟨d,o⟩:=SU (λty t y cs x c l=>B ty t y m cs x c l) cs s 0 (vS P q e) hf xs (by simp[vS,z]) (λi f hi=>by
     unfold vS at hi;rw[AA1]at hi;by_cases E:i<q
     ·rw[AB1 E]at hi;have hi:({ (default:Field) with offset:=i*P.cellsOf e,type:=e }:Field)=f:=by simpa using hi
      rw[<-hi];exact A i E
     ·rw[iF (by simp;omega)]at hi;cases hi) (λb r=>l b (by
     simp only[DataW.weights,hu];unfold vS at r;rw[List.range_eq_range']at r;exact Xk b r))
    refine⟨d,?_⟩;show Br w _ s cs d
    rwa [AAV,An (by omega)]at o
  | prod a b=>simp[rd]at h
  | ref j=>simp[rd]at h
theorem A4U {k:Nat} {ty:Ty} {t:TypeId} {v:Value} {r:Reach} {base:Nat} (h:rd P k ty t=true) (d:Value.okWide P w r base t v):v=ty.wrap v.cells.toList:=by
 cases k with
 | zero=>simp[rd]at h
 | succ k =>
  cases ty with
  | int q =>
   obtain⟨n,rfl⟩:=okWide_int (Y3 (by simpa only[rd] using h)) d;rfl
  | bool =>
   obtain⟨n,rfl⟩:=okWide_bool (r8 h) d;rfl
  | str =>
   obtain⟨n,rfl⟩:=okWide_string (A0s h) d;rfl
  | slice e =>
   obtain⟨et,hu,_⟩:=cM h;obtain⟨a,l,c,rfl⟩:=okWide_slice hu d;rfl
  | agg s =>
   rcases A0t h with ⟨fs,hu,_⟩|⟨q,e,hu,_⟩
   ·obtain⟨cs,rfl,_⟩:=okWide_struct hu d;simp[Ty.wrap,Value.cells]
   ·simp only[Value.okWide,hu]at d;obtain⟨cs,rfl,_⟩:=d;simp[Ty.wrap,Value.cells]
  | prod a b=>simp[rd]at h
  | ref j=>simp[rd]at h
def Nn (P:Program):List Ty->List TypeId->Bool
 | [],[]=>true
 | ty :: a,t :: ts=>rd P 50 ty t&&P.readableRec t&&decide (t<P.types.size)&&Nn P a ts
 | _,_=>false
theorem cO {r:Reach} {base:Nat}:∀(a:List Ty) (ts:List TypeId) (c:List Value) (ds:List (DataW H)) (p:List MemPlace),Nn P a ts=true->DataW.TrodAll enc P w 0 spare held ts c ds p ->
  (∀(j:Nat) (t:TypeId) (v:Value),ts[j]?=some t->c[j]?=some v->Value.okWide P w r base t v)->(∀b∈DataW.weightsEach P ts ds,b<=reachBytes)->∃xs:Kb a,SE w (λ_=>False) a c xs
 | [],[],c,ds,p,_,h,_,_=>by
  obtain⟨rfl,_,_⟩:=trodAll_nil h;exact⟨(),rfl⟩
 | ty :: a,t :: ts,c,ds,p,g,h,i,e=>by
  simp only[Nn,As]at g;obtain⟨⟨⟨h1,_⟩,_⟩,m⟩:=g;obtain⟨v,k,d,l,D,A,rfl,rfl,rfl,⟨n,o⟩,q⟩:=trodAll_cons h;simp only[DataW.weightsEach,OF]at e;obtain⟨x,y⟩:=A0u 50 ty t h1 n _ _ o (λb f=>e b (.inl f));obtain⟨xs,z⟩:=cO a ts k l A m q (λj B C s u=>i (j+1) B C s u) (λb f=>e b (.inr f));exact⟨(x,xs),v,k,rfl,⟨_,y,A4U h1 (i 0 t v rfl rfl)⟩,z⟩
 | [],_ :: _,_,_,_,h,_,_,_=>by simp[Nn]at h
 | _ :: _,[],_,_,_,h,_,_,_=>by simp[Nn]at h
theorem Xl (i:laidOutB P=true) {W f:World} (g:Below W.heap.size W f):∀(e:List Ty) (ts:List TypeId) (a:List Value) (ds:List (DataW H)) (p:List MemPlace),Nn P e ts=true ->
  DataW.TrodAll enc P W 0 (λ_=>true) true ts a ds p->(∀x∈p,x.block<W.heap.size)->DataW.TrodAll enc P f 0 (λb=>decide (b<W.heap.size)) true ts a ds p
 | [],[],a,ds,p,_,h,_=>by
  obtain⟨rfl,rfl,rfl⟩:=trodAll_nil h;rfl
 | ty :: e,t :: ts,a,ds,p,k,h,j=>by
  simp only[Nn,As,IS]at k;obtain⟨⟨⟨_,h1⟩,n⟩,o⟩:=k;obtain⟨v,u,d,m,s,l,rfl,rfl,rfl,q,r⟩:=trodAll_cons h;exact⟨s,l,Below.trod i h1 n q g (λx c=>j x (AAM _ c)),Xl i g e ts u m l o r (λx c=>j x (ABB _ c)),rfl⟩
 | [],_ :: _,_,_,_,h,_,_=>by simp[Nn]at h
 | _ :: _,[],_,_,_,h,_,_=>by simp[Nn]at h
end
theorem A0v {w:World} {O:Nat->Prop} {u:Value} {w':World} (h:zL w O [.p .bool true] u w'):u=.bool true/\Below w.heap.size w w':=by
 obtain⟨ρ',a⟩:=h 0;refine⟨?_,a.below⟩;obtain⟨cs,h1,b⟩:BX _ _ .bool u true:=a.av;have h1:cs=[.bool true]:=h1;rw[b,h1];rfl
theorem A0w {P:Program} {f:FuncId} {fn:Func} {sp:Ae} {s:ChangeSpec} {tb:TypeId} (J:Af P f sp) (L:∀ds,sp.pre ds) (K:∀ds,sp.out ds=[.p .bool true])
  (F:laidOutB P=true) (r:Nn P sp.ins fn.params.toList=true) (N:fn.resultTypes=#[tb]) (D:P.underlying tb=some .bool) (w:s.vars=[])
  (hs:∀(H:Type) (ds:List (DataW H)),ds.length=fn.params.size->(s.fn H ds).results=[.lit (.bool true)]/\(s.fn H ds).args=ds/\(s.fn H ds).vars=[])
  {H:Type} {enc:TypeId×Value->H} {W:World} {base:Nat} {args:Array Value} {ds l:List (DataW H)} {y:List MemPlace} {X:List TypeId}
  (S:∀(j:Nat) t v,fn.params[j]?=some t->args[j]?=some v->Value.okWide P W .any base t v)
  (n:DataW.Whole enc P fn.params.toList s.vars false W args.toList ds l y)
  (O:(DataW.weightsEach P (fn.params.toList++X) (ds++l)).all (·<=reachBytes)=true) :
  Calls P f args W λe k=>∃v,e=.returned v/\s.post enc P fn false true false false W args v k:=by
 have o:=n;obtain⟨p,q,c,m,rfl,Z,aa⟩:=n;rw[w]at m;obtain⟨rfl,rfl⟩:=trodVars_none m;obtain⟨xs,U⟩:=cO sp.ins fn.params.toList args.toList ds p r c (λj t v Q R=>S j t v (by simpa using Q) (by simpa using R))
  (λb a=>by simpa using IN.1 O b (Xj b a))
 have I:∀x∈p,x.block<W.heap.size:=λx T=>by simpa using o.lt x (AAM _ T)
 have G:ds.length=fn.params.size:=by
  have:∀(ts:List TypeId) (i:List Value) (ds:List (DataW H)) (p:List MemPlace),DataW.TrodAll enc P W 0 (λ_=>true) true ts i ds p->ds.length=ts.length:=by
   intro ts;induction ts with
   | nil=>intro i ds p h;obtain⟨_,rfl,_⟩:=trodAll_nil h;rfl
   | cons t ts V=>intro i ds p h;obtain⟨v,ae,d,Y,ab,ad,rfl,rfl,rfl,_,M⟩:=trodAll_cons h;simp[V _ _ _ M]
  simpa using this _ _ _ _ c
 have g:=J.2 W (λ_=>False) args.toList xs (λ_ h=>h.elim) U (L xs);rw[K]at g;have C:args.toList.toArray=args:=by simp
 rw[C]at g;refine g.mono λe k ⟨u,E,hu⟩=>?_;obtain⟨rfl,a⟩:=A0v hu;obtain⟨z,A,B⟩:=hs H (ds++[]) (by simpa using G);refine⟨_,E,_,_,_,[],p,[],o,?_,?_,?_,a.frame _,λh=>by cases h⟩
 ·rw[z,N];exact trodAll_mk1 (shut_bool D _)
 ·rw[A,AAu];exact Xl F a sp.ins _ _ _ _ r c I
 ·rw[B,w];rfl
end
end Go.Proofs.YtdapahgnpbehbaaGreat.Fw

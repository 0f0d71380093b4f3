/- This program's types; a slice compared with nil; from a contract to the given statement. -/
import Derived.Test.YtdapahgnpbehbaaGreatKZI
import Derived.Test.YtdapahgnpbehbaaGreatChecked
import Derived.Laws.Cover3
import Derived.Carry
import Derived.SizedLaws
import Derived.OpenShut
set_option linter.unusedVariables false
set_option linter.unusedSimpArgs false
namespace Go.Proofs.YtdapahgnpbehbaaGreat.Fw
section
open Go
abbrev T1:Ty:=.ref 1
abbrev T2:Ty:=.int .i64
abbrev T3:Ty:=.int .i64
abbrev T4:Ty:=.bool
abbrev T5:Ty:=.int .u8
abbrev T9:Ty:=.str
abbrev T12:Ty:=.int .u64
abbrev T21:Ty:=.int .i32
abbrev T26:Ty:=.ref 1
abbrev T27:Ty:=.ref 1
abbrev T32:Ty:=.ref 1
abbrev Th:Ty:=.int .i64
abbrev T34:Ty:=.ref 1
abbrev T35:Ty:=.ref 1
abbrev T36:Ty:=.ref 1
abbrev T38:Ty:=.ref 1
abbrev T39:Ty:=.ref 1
abbrev T41:Ty:=.ref 1
abbrev T42:Ty:=.ref 1
abbrev T43:Ty:=.ref 1
abbrev T44:Ty:=.ref 1
abbrev T46:Ty:=.ref 1
abbrev T51:Ty:=.ref 1
abbrev T52:Ty:=.agg (.prod T3 (T3))
abbrev BK:Ty:=.agg (.prod T3 (T3))
abbrev T54:Ty:=.ref 1
abbrev T56:Ty:=.ref 1
abbrev T57:Ty:=.ref 1
abbrev T59:Ty:=.ref 1
abbrev I4:Ty:=.slice T3
abbrev T63:Ty:=.ref 1
abbrev T64:Ty:=.ref 1
abbrev T65:Ty:=.ref 1
abbrev T66:Ty:=.ref 1
abbrev T67:Ty:=.ref 1
abbrev T69:Ty:=.ref 1
abbrev T70:Ty:=.ref 1
abbrev T71:Ty:=.ref 1
abbrev T72:Ty:=.ref 0
abbrev T75:Ty:=.ref 1
abbrev T76:Ty:=.ref 1
abbrev T77:Ty:=.ref 1
abbrev T78:Ty:=.ref 1
abbrev T79:Ty:=.ref 1
abbrev T85:Ty:=.ref 1
abbrev T86:Ty:=.agg (.prod T3 (T3))
abbrev T87:Ty:=.agg (.prod T3 (T3))
abbrev T88:Ty:=.ref 1
abbrev T89:Ty:=.ref 1
abbrev T90:Ty:=.ref 1
abbrev T91:Ty:=.ref 1
abbrev T92:Ty:=.ref 1
abbrev T94:Ty:=.ref 1
abbrev T95:Ty:=.ref 2
abbrev T96:Ty:=.ref 1
abbrev T97:Ty:=.ref 1
abbrev T99:Ty:=.ref 1
abbrev A4F:Ty:=.ref 1
abbrev A4G:Ty:=.ref 1
abbrev A4H:Ty:=.ref 1
abbrev B5:Ty:=.slice T9
abbrev A4I:Ty:=.ref 1
abbrev A4J:Ty:=.ref 1
abbrev A4K:Ty:=.ref 1
abbrev A4L:Ty:=.agg (.prod T9 (T3))
abbrev v8:Ty:=.agg (.prod T9 (T3))
abbrev A4M:Ty:=.ref 1
abbrev A4N:Ty:=.ref 1
abbrev A4O:Ty:=.ref 1
abbrev A4P:Ty:=.slice T4
abbrev A4Q:Ty:=.ref 0
abbrev A4R:Ty:=.ref 1
abbrev A4S:Ty:=.ref 1
abbrev A4T:Ty:=.ref 1
abbrev A4U:Ty:=.ref 0
abbrev A4V:Ty:=.ref 1
abbrev A4W:Ty:=.ref 1
abbrev A4X:Ty:=.ref 1
abbrev A4Y:Ty:=.ref 1
abbrev A4Z:Ty:=.ref 1
abbrev A50:Ty:=.ref 1
abbrev A51:Ty:=.ref 1
abbrev A52:Ty:=.ref 1
abbrev A53:Ty:=.ref 1
abbrev A54:Ty:=.ref 1
abbrev A55:Ty:=.ref 1
abbrev A56:Ty:=.ref 1
abbrev A57:Ty:=.ref 1
abbrev A58:Ty:=.ref 1
abbrev A59:Ty:=.ref 1
abbrev A5a:Ty:=.ref 1
abbrev A5b:Ty:=.ref 1
abbrev A5c:Ty:=.ref 1
abbrev A5d:Ty:=.ref 1
abbrev A5e:Ty:=.agg (.prod T9 (T9))
abbrev jP:Ty:=.agg (.prod T9 (T9))
abbrev O4:Ty:=.int .u64
abbrev A5f:Ty:=.ref 1
abbrev A5g:Ty:=.ref 1
abbrev A5h:Ty:=.ref 1
abbrev A5i:Ty:=.ref 1
abbrev A5j:Ty:=.ref 2
abbrev A5k:Ty:=.ref 1
abbrev A5l:Ty:=.ref 1
abbrev A5m:Ty:=.ref 1
abbrev A5n:Ty:=.ref 1
abbrev A5o:Ty:=.ref 1
abbrev A3B:Ty:=.agg (.prod T3 (T3))
abbrev A5p:Ty:=.slice A3B
abbrev A5q:Ty:=.ref 1
abbrev A5r:Ty:=.ref 1
abbrev A5s:Ty:=.ref 1
abbrev A5t:Ty:=.ref 1
abbrev A5u:Ty:=.ref 1
abbrev A5v:Ty:=.ref 1
abbrev A5w:Ty:=.ref 1
abbrev A5x:Ty:=.ref 1
abbrev A5y:Ty:=.ref 1
abbrev A5z:Ty:=.ref 1
abbrev A5A:Ty:=.ref 1
abbrev A5B:Ty:=.ref 1
abbrev A5C:Ty:=.ref 1
abbrev A5D:Ty:=.ref 1
abbrev A5E:Ty:=.ref 1
abbrev A5F:Ty:=.ref 1
abbrev A5G:Ty:=.ref 1
abbrev A5H:Ty:=.ref 1
abbrev A5I:Ty:=.ref 1
abbrev A5J:Ty:=.ref 1
abbrev A5K:Ty:=.ref 1
abbrev A5L:Ty:=.ref 1
abbrev A5M:Ty:=.ref 1
abbrev A5N:Ty:=.int .u64
abbrev A5O:Ty:=.ref 1
abbrev A5P:Ty:=.ref 1
abbrev A5Q:Ty:=.ref 1
abbrev A5R:Ty:=.ref 1
abbrev A5S:Ty:=.ref 1
abbrev A5T:Ty:=.ref 1
abbrev A5U:Ty:=.ref 1
abbrev A5V:Ty:=.ref 1
abbrev A5W:Ty:=.ref 1
abbrev A5X:Ty:=.int .i64
abbrev A5Y:Ty:=.ref 1
abbrev A5Z:Ty:=.ref 1
abbrev A60:Ty:=.ref 1
abbrev A61:Ty:=.ref 1
abbrev A62:Ty:=.ref 1
abbrev A63:Ty:=.int .u32
abbrev A64:Ty:=.ref 1
abbrev A65:Ty:=.ref 1
abbrev A66:Ty:=.ref 1
abbrev A67:Ty:=.int .u64
abbrev A68:Ty:=.ref 1
abbrev A69:Ty:=.ref 1
abbrev A6a:Ty:=.ref 1
abbrev A6b:Ty:=.ref 0
abbrev A6c:Ty:=.ref 1
abbrev A6d:Ty:=.ref 0
abbrev A6e:Ty:=.ref 1
abbrev A6f:Ty:=.ref 1
abbrev A6g:Ty:=.ref 1
abbrev A6h:Ty:=.ref 1
abbrev A6i:Ty:=.ref 0
abbrev Nq:Ty:=.slice v8
abbrev Ii:Ty:=.slice BK
abbrev T48:Ty:=.agg (.prod T3 (Ii))
abbrev LJ:Ty:=.agg (.prod T3 (Ii))
abbrev T80:Ty:=.slice O4
abbrev D7:Ty:=.slice O4
abbrev Wb:Ty:=.slice T87
abbrev T83:Ty:=.agg (.prod T9 (.prod D7 (.prod I4 (Wb))))
abbrev T84:Ty:=.agg (.prod T9 (.prod D7 (.prod I4 (Wb))))
abbrev A6j:Ty:=.agg (.prod T9 (D7))
abbrev YC:Ty:=.agg (.prod T9 (D7))
abbrev Zu:Ty:=.slice jP
abbrev A6k:Ty:=.agg (.prod T9 (.prod B5 (Zu)))
abbrev qN:Ty:=.agg (.prod T9 (.prod B5 (Zu)))
abbrev A1M:Ty:=.slice Ii
abbrev SD:Ty:=.slice D7
abbrev E5:Ty:=.slice qN
abbrev Et:Ty:=.slice LJ
abbrev T24:Ty:=.agg (Et)
abbrev FZ:Ty:=.agg (Et)
abbrev M6:Ty:=.slice T84
abbrev T30:Ty:=.agg (.prod M6 (Nq))
abbrev Lb:Ty:=.agg (.prod M6 (Nq))
abbrev qO:Ty:=.slice Wb
abbrev T55:Ty:=.agg (.prod FZ (.prod FZ (FZ)))
abbrev T58:Ty:=.slice FZ
abbrev T61:Ty:=.agg (.prod FZ (.prod I4 (FZ)))
abbrev T62:Ty:=.agg (.prod FZ (.prod I4 (FZ)))
abbrev T73:Ty:=.agg (.prod Lb (.prod I4 (I4)))
abbrev T74:Ty:=.agg (.prod Lb (.prod I4 (I4)))
abbrev Jx:Ty:=.slice YC
abbrev A6l:Ty:=.agg (.prod FZ (.prod I4 (I4)))
abbrev A6m:Ty:=.agg (.prod FZ (.prod I4 (I4)))
abbrev A6n:Ty:=.agg (.prod Lb (.prod I4 (.prod I4 (A1M))))
abbrev A6o:Ty:=.agg (.prod Lb (.prod I4 (.prod I4 (A1M))))
set_option maxRecDepth 100000
def AK:List (Nat×TI):=[(1,⟨T1,[],0,8⟩),
 (2,⟨T2,[],0,8⟩),
 (3,⟨T3,[],0,8⟩),
 (4,⟨T4,[],0,1⟩),
 (5,⟨T5,[],0,1⟩),
 (9,⟨T9,[],0,16⟩),
 (12,⟨T12,[],0,8⟩),
 (21,⟨T21,[],0,4⟩),
 (22,⟨E5,[],111,24⟩),
 (23,⟨Et,[],49,24⟩),
 (24,⟨T24,[(0,1)],0,24⟩),
 (25,⟨FZ,[(0,1)],0,24⟩),
 (26,⟨T26,[],0,8⟩),
 (27,⟨T27,[],0,8⟩),
 (28,⟨M6,[],84,24⟩),
 (29,⟨Nq,[],116,24⟩),
 (30,⟨T30,[(0,1),(1,1)],0,48⟩),
 (31,⟨Lb,[(0,1),(1,1)],0,48⟩),
 (32,⟨T32,[],0,8⟩),
 (33,⟨Th,[],0,8⟩),
 (34,⟨T34,[],0,8⟩),
 (35,⟨T35,[],0,8⟩),
 (36,⟨T36,[],0,8⟩),
 (38,⟨T38,[],0,8⟩),
 (39,⟨T39,[],0,8⟩),
 (41,⟨T41,[],0,8⟩),
 (42,⟨T42,[],0,8⟩),
 (43,⟨T43,[],0,8⟩),
 (44,⟨T44,[],0,8⟩),
 (45,⟨qO,[],82,24⟩),
 (46,⟨T46,[],0,8⟩),
 (47,⟨Ii,[],53,24⟩),
 (48,⟨T48,[(0,1),(1,1)],0,32⟩),
 (49,⟨LJ,[(0,1),(1,1)],0,32⟩),
 (51,⟨T51,[],0,8⟩),
 (52,⟨T52,[(0,1),(1,1)],0,16⟩),
 (53,⟨BK,[(0,1),(1,1)],0,16⟩),
 (54,⟨T54,[],0,8⟩),
 (55,⟨T55,[(0,1),(1,1),(2,1)],25,72⟩),
 (56,⟨T56,[],0,8⟩),
 (57,⟨T57,[],0,8⟩),
 (58,⟨T58,[],25,24⟩),
 (59,⟨T59,[],0,8⟩),
 (60,⟨I4,[],3,24⟩),
 (61,⟨T61,[(0,1),(1,1),(2,1)],0,72⟩),
 (62,⟨T62,[(0,1),(1,1),(2,1)],0,72⟩),
 (63,⟨T63,[],0,8⟩),
 (64,⟨T64,[],0,8⟩),
 (65,⟨T65,[],0,8⟩),
 (66,⟨T66,[],0,8⟩),
 (67,⟨T67,[],0,8⟩),
 (69,⟨T69,[],0,8⟩),
 (70,⟨T70,[],0,8⟩),
 (71,⟨T71,[],0,8⟩),
 (72,⟨T72,[],0,8⟩),
 (73,⟨T73,[(0,2),(2,1),(3,1)],0,96⟩),
 (74,⟨T74,[(0,2),(2,1),(3,1)],0,96⟩),
 (75,⟨T75,[],0,8⟩),
 (76,⟨T76,[],0,8⟩),
 (77,⟨T77,[],0,8⟩),
 (78,⟨T78,[],0,8⟩),
 (79,⟨T79,[],0,8⟩),
 (80,⟨T80,[],155,24⟩),
 (81,⟨D7,[],155,24⟩),
 (82,⟨Wb,[],87,24⟩),
 (83,⟨T83,[(0,1),(1,1),(2,1),(3,1)],0,88⟩),
 (84,⟨T84,[(0,1),(1,1),(2,1),(3,1)],0,88⟩),
 (85,⟨T85,[],0,8⟩),
 (86,⟨T86,[(0,1),(1,1)],0,16⟩),
 (87,⟨T87,[(0,1),(1,1)],0,16⟩),
 (88,⟨T88,[],0,8⟩),
 (89,⟨T89,[],0,8⟩),
 (90,⟨T90,[],0,8⟩),
 (91,⟨T91,[],0,8⟩),
 (92,⟨T92,[],0,8⟩),
 (94,⟨T94,[],0,8⟩),
 (95,⟨T95,[(3,4)],0,8⟩),
 (96,⟨T96,[],0,8⟩),
 (97,⟨T97,[],0,8⟩),
 (99,⟨T99,[],0,8⟩),
 (100,⟨Jx,[],104,24⟩),
 (102,⟨A4F,[],0,8⟩),
 (103,⟨A6j,[(0,1),(1,1)],0,40⟩),
 (104,⟨YC,[(0,1),(1,1)],0,40⟩),
 (105,⟨A4G,[],0,8⟩),
 (107,⟨A4H,[],0,8⟩),
 (108,⟨B5,[],9,24⟩),
 (109,⟨Zu,[],154,24⟩),
 (110,⟨A6k,[(0,1),(1,1),(2,1)],0,64⟩),
 (111,⟨qN,[(0,1),(1,1),(2,1)],0,64⟩),
 (112,⟨A4I,[],0,8⟩),
 (113,⟨A4J,[],0,8⟩),
 (114,⟨A4K,[],0,8⟩),
 (115,⟨A4L,[(0,1),(1,1)],0,24⟩),
 (116,⟨v8,[(0,1),(1,1)],0,24⟩),
 (117,⟨A4M,[],0,8⟩),
 (118,⟨A4N,[],0,8⟩),
 (119,⟨A4O,[],0,8⟩),
 (120,⟨A4P,[],4,24⟩),
 (121,⟨A4Q,[],0,8⟩),
 (122,⟨A6l,[(0,1),(1,1),(2,1)],0,72⟩),
 (123,⟨A6m,[(0,1),(1,1),(2,1)],0,72⟩),
 (124,⟨A4R,[],0,8⟩),
 (125,⟨A4S,[],0,8⟩),
 (126,⟨A4T,[],0,8⟩),
 (127,⟨A4U,[],0,8⟩),
 (128,⟨A1M,[],47,24⟩),
 (129,⟨A6n,[(0,2),(2,1),(3,1),(4,1)],0,120⟩),
 (130,⟨A6o,[(0,2),(2,1),(3,1),(4,1)],0,120⟩),
 (131,⟨A4V,[],0,8⟩),
 (132,⟨A4W,[],0,8⟩),
 (133,⟨A4X,[],0,8⟩),
 (134,⟨A4Y,[],0,8⟩),
 (135,⟨A4Z,[],0,8⟩),
 (136,⟨A50,[],0,8⟩),
 (137,⟨A51,[],0,8⟩),
 (138,⟨A52,[],0,8⟩),
 (139,⟨A53,[],0,8⟩),
 (140,⟨A54,[],0,8⟩),
 (142,⟨A55,[],0,8⟩),
 (143,⟨A56,[],0,8⟩),
 (144,⟨SD,[],81,24⟩),
 (145,⟨A57,[],0,8⟩),
 (146,⟨A58,[],0,8⟩),
 (147,⟨A59,[],0,8⟩),
 (148,⟨A5a,[],0,8⟩),
 (149,⟨A5b,[],0,8⟩),
 (151,⟨A5c,[],0,8⟩),
 (152,⟨A5d,[],0,8⟩),
 (153,⟨A5e,[(0,1),(1,1)],0,32⟩),
 (154,⟨jP,[(0,1),(1,1)],0,32⟩),
 (155,⟨O4,[],0,8⟩),
 (156,⟨A5f,[],0,8⟩),
 (157,⟨A5g,[],0,8⟩),
 (158,⟨A5h,[],0,8⟩),
 (159,⟨A5i,[],0,8⟩),
 (160,⟨A5j,[(3,3)],0,8⟩),
 (161,⟨A5k,[],0,8⟩),
 (162,⟨A5l,[],0,8⟩),
 (163,⟨A5m,[],0,8⟩),
 (164,⟨A5n,[],0,8⟩),
 (165,⟨A5o,[],0,8⟩),
 (166,⟨A3B,[(0,1),(1,1)],3,16⟩),
 (167,⟨A5p,[],166,24⟩),
 (168,⟨A5q,[],0,8⟩),
 (169,⟨A5r,[],0,8⟩),
 (170,⟨A5s,[],0,8⟩),
 (171,⟨A5t,[],0,8⟩),
 (172,⟨A5u,[],0,8⟩),
 (173,⟨A5v,[],0,8⟩),
 (174,⟨A5w,[],0,8⟩),
 (176,⟨A5x,[],0,8⟩),
 (177,⟨A5y,[],0,8⟩),
 (178,⟨A5z,[],0,8⟩),
 (179,⟨A5A,[],0,8⟩),
 (180,⟨A5B,[],0,8⟩),
 (181,⟨A5C,[],0,8⟩),
 (182,⟨A5D,[],0,8⟩),
 (183,⟨A5E,[],0,8⟩),
 (184,⟨A5F,[],0,8⟩),
 (185,⟨A5G,[],0,8⟩),
 (186,⟨A5H,[],0,8⟩),
 (187,⟨A5I,[],0,8⟩),
 (188,⟨A5J,[],0,8⟩),
 (189,⟨A5K,[],0,8⟩),
 (190,⟨A5L,[],0,8⟩),
 (191,⟨A5M,[],0,8⟩),
 (192,⟨A5N,[],0,8⟩),
 (193,⟨A5O,[],0,8⟩),
 (194,⟨A5P,[],0,8⟩),
 (195,⟨A5Q,[],0,8⟩),
 (196,⟨A5R,[],0,8⟩),
 (197,⟨A5S,[],0,8⟩),
 (198,⟨A5T,[],0,8⟩),
 (199,⟨A5U,[],0,8⟩),
 (200,⟨A5V,[],0,8⟩),
 (201,⟨A5W,[],0,8⟩),
 (202,⟨A5X,[],0,8⟩),
 (204,⟨A5Y,[],0,8⟩),
 (205,⟨A5Z,[],0,8⟩),
 (206,⟨A60,[],0,8⟩),
 (207,⟨A61,[],0,8⟩),
 (208,⟨A62,[],0,8⟩),
 (209,⟨A63,[],0,4⟩),
 (210,⟨A64,[],0,8⟩),
 (211,⟨A65,[],0,8⟩),
 (212,⟨A66,[],0,8⟩),
 (213,⟨A67,[],0,8⟩),
 (214,⟨A68,[],0,8⟩),
 (215,⟨A69,[],0,8⟩),
 (216,⟨A6a,[],0,8⟩),
 (217,⟨A6b,[],0,8⟩),
 (218,⟨A6c,[],0,8⟩),
 (219,⟨A6d,[],0,8⟩),
 (221,⟨A6e,[],0,8⟩),
 (222,⟨A6f,[],0,8⟩),
 (228,⟨A6g,[],0,8⟩),
 (231,⟨A6h,[],0,8⟩),
 (232,⟨A6i,[],0,8⟩)]
theorem tyTab_ok (f) (a:List Nat) (b:List Nat:=[]) (ne:List (Nat×TypeId):=[]):DB Tryz.prog ⟨AK,f,b,ne,a⟩:=A1a (by kernel_rfl)
theorem drawsAny:Tryz.prog.follows .mixedOrders=true:=by kernel_rfl
theorem JY:lk 1 AK=some ⟨T1,[],0,8⟩:=rfl
theorem jQ:lk 2 AK=some ⟨T2,[],0,8⟩:=rfl
theorem ty3:lk 3 AK=some ⟨T3,[],0,8⟩:=rfl
theorem ty4:lk 4 AK=some ⟨T4,[],0,1⟩:=rfl
theorem ty5:lk 5 AK=some ⟨T5,[],0,1⟩:=rfl
theorem ty9:lk 9 AK=some ⟨T9,[],0,16⟩:=rfl
theorem v9:lk 12 AK=some ⟨T12,[],0,8⟩:=rfl
theorem wA:lk 21 AK=some ⟨T21,[],0,4⟩:=rfl
theorem wB:lk 22 AK=some ⟨E5,[],111,24⟩:=rfl
theorem wC:lk 23 AK=some ⟨Et,[],49,24⟩:=rfl
theorem wD:lk 24 AK=some ⟨T24,[(0,1)],0,24⟩:=rfl
theorem wE:lk 25 AK=some ⟨FZ,[(0,1)],0,24⟩:=rfl
theorem wF:lk 26 AK=some ⟨T26,[],0,8⟩:=rfl
theorem wG:lk 27 AK=some ⟨T27,[],0,8⟩:=rfl
theorem wH:lk 28 AK=some ⟨M6,[],84,24⟩:=rfl
theorem wI:lk 29 AK=some ⟨Nq,[],116,24⟩:=rfl
theorem wJ:lk 30 AK=some ⟨T30,[(0,1),(1,1)],0,48⟩:=rfl
theorem wK:lk 31 AK=some ⟨Lb,[(0,1),(1,1)],0,48⟩:=rfl
theorem wL:lk 32 AK=some ⟨T32,[],0,8⟩:=rfl
theorem wM:lk 33 AK=some ⟨Th,[],0,8⟩:=rfl
theorem wN:lk 34 AK=some ⟨T34,[],0,8⟩:=rfl
theorem wO:lk 35 AK=some ⟨T35,[],0,8⟩:=rfl
theorem wP:lk 36 AK=some ⟨T36,[],0,8⟩:=rfl
theorem wQ:lk 38 AK=some ⟨T38,[],0,8⟩:=rfl
theorem wR:lk 39 AK=some ⟨T39,[],0,8⟩:=rfl
theorem wS:lk 41 AK=some ⟨T41,[],0,8⟩:=rfl
theorem wT:lk 42 AK=some ⟨T42,[],0,8⟩:=rfl
theorem wU:lk 43 AK=some ⟨T43,[],0,8⟩:=rfl
theorem wV:lk 44 AK=some ⟨T44,[],0,8⟩:=rfl
theorem wW:lk 45 AK=some ⟨qO,[],82,24⟩:=rfl
theorem wX:lk 46 AK=some ⟨T46,[],0,8⟩:=rfl
theorem wY:lk 47 AK=some ⟨Ii,[],53,24⟩:=rfl
theorem wZ:lk 48 AK=some ⟨T48,[(0,1),(1,1)],0,32⟩:=rfl
theorem w3:lk 49 AK=some ⟨LJ,[(0,1),(1,1)],0,32⟩:=rfl
theorem w4:lk 51 AK=some ⟨T51,[],0,8⟩:=rfl
theorem w5:lk 52 AK=some ⟨T52,[(0,1),(1,1)],0,16⟩:=rfl
theorem w7:lk 53 AK=some ⟨BK,[(0,1),(1,1)],0,16⟩:=rfl
theorem w8:lk 54 AK=some ⟨T54,[],0,8⟩:=rfl
theorem w9:lk 55 AK=some ⟨T55,[(0,1),(1,1),(2,1)],25,72⟩:=rfl
theorem xA:lk 56 AK=some ⟨T56,[],0,8⟩:=rfl
theorem xB:lk 57 AK=some ⟨T57,[],0,8⟩:=rfl
theorem xC:lk 58 AK=some ⟨T58,[],25,24⟩:=rfl
theorem xD:lk 59 AK=some ⟨T59,[],0,8⟩:=rfl
theorem xE:lk 60 AK=some ⟨I4,[],3,24⟩:=rfl
theorem xF:lk 61 AK=some ⟨T61,[(0,1),(1,1),(2,1)],0,72⟩:=rfl
theorem xG:lk 62 AK=some ⟨T62,[(0,1),(1,1),(2,1)],0,72⟩:=rfl
theorem xH:lk 63 AK=some ⟨T63,[],0,8⟩:=rfl
theorem xI:lk 64 AK=some ⟨T64,[],0,8⟩:=rfl
theorem xJ:lk 65 AK=some ⟨T65,[],0,8⟩:=rfl
theorem xK:lk 66 AK=some ⟨T66,[],0,8⟩:=rfl
theorem xL:lk 67 AK=some ⟨T67,[],0,8⟩:=rfl
theorem xM:lk 69 AK=some ⟨T69,[],0,8⟩:=rfl
theorem xN:lk 70 AK=some ⟨T70,[],0,8⟩:=rfl
theorem xO:lk 71 AK=some ⟨T71,[],0,8⟩:=rfl
theorem xP:lk 72 AK=some ⟨T72,[],0,8⟩:=rfl
theorem xQ:lk 73 AK=some ⟨T73,[(0,2),(2,1),(3,1)],0,96⟩:=rfl
theorem xR:lk 74 AK=some ⟨T74,[(0,2),(2,1),(3,1)],0,96⟩:=rfl
theorem xS:lk 75 AK=some ⟨T75,[],0,8⟩:=rfl
theorem xT:lk 76 AK=some ⟨T76,[],0,8⟩:=rfl
theorem xU:lk 77 AK=some ⟨T77,[],0,8⟩:=rfl
theorem xV:lk 78 AK=some ⟨T78,[],0,8⟩:=rfl
theorem xW:lk 79 AK=some ⟨T79,[],0,8⟩:=rfl
theorem xX:lk 80 AK=some ⟨T80,[],155,24⟩:=rfl
theorem xY:lk 81 AK=some ⟨D7,[],155,24⟩:=rfl
theorem xZ:lk 82 AK=some ⟨Wb,[],87,24⟩:=rfl
theorem x5:lk 83 AK=some ⟨T83,[(0,1),(1,1),(2,1),(3,1)],0,88⟩:=rfl
theorem x6:lk 84 AK=some ⟨T84,[(0,1),(1,1),(2,1),(3,1)],0,88⟩:=rfl
theorem x7:lk 85 AK=some ⟨T85,[],0,8⟩:=rfl
theorem x8:lk 86 AK=some ⟨T86,[(0,1),(1,1)],0,16⟩:=rfl
theorem x9:lk 87 AK=some ⟨T87,[(0,1),(1,1)],0,16⟩:=rfl
theorem yA:lk 88 AK=some ⟨T88,[],0,8⟩:=rfl
theorem yB:lk 89 AK=some ⟨T89,[],0,8⟩:=rfl
theorem yC:lk 90 AK=some ⟨T90,[],0,8⟩:=rfl
theorem yD:lk 91 AK=some ⟨T91,[],0,8⟩:=rfl
theorem yE:lk 92 AK=some ⟨T92,[],0,8⟩:=rfl
theorem yF:lk 94 AK=some ⟨T94,[],0,8⟩:=rfl
theorem yG:lk 95 AK=some ⟨T95,[(3,4)],0,8⟩:=rfl
theorem yH:lk 96 AK=some ⟨T96,[],0,8⟩:=rfl
theorem yI:lk 97 AK=some ⟨T97,[],0,8⟩:=rfl
theorem yJ:lk 99 AK=some ⟨T99,[],0,8⟩:=rfl
theorem Zv:lk 100 AK=some ⟨Jx,[],104,24⟩:=rfl
theorem Zw:lk 102 AK=some ⟨A4F,[],0,8⟩:=rfl
theorem Zx:lk 103 AK=some ⟨A6j,[(0,1),(1,1)],0,40⟩:=rfl
theorem Zy:lk 104 AK=some ⟨YC,[(0,1),(1,1)],0,40⟩:=rfl
theorem Zz:lk 105 AK=some ⟨A4G,[],0,8⟩:=rfl
theorem Z0:lk 107 AK=some ⟨A4H,[],0,8⟩:=rfl
theorem Z1:lk 108 AK=some ⟨B5,[],9,24⟩:=rfl
theorem Z2:lk 109 AK=some ⟨Zu,[],154,24⟩:=rfl
theorem Z3:lk 110 AK=some ⟨A6k,[(0,1),(1,1),(2,1)],0,64⟩:=rfl
theorem Z4:lk 111 AK=some ⟨qN,[(0,1),(1,1),(2,1)],0,64⟩:=rfl
theorem Z5:lk 112 AK=some ⟨A4I,[],0,8⟩:=rfl
theorem Z6:lk 113 AK=some ⟨A4J,[],0,8⟩:=rfl
theorem Z7:lk 114 AK=some ⟨A4K,[],0,8⟩:=rfl
theorem Z8:lk 115 AK=some ⟨A4L,[(0,1),(1,1)],0,24⟩:=rfl
theorem Z9:lk 116 AK=some ⟨v8,[(0,1),(1,1)],0,24⟩:=rfl
theorem aA:lk 117 AK=some ⟨A4M,[],0,8⟩:=rfl
theorem aB:lk 118 AK=some ⟨A4N,[],0,8⟩:=rfl
theorem aC:lk 119 AK=some ⟨A4O,[],0,8⟩:=rfl
theorem aD:lk 120 AK=some ⟨A4P,[],4,24⟩:=rfl
theorem aE:lk 121 AK=some ⟨A4Q,[],0,8⟩:=rfl
theorem aF:lk 122 AK=some ⟨A6l,[(0,1),(1,1),(2,1)],0,72⟩:=rfl
theorem aG:lk 123 AK=some ⟨A6m,[(0,1),(1,1),(2,1)],0,72⟩:=rfl
theorem aH:lk 124 AK=some ⟨A4R,[],0,8⟩:=rfl
theorem aI:lk 125 AK=some ⟨A4S,[],0,8⟩:=rfl
theorem aJ:lk 126 AK=some ⟨A4T,[],0,8⟩:=rfl
theorem aK:lk 127 AK=some ⟨A4U,[],0,8⟩:=rfl
theorem aL:lk 128 AK=some ⟨A1M,[],47,24⟩:=rfl
theorem aM:lk 129 AK=some ⟨A6n,[(0,2),(2,1),(3,1),(4,1)],0,120⟩:=rfl
theorem aN:lk 130 AK=some ⟨A6o,[(0,2),(2,1),(3,1),(4,1)],0,120⟩:=rfl
theorem aO:lk 131 AK=some ⟨A4V,[],0,8⟩:=rfl
theorem aP:lk 132 AK=some ⟨A4W,[],0,8⟩:=rfl
theorem aQ:lk 133 AK=some ⟨A4X,[],0,8⟩:=rfl
theorem aR:lk 134 AK=some ⟨A4Y,[],0,8⟩:=rfl
theorem aU:lk 135 AK=some ⟨A4Z,[],0,8⟩:=rfl
theorem aV:lk 136 AK=some ⟨A50,[],0,8⟩:=rfl
theorem aW:lk 137 AK=some ⟨A51,[],0,8⟩:=rfl
theorem aX:lk 138 AK=some ⟨A52,[],0,8⟩:=rfl
theorem aY:lk 139 AK=some ⟨A53,[],0,8⟩:=rfl
theorem aZ:lk 140 AK=some ⟨A54,[],0,8⟩:=rfl
theorem a9:lk 142 AK=some ⟨A55,[],0,8⟩:=rfl
theorem bA:lk 143 AK=some ⟨A56,[],0,8⟩:=rfl
theorem bB:lk 144 AK=some ⟨SD,[],81,24⟩:=rfl
theorem bC:lk 145 AK=some ⟨A57,[],0,8⟩:=rfl
theorem bD:lk 146 AK=some ⟨A58,[],0,8⟩:=rfl
theorem bE:lk 147 AK=some ⟨A59,[],0,8⟩:=rfl
theorem bF:lk 148 AK=some ⟨A5a,[],0,8⟩:=rfl
theorem bG:lk 149 AK=some ⟨A5b,[],0,8⟩:=rfl
theorem bH:lk 151 AK=some ⟨A5c,[],0,8⟩:=rfl
theorem bI:lk 152 AK=some ⟨A5d,[],0,8⟩:=rfl
theorem bJ:lk 153 AK=some ⟨A5e,[(0,1),(1,1)],0,32⟩:=rfl
theorem bK:lk 154 AK=some ⟨jP,[(0,1),(1,1)],0,32⟩:=rfl
theorem bL:lk 155 AK=some ⟨O4,[],0,8⟩:=rfl
theorem bM:lk 156 AK=some ⟨A5f,[],0,8⟩:=rfl
theorem bN:lk 157 AK=some ⟨A5g,[],0,8⟩:=rfl
theorem bO:lk 158 AK=some ⟨A5h,[],0,8⟩:=rfl
theorem bP:lk 159 AK=some ⟨A5i,[],0,8⟩:=rfl
theorem bQ:lk 160 AK=some ⟨A5j,[(3,3)],0,8⟩:=rfl
theorem bR:lk 161 AK=some ⟨A5k,[],0,8⟩:=rfl
theorem bS:lk 162 AK=some ⟨A5l,[],0,8⟩:=rfl
theorem bT:lk 163 AK=some ⟨A5m,[],0,8⟩:=rfl
theorem bU:lk 164 AK=some ⟨A5n,[],0,8⟩:=rfl
theorem bV:lk 165 AK=some ⟨A5o,[],0,8⟩:=rfl
theorem bW:lk 166 AK=some ⟨A3B,[(0,1),(1,1)],3,16⟩:=rfl
theorem bX:lk 167 AK=some ⟨A5p,[],166,24⟩:=rfl
theorem bZ:lk 168 AK=some ⟨A5q,[],0,8⟩:=rfl
theorem b4:lk 169 AK=some ⟨A5r,[],0,8⟩:=rfl
theorem b5:lk 170 AK=some ⟨A5s,[],0,8⟩:=rfl
theorem b6:lk 171 AK=some ⟨A5t,[],0,8⟩:=rfl
theorem b7:lk 172 AK=some ⟨A5u,[],0,8⟩:=rfl
theorem b8:lk 173 AK=some ⟨A5v,[],0,8⟩:=rfl
theorem b9:lk 174 AK=some ⟨A5w,[],0,8⟩:=rfl
theorem cA:lk 176 AK=some ⟨A5x,[],0,8⟩:=rfl
theorem cB:lk 177 AK=some ⟨A5y,[],0,8⟩:=rfl
theorem cC:lk 178 AK=some ⟨A5z,[],0,8⟩:=rfl
theorem cE:lk 179 AK=some ⟨A5A,[],0,8⟩:=rfl
theorem cF:lk 180 AK=some ⟨A5B,[],0,8⟩:=rfl
theorem cG:lk 181 AK=some ⟨A5C,[],0,8⟩:=rfl
theorem cH:lk 182 AK=some ⟨A5D,[],0,8⟩:=rfl
theorem cI:lk 183 AK=some ⟨A5E,[],0,8⟩:=rfl
theorem cJ:lk 184 AK=some ⟨A5F,[],0,8⟩:=rfl
theorem cK:lk 185 AK=some ⟨A5G,[],0,8⟩:=rfl
theorem cL:lk 186 AK=some ⟨A5H,[],0,8⟩:=rfl
theorem cM:lk 187 AK=some ⟨A5I,[],0,8⟩:=rfl
theorem cN:lk 188 AK=some ⟨A5J,[],0,8⟩:=rfl
theorem cO:lk 189 AK=some ⟨A5K,[],0,8⟩:=rfl
theorem cQ:lk 190 AK=some ⟨A5L,[],0,8⟩:=rfl
theorem cR:lk 191 AK=some ⟨A5M,[],0,8⟩:=rfl
theorem cS:lk 192 AK=some ⟨A5N,[],0,8⟩:=rfl
theorem cU:lk 193 AK=some ⟨A5O,[],0,8⟩:=rfl
theorem cV:lk 194 AK=some ⟨A5P,[],0,8⟩:=rfl
theorem cW:lk 195 AK=some ⟨A5Q,[],0,8⟩:=rfl
theorem cX:lk 196 AK=some ⟨A5R,[],0,8⟩:=rfl
theorem cZ:lk 197 AK=some ⟨A5S,[],0,8⟩:=rfl
theorem c6:lk 198 AK=some ⟨A5T,[],0,8⟩:=rfl
theorem c7:lk 199 AK=some ⟨A5U,[],0,8⟩:=rfl
theorem c8:lk 200 AK=some ⟨A5V,[],0,8⟩:=rfl
theorem c9:lk 201 AK=some ⟨A5W,[],0,8⟩:=rfl
theorem dA:lk 202 AK=some ⟨A5X,[],0,8⟩:=rfl
theorem dB:lk 204 AK=some ⟨A5Y,[],0,8⟩:=rfl
theorem dC:lk 205 AK=some ⟨A5Z,[],0,8⟩:=rfl
theorem dD:lk 206 AK=some ⟨A60,[],0,8⟩:=rfl
theorem dE:lk 207 AK=some ⟨A61,[],0,8⟩:=rfl
theorem dF:lk 208 AK=some ⟨A62,[],0,8⟩:=rfl
theorem dG:lk 209 AK=some ⟨A63,[],0,4⟩:=rfl
theorem dH:lk 210 AK=some ⟨A64,[],0,8⟩:=rfl
theorem dI:lk 211 AK=some ⟨A65,[],0,8⟩:=rfl
theorem dJ:lk 212 AK=some ⟨A66,[],0,8⟩:=rfl
theorem dK:lk 213 AK=some ⟨A67,[],0,8⟩:=rfl
theorem dL:lk 214 AK=some ⟨A68,[],0,8⟩:=rfl
theorem dM:lk 215 AK=some ⟨A69,[],0,8⟩:=rfl
theorem dN:lk 216 AK=some ⟨A6a,[],0,8⟩:=rfl
theorem dP:lk 217 AK=some ⟨A6b,[],0,8⟩:=rfl
theorem dQ:lk 218 AK=some ⟨A6c,[],0,8⟩:=rfl
theorem dR:lk 219 AK=some ⟨A6d,[],0,8⟩:=rfl
theorem dS:lk 221 AK=some ⟨A6e,[],0,8⟩:=rfl
theorem dT:lk 222 AK=some ⟨A6f,[],0,8⟩:=rfl
theorem dU:lk 228 AK=some ⟨A6g,[],0,8⟩:=rfl
theorem dV:lk 231 AK=some ⟨A6h,[],0,8⟩:=rfl
theorem dW:lk 232 AK=some ⟨A6i,[],0,8⟩:=rfl
end
section
open Go Go.RowKit
section
variable {c:Cx} {R:Exit→Act→World→Prop} {k:List DX} {σ σ':St}
theorem qP {P:Program} {tb:Tb} {t:TypeId} {ti:TI} {e:Ty} (hT:D0 P tb t ti) (c:ti.ty=.slice e) (w:World) (a:Option Addr) (n m:Nat):(Op.equal t (.slice a n m) (.slice none 0 0)).run P w=.ok a.isNone w:=by
 have b:=hT.2;rw[c]at b;exact run_equal_slice_nil w t ti.el a n m b.1
def dX:Option TI→Bool
 | some ⟨.slice _,_,_,_⟩=>true
 | _=>false
theorem Wc (g:c.Ok) {ops:Array Oper} {rest:List Oper} {d:Nat} {t:TypeId} {x:Operand} {r ty:TypeId} {pos:String} {after:Array Edge} {e:Ty} {l:List e.den} (neg:Bool)
  (G:Ae σ x=some (.p (.slice e) l)) (i:dX (lk t c.tb.ty)=true) (hk:∀b:Bool,(b=true→l=[])→HN c R k ops rest (σ.add (.p .bool (if neg then !b else b)) [] (some d))) :
  HN c R k ops (⟨some d,.binOp (if neg then .neq else .eql) t x (.const (.slice none 0 0)) r,ty,pos,after,none⟩ :: rest) σ:=by
 intro n z a w F;obtain⟨ρ,q⟩:=F;have y:F4 (vw w c.O0 σ ρ) σ a.eval:=Dn q.env;have H:=y x _ G;obtain⟨cs,⟨ad,m,rfl,h1,N,f⟩,j⟩:=H;have j:a.eval x=.slice ad (List.length l) m:=j;unfold dX at i;split at i
 ·rename_i M offs el bytes A;have s:=g.T _ _ A;have heq:=qP s rfl w ad (List.length l) m;unfold wpListIn;rw[BY (by simp[Region.wanted])];have D:(execOp a.eval ⟨some d,.binOp (if neg then .neq else .eql) t x (.const (.slice none 0 0)) r,ty,pos,after,none⟩).run c.P w=.ok (.value (.bool (if neg then !ad.isNone else ad.isNone))) w:=by
   have I:a.eval (.const (.slice none 0 0))=.slice none 0 0:=rfl;cases neg<;>simp[execOp,j,I,eqGuard,binOp,heq]
  refine Al D ?_ (fun cl h=>by cases neg<;>cases h);have u:ad.isNone=true→l=[]:=fun hn=>by
   rcases f with f|⟨J,rfl,_⟩
   ·exact f
   ·simp at hn
  have C:QS w c.O0 σ ρ (.p .bool (if neg then !ad.isNone else ad.isNone)) [] (.bool (if neg then !ad.isNone else ad.isNone)) ρ w:=QS.still (Bg _);have E:=q.add g.K g.O (dst:=some d) (fun L v=>by cases v;exact Bq (n _ ABn) d rfl) rfl C;exact hk ad.isNone u (fun o B=>n o (by simp[B])) z _ _ ⟨ρ,E⟩
 ·cases i
end
end
section
open Go Go.RowKit Go.ChangeShapes Go.WideShapes
set_option maxRecDepth 100000
def nJ (r:Ty→TypeId→Bool) (P:Program):Ty→Nat→List Field→Bool
 | .prod a b,o,fs=>match fs with
  | f :: fs=>f.offset==o&&P.cellsOf f.type==a.size&&r a f.type&&nJ r P b (o+a.size) fs
  | []=>false
 | s,o,[f]=>f.offset==o&&P.cellsOf f.type==s.size&&r s f.type
 | _,_,_=>false
def qQ (P:Program) (m:Nat) (e:TypeId):List Field:=(List.range m).map fun i=>{ (default:Field) with offset:=i*P.cellsOf e,type:=e }
def rd (P:Program):Nat→Ty→TypeId→Bool
 | 0,_,_=>false
 | _+1,.int k,t=>isI k (P.underlying t)
 | _+1,.bool,t=>match P.underlying t with|some .bool=>true|_=>false
 | _+1,.str,t=>match P.underlying t with|some .string=>true|_=>false
 | n+1,.slice e,t=>match P.underlying t with|some (.slice et)=>decide (0<P.bytesOf et)&&P.cellsOf et==e.size&&rd P n e et|_=>false
 | n+1,.agg s,t=>match P.underlying t with|some (.struct fs)=>P.cellsOf t==s.size&&nJ (rd P n) P s 0 fs.toList|some (.array m e)=>P.cellsOf t==s.size&&nJ (rd P n) P s 0 (qQ P m e)|_=>false
 | _+1,_,_=>false
theorem nK {P:Program} {n:Nat} {t:TypeId} (h:rd P (n+1) .bool t=true):P.underlying t=some .bool:=by
 simp only[rd]at h;split at h
 ·assumption
 ·cases h
theorem yK {P:Program} {n:Nat} {t:TypeId} (h:rd P (n+1) .str t=true):P.underlying t=some .string:=by
 simp only[rd]at h;split at h
 ·assumption
 ·cases h
theorem dY {P:Program} {n:Nat} {e:Ty} {t:TypeId} (h:rd P (n+1) (.slice e) t=true):∃et,P.underlying t=some (.slice et)∧0<P.bytesOf et∧P.cellsOf et=e.size∧rd P n e et=true:=by
 simp only[rd]at h;split at h
 ·rename_i et hu;simp only[An,By,AA1]at h;exact⟨et,hu,h.1.1,h.1.2,h.2⟩
 ·cases h
theorem yL {P:Program} {n:Nat} {s:Ty} {t:TypeId} (h:rd P (n+1) (.agg s) t=true):(∃fs,P.underlying t=some (.struct fs)∧P.cellsOf t=s.size∧nJ (rd P n) P s 0 fs.toList=true)∨∃m e,P.underlying t=some (.array m e)∧P.cellsOf t=s.size∧nJ (rd P n) P s 0 (qQ P m e)=true:=by
 simp only[rd]at h;split at h
 ·rename_i fs hu;simp only[An,AA1]at h;exact .inl ⟨fs,hu,h.1,h.2⟩
 ·rename_i m e hu;simp only[An,AA1]at h;exact .inr ⟨m,e,hu,h.1,h.2⟩
 ·cases h
theorem qR {w:World} {base:Nat} {a:Addr} {n:Nat} {cs:List Value} (h:w.cells? base a n=some cs):cs.length=n∧∀(j:Nat) (v:Value),cs[j]?=some v→w.cell? (a.add j)=some v:=by
 unfold World.cells? at h;split at h
 ·have h1:=mapM_some_length h;simp only[ABT]at h1;refine⟨h1,fun j v b=>?_⟩;have c:j<n:=by
   obtain⟨c,_⟩:=QB.1 b;omega
  rw[mapM_some_get h j j (by simp[c]),b]
 ·cases h
section
variable {H:Type} {enc:TypeId×Value→H} {P:Program} {w:World} {spare:Nat→Bool} {held:Bool}
theorem dZ {e:TypeId}:∀ {l:List (DataW H)} {d:DataW H},d∈l→∀n∈d.weights P e,n∈DataW.weightsAll P e l
 | a :: l,d,b,n,hn=>by
  simp only[DataW.weightsAll,ON];rcases GO.1 b with rfl|b
  ·exact .inl hn
  ·exact .inr (dZ b n hn)
 | [],_,b,_,_=>by cases b
theorem Wd {b:List TypeId} {a:List (DataW H)}:∀ {ts:List TypeId} {ds:List (DataW H)},∀n∈DataW.weightsEach P ts ds,n∈DataW.weightsEach P (ts++b) (ds++a)
 | t :: ts,d :: ds,n,hn=>by
  simp only[DataW.weightsEach,AB3,ON]at hn ⊢;rcases hn with hn|hn
  ·exact .inl hn
  ·exact .inr (Wd n hn)
 | [],_,n,hn=>by simp[DataW.weightsEach]at hn
 | _ :: _,[],n,hn=>by simp[DataW.weightsEach]at hn
theorem We {e:TypeId}:∀ {m:Nat} {k:Nat} {ds:List (DataW H)},∀n∈DataW.weightsEach P (((List.range' k m).map fun i=>({ (default:Field) with offset:=i*P.cellsOf e,type:=e }:Field)).map (·.type)) ds,n∈DataW.weightsAll P e ds
 | 0,_,ds,n,hn=>by simp[DataW.weightsEach]at hn
 | m+1,k,[],n,hn=>by
  rw[ACB]at hn;simp[DataW.weightsEach]at hn
 | m+1,k,d :: ds,n,hn=>by
  rw[ACB]at hn;simp only[tO,DataW.weightsEach,ON]at hn;simp only[DataW.weightsAll,ON];rcases hn with hn|hn
  ·exact .inl hn
  ·exact .inr (We n hn)
theorem Rg {n:Nat} {r:Ty→TypeId→Bool}
  (hr:∀ty t,r ty t=true→∀(cs:List Value) (x:DataW H×List MemPlace),DataW.trod enc P w 0 spare held n t cs=some x→(∀b∈x.1.weights P t,b≤reachBytes)→∃d:ty.den,Br w (fun _=>False) ty cs d) (cs:List Value) :
  ∀(s:Ty) (o:Nat) (fs:List Field),nJ r P s o fs=true→∀xs:List (DataW H×List MemPlace),xs.length=fs.length →
   (∀(i:Nat) (f:Field),fs[i]?=some f→DataW.trod enc P w 0 spare held n f.type ((cs.drop f.offset).take (P.cellsOf f.type))=xs[i]?) →
   (∀b∈DataW.weightsEach P (fs.map (·.type)) (xs.map (·.1)),b≤reachBytes)→∃d:s.den,Br w (fun _=>False) s ((cs.drop o).take s.size) d:=by
 have one:∀(s:Ty) (o:Nat) (f:Field),(f.offset==o&&P.cellsOf f.type==s.size&&r s f.type)=true→∀x:DataW H×List MemPlace,
   DataW.trod enc P w 0 spare held n f.type ((cs.drop f.offset).take (P.cellsOf f.type))=some x →
   (∀b∈x.1.weights P f.type,b≤reachBytes)→∃d:s.den,Br w (fun _=>False) s ((cs.drop o).take s.size) d:=by
  intro s o f h x j c;simp only[An,AA1]at h;obtain⟨⟨rfl,p⟩,q⟩:=h;rw[←p];exact hr s f.type q _ x j c
 have lone:∀(s:Ty) (o:Nat) (f:Field),(f.offset==o&&P.cellsOf f.type==s.size&&r s f.type)=true→∀xs:List (DataW H×List MemPlace),xs.length=[f].length →
   (∀(i:Nat) (g:Field),[f][i]?=some g→DataW.trod enc P w 0 spare held n g.type ((cs.drop g.offset).take (P.cellsOf g.type))=xs[i]?) →
   (∀b∈DataW.weightsEach P ([f].map (·.type)) (xs.map (·.1)),b≤reachBytes)→∃d:s.den,Br w (fun _=>False) s ((cs.drop o).take s.size) d:=by
  intro s o f h xs m j c;obtain⟨x,rfl⟩:∃x,xs=[x]:=AAQ.1 (by simpa using m);exact one s o f h x (j 0 f rfl) (fun b l=>c b (by simp[DataW.weightsEach,l]))
 intro s;induction s with
 | prod a b D A =>
  intro o fs h xs m j c;cases fs with
  | nil=>simp[nJ]at h
  | cons f fs =>
   simp only[nJ,An]at h;obtain⟨⟨⟨h1,p⟩,q⟩,y⟩:=h;obtain⟨x,ys,rfl⟩:∃x ys,xs=x :: ys:=List.exists_cons_of_ne_nil (by intro h;subst h;simp at m);obtain⟨u,B⟩:=one a o f (by simp only[h1,p,q,Bool.and_self]) x (j 0 f rfl) (fun b l=>c b (by
     simp only[tO,DataW.weightsEach,ON];exact .inl l))
   obtain⟨v,C⟩:=A (o+a.size) fs y ys (by simpa using m) (fun i g z=>j (i+1) g z) (fun b l=>c b (by
     simp only[tO,DataW.weightsEach,ON];exact .inr l))
   refine⟨(u,v),(cs.drop o).take a.size,(cs.drop (o+a.size)).take b.size,?_,B,C⟩;show (cs.drop o).take (a.size+b.size)=_;rw[List.take_add,ABJ]
 | int k=>intro o fs h;match fs,h with|[f],h=>exact lone _ o f (by simpa only[nJ] using h)
 | bool=>intro o fs h;match fs,h with|[f],h=>exact lone _ o f (by simpa only[nJ] using h)
 | str=>intro o fs h;match fs,h with|[f],h=>exact lone _ o f (by simpa only[nJ] using h)
 | slice e _=>intro o fs h;match fs,h with|[f],h=>exact lone _ o f (by simpa only[nJ] using h)
 | agg t _=>intro o fs h;match fs,h with|[f],h=>exact lone _ o f (by simpa only[nJ] using h)
 | ref k=>intro o fs h;match fs,h with|[f],h=>exact lone _ o f (by simpa only[nJ] using h)
theorem yM:∀(k:Nat) (ty:Ty) (t:TypeId),rd P k ty t=true→∀(n:Nat) (cs:List Value) (x:DataW H×List MemPlace),
  DataW.trod enc P w 0 spare held n t cs=some x→(∀b∈x.1.weights P t,b≤reachBytes)→∃d:ty.den,Br w (fun _=>False) ty cs d:=by
 intro k;induction k with
 | zero=>intro ty t h;simp[rd]at h
 | succ k B =>
  intro ty t h n cs x c l;cases ty with
  | int q =>
   have hu:=Xs (by simpa only[rd] using h);obtain⟨m,rfl,rfl,F⟩:=DataW.trod_int hu c;simp only[Lit.wf,An,By]at F;exact⟨m,rfl,F⟩
  | bool =>
   obtain⟨b,rfl,rfl⟩:=DataW.trod_bool (nK h) c;exact⟨b,rfl⟩
  | str =>
   obtain⟨b,rfl,rfl,_⟩:=DataW.trod_string (yK h) c;refine⟨b,rfl,?_⟩;have:=l b.data.toList.length (by simp only[DataW.weights];exact ABn);have p:b.data.toList.length=b.size:=ABh;simp only[reachBytes]at this;simp only[AO];omega
  | slice e =>
   obtain⟨et,hu,L,C,u⟩:=dY h;rcases DataW.trod_slice hu c with ⟨rfl,rfl⟩|⟨a,len,cap,elems,rest,m,rfl,rfl,rfl,-,U,-,V,Q,-,-⟩
   ·exact⟨[],none,0,rfl,NO _,IN _,.inl rfl⟩
   ·have X:len≤AO:=by
     have h1:=l ((elems.length+rest.length)*P.bytesOf et) (by simp only[DataW.weights,hu,nO];exact ABn);have p:elems.length+rest.length≤(elems.length+rest.length)*P.bytesOf et:=Nat.le_mul_of_pos_right _ L;simp only[reachBytes]at h1;simp only[AO];omega
    have D:∀i,i<len→∃d:e.den,∃g:List Value,g.length=e.size∧(∀(j:Nat) (v:Value),g[j]?=some v→w.cell? (a.add (i*e.size+j))=some v)∧Br w (fun _=>False) e g d:=by
     intro i hi;have h1:=Q i hi;obtain⟨x,c⟩:∃x,elems[i]?=some x:=⟨_,AT (by omega)⟩;rw[c]at h1;obtain⟨g,p,G⟩:=Option.bind_eq_some_iff.1 h1;obtain⟨I,J⟩:=qR p;obtain⟨d,o⟩:=B e et u m g x G (fun b r=>l b (by
      simp only[DataW.weights,hu];exact bY _ (ABb _ (dZ (If.2 ⟨x,AAe c,rfl⟩) b r))))
     refine⟨d,g,by rw[I,C],fun j v S=>?_,o⟩;have:=J j v S
     rwa [DP,C]at this
    have K:∃ds:List e.den,ds.length=len∧∀(i:Nat) (d:e.den),ds[i]?=some d→∃g:List Value,g.length=e.size∧(∀(j:Nat) (v:Value),g[j]?=some v→w.cell? (a.add (i*e.size+j))=some v)∧Br w (fun _=>False) e g d:=by
     refine⟨(List.range len).pmap (fun i hi=>Classical.choose (D i hi)) (fun i hi=>iS.1 hi),by simp,fun i d o=>?_⟩;rw[List.getElem?_pmap]at o;simp only[Option.pmap_eq_some_iff]at o;obtain⟨j,h1,p,rfl⟩:=o;have R:j=i:=by
      obtain⟨W,u⟩:=QB.1 p;simpa using u.symm
     subst R;exact Classical.choose_spec (D j h1)
    obtain⟨ds,N,O⟩:=K;exact⟨ds,some a,cap,by rw[N],by omega,by omega,.inr ⟨a,rfl,fun h=>h,O⟩⟩
  | agg s =>
   rcases yL h with ⟨fs,hu,M,hf⟩|⟨q,e,hu,M,hf⟩
   ·obtain⟨xs,m,rfl,rfl,T,z,A⟩:=DataW.trod_struct hu c;obtain⟨d,o⟩:=Rg (fun ty t y cs x c l=>B ty t y m cs x c l) cs s 0 fs.toList hf xs (by simpa using z) (fun i f hi=>A i f (by simpa using hi)) (by
     simpa[DataW.weights,hu] using l)
    refine⟨d,?_⟩;show Br w _ s cs d
    rwa [AAj,As (by omega)]at o
   ·obtain⟨xs,m,rfl,rfl,T,z,A⟩:=DataW.trod_array hu c;obtain⟨d,o⟩:=Rg (fun ty t y cs x c l=>B ty t y m cs x c l) cs s 0 (qQ P q e) hf xs (by simp[qQ,z]) (fun i f hi=>by
     unfold qQ at hi;rw[AAy]at hi;by_cases E:i<q
     ·rw[ABA E]at hi;have hi:({ (default:Field) with offset:=i*P.cellsOf e,type:=e }:Field)=f:=by simpa using hi
      rw[←hi];exact A i E
     ·rw[gO (by simp;omega)]at hi;cases hi) (fun b r=>l b (by
     simp only[DataW.weights,hu];unfold qQ at r;rw[List.range_eq_range']at r;exact We b r))
    refine⟨d,?_⟩;show Br w _ s cs d
    rwa [AAj,As (by omega)]at o
  | prod a b=>simp[rd]at h
  | ref j=>simp[rd]at h
theorem A1N {k:Nat} {ty:Ty} {t:TypeId} {v:Value} {r:Reach} {base:Nat} (h:rd P k ty t=true) (d:Value.okWide P w r base t v):v=ty.wrap v.cells.toList:=by
 cases k with
 | zero=>simp[rd]at h
 | succ k =>
  cases ty with
  | int q =>
   obtain⟨n,rfl⟩:=okWide_int (Xs (by simpa only[rd] using h)) d;rfl
  | bool =>
   obtain⟨n,rfl⟩:=okWide_bool (nK h) d;rfl
  | str =>
   obtain⟨n,rfl⟩:=okWide_string (yK h) d;rfl
  | slice e =>
   obtain⟨et,hu,_⟩:=dY h;obtain⟨a,l,c,rfl⟩:=okWide_slice hu d;rfl
  | agg s =>
   rcases yL h with ⟨fs,hu,_⟩|⟨q,e,hu,_⟩
   ·obtain⟨cs,rfl,_⟩:=okWide_struct hu d;simp[Ty.wrap,Value.cells]
   ·simp only[Value.okWide,hu]at d;obtain⟨cs,rfl,_⟩:=d;simp[Ty.wrap,Value.cells]
  | prod a b=>simp[rd]at h
  | ref j=>simp[rd]at h
def NN (P:Program):List Ty→List TypeId→Bool
 | [],[]=>true
 | ty :: a,t :: ts=>rd P 50 ty t&&P.readableRec t&&decide (t<P.types.size)&&NN P a ts
 | _,_=>false
theorem d3 {r:Reach} {base:Nat}:∀(a:List Ty) (ts:List TypeId) (c:List Value) (ds:List (DataW H)) (p:List MemPlace),NN P a ts=true→DataW.TrodAll enc P w 0 spare held ts c ds p →
  (∀(j:Nat) (t:TypeId) (v:Value),ts[j]?=some t→c[j]?=some v→Value.okWide P w r base t v)→(∀b∈DataW.weightsEach P ts ds,b≤reachBytes)→∃xs:KI a,RQ w (fun _=>False) a c xs
 | [],[],c,ds,p,_,h,_,_=>by
  obtain⟨rfl,_,_⟩:=trodAll_nil h;exact⟨(),rfl⟩
 | ty :: a,t :: ts,c,ds,p,g,h,i,e=>by
  simp only[NN,An]at g;obtain⟨⟨⟨h1,_⟩,_⟩,m⟩:=g;obtain⟨v,k,d,l,D,A,rfl,rfl,rfl,⟨n,o⟩,q⟩:=trodAll_cons h;simp only[DataW.weightsEach,ON]at e;obtain⟨x,y⟩:=yM 50 ty t h1 n _ _ o (fun b f=>e b (.inl f));obtain⟨xs,z⟩:=d3 a ts k l A m q (fun j B C s u=>i (j+1) B C s u) (fun b f=>e b (.inr f));exact⟨(x,xs),v,k,rfl,⟨_,y,A1N h1 (i 0 t v rfl rfl)⟩,z⟩
 | [],_ :: _,_,_,_,h,_,_,_=>by simp[NN]at h
 | _ :: _,[],_,_,_,h,_,_,_=>by simp[NN]at h
theorem Wf (i:laidOutB P=true) {W f:World} (g:Below W.heap.size W f):∀(e:List Ty) (ts:List TypeId) (a:List Value) (ds:List (DataW H)) (p:List MemPlace),NN P e ts=true →
  DataW.TrodAll enc P W 0 (fun _=>true) true ts a ds p→(∀x∈p,x.block<W.heap.size)→DataW.TrodAll enc P f 0 (fun b=>decide (b<W.heap.size)) true ts a ds p
 | [],[],a,ds,p,_,h,_=>by
  obtain⟨rfl,rfl,rfl⟩:=trodAll_nil h;rfl
 | ty :: e,t :: ts,a,ds,p,k,h,j=>by
  simp only[NN,An,By]at k;obtain⟨⟨⟨_,h1⟩,n⟩,o⟩:=k;obtain⟨v,u,d,m,s,l,rfl,rfl,rfl,q,r⟩:=trodAll_cons h;exact⟨s,l,Below.trod i h1 n q g (fun x c=>j x (ABb _ c)),Wf i g e ts u m l o r (fun x c=>j x (ABZ _ c)),rfl⟩
 | [],_ :: _,_,_,_,h,_,_=>by simp[NN]at h
 | _ :: _,[],_,_,_,h,_,_=>by simp[NN]at h
end
theorem yN {w:World} {O:Nat→Prop} {u:Value} {w':World} (h:uN w O [.p .bool true] u w'):u=.bool true∧Below w.heap.size w w':=by
 obtain⟨ρ',a⟩:=h 0;refine⟨?_,a.below⟩;obtain⟨cs,h1,b⟩:BW _ _ .bool u true:=a.av;have h1:cs=[.bool true]:=h1;rw[b,h1];rfl
theorem d4 {P:Program} {f:FuncId} {fn:Func} {a:Ac} {s:ChangeSpec} {tb:TypeId} (K:Ah P f a) (M:∀ds,a.pre ds) (L:∀ds,a.out ds=[.p .bool true])
  (G:laidOutB P=true) (w:NN P a.ins fn.params.toList=true) (N:fn.resultTypes=#[tb]) (E:P.underlying tb=some .bool) (y:s.vars=[])
  (hs:∀(H:Type) (ds:List (DataW H)),ds.length=fn.params.size→(s.fn H ds).results=[.lit (.bool true)]∧(s.fn H ds).args=ds∧(s.fn H ds).vars=[])
  {H:Type} {enc:TypeId×Value→H} {W:World} {base:Nat} {args:Array Value} {ds m:List (DataW H)} {z:List MemPlace} {X:List TypeId}
  (S:∀(j:Nat) t v,fn.params[j]?=some t→args[j]?=some v→Value.okWide P W .any base t v)
  (o:DataW.Whole enc P fn.params.toList s.vars false W args.toList ds m z)
  (O:(DataW.weightsEach P (fn.params.toList++X) (ds++m)).all (·≤reachBytes)=true) :
  Calls P f args W fun e l=>∃v,e=.returned v∧s.post enc P fn false true false false W args v l:=by
 have r:=o;obtain⟨p,q,g,n,rfl,Z,aa⟩:=o;rw[y]at n;obtain⟨rfl,rfl⟩:=trodVars_none n;obtain⟨xs,U⟩:=d3 a.ins fn.params.toList args.toList ds p w g (fun j t v Q R=>S j t v (by simpa using Q) (by simpa using R))
  (fun b c=>by simpa using Do.1 O b (Wd b c))
 have J:∀x∈p,x.block<W.heap.size:=fun x T=>by simpa using r.lt x (ABb _ T)
 have I:ds.length=fn.params.size:=by
  have:∀(ts:List TypeId) (k:List Value) (ds:List (DataW H)) (p:List MemPlace),DataW.TrodAll enc P W 0 (fun _=>true) true ts k ds p→ds.length=ts.length:=by
   intro ts;induction ts with
   | nil=>intro k ds p h;obtain⟨_,rfl,_⟩:=trodAll_nil h;rfl
   | cons t ts V=>intro k ds p h;obtain⟨v,ae,d,Y,ab,ad,rfl,rfl,rfl,_,hr⟩:=trodAll_cons h;simp[V _ _ _ hr]
  simpa using this _ _ _ _ g
 have i:=K.2 W (fun _=>False) args.toList xs (fun _ h=>h.elim) U (M xs);rw[L]at i;have D:args.toList.toArray=args:=by simp
 rw[D]at i;refine i.mono fun e l ⟨u,F,hu⟩=>?_;obtain⟨rfl,c⟩:=yN hu;obtain⟨A,B,C⟩:=hs H (ds++[]) (by simpa using I);refine⟨_,F,_,_,_,[],p,[],r,?_,?_,?_,c.frame _,fun h=>by cases h⟩
 ·rw[A,N];exact trodAll_mk1 (shut_bool E _)
 ·rw[B,AAa];exact Wf G c a.ins _ _ _ _ w g J
 ·rw[C,y];rfl
end
end Go.Proofs.YtdapahgnpbehbaaGreat.Fw

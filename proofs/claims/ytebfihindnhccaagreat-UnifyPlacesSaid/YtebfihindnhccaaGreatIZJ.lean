/- This program's types; a slice compared with nil; from a contract to the given statement. -/
/- The shapes of this program's types. -/
import Derived.Test.YtebfihindnhccaaGreatIZI
import Derived.Test.YtebfihindnhccaaGreatChecked
import Derived.Laws.Cover3
import Derived.Carry
import Derived.SizedLaws
import Derived.OpenShut
set_option linter.unusedVariables false
set_option linter.unusedSimpArgs false
namespace Go.Proofs.YtebfihindnhccaaGreat.Fw
section
open Go
abbrev T1:Ty:=.ref 1
abbrev T2:Ty:=.int .i64
abbrev T3:Ty:=.int .i64
abbrev T4:Ty:=.bool
abbrev T5:Ty:=.int .u8
abbrev T9:Ty:=.str
abbrev T12:Ty:=.int .u64
abbrev T21:Ty:=.int .i32
abbrev T30:Ty:=.ref 1
abbrev T31:Ty:=.ref 1
abbrev T32:Ty:=.ref 1
abbrev T34:Ty:=.ref 1
abbrev T35:Ty:=.ref 1
abbrev T36:Ty:=.ref 1
abbrev T38:Ty:=.ref 1
abbrev T39:Ty:=.ref 1
abbrev Ek:Ty:=.slice T3
abbrev T41:Ty:=.agg (.prod Ek (Ek))
abbrev T42:Ty:=.ref 1
abbrev T43:Ty:=.ref 1
abbrev T44:Ty:=.ref 1
abbrev zP:Ty:=.slice Ek
abbrev T46:Ty:=.ref 1
abbrev T47:Ty:=.ref 1
abbrev T48:Ty:=.ref 1
abbrev T49:Ty:=.ref 1
abbrev T50:Ty:=.ref 1
abbrev T51:Ty:=.ref 1
abbrev T52:Ty:=.ref 1
abbrev T53:Ty:=.ref 1
abbrev T54:Ty:=.ref 1
abbrev T55:Ty:=.ref 1
abbrev T56:Ty:=.ref 1
abbrev T58:Ty:=.ref 1
abbrev T59:Ty:=.ref 1
abbrev T60:Ty:=.ref 1
abbrev T62:Ty:=.ref 1
abbrev T63:Ty:=.ref 1
abbrev T66:Ty:=.ref 1
abbrev T67:Ty:=.ref 1
abbrev T70:Ty:=.ref 1
abbrev T71:Ty:=.ref 1
abbrev T72:Ty:=.ref 1
abbrev T73:Ty:=.ref 1
abbrev T76:Ty:=.ref 1
abbrev T77:Ty:=.ref 1
abbrev T78:Ty:=.ref 1
abbrev ZO:Ty:=.int .i64
abbrev T81:Ty:=.ref 1
abbrev T82:Ty:=.ref 1
abbrev T83:Ty:=.ref 1
abbrev T84:Ty:=.ref 1
abbrev T85:Ty:=.ref 1
abbrev T89:Ty:=.ref 1
abbrev T90:Ty:=.ref 1
abbrev T91:Ty:=.ref 0
abbrev T95:Ty:=.ref 1
abbrev T96:Ty:=.ref 1
abbrev T97:Ty:=.ref 1
abbrev T98:Ty:=.ref 1
abbrev T99:Ty:=.ref 1
abbrev A4v:Ty:=.ref 1
abbrev A4w:Ty:=.ref 1
abbrev A4x:Ty:=.ref 1
abbrev A4y:Ty:=.ref 1
abbrev A4z:Ty:=.ref 1
abbrev A4A:Ty:=.ref 1
abbrev A4B:Ty:=.agg (.prod T3 (T3))
abbrev Aq:Ty:=.agg (.prod T3 (T3))
abbrev A4C:Ty:=.ref 1
abbrev A4D:Ty:=.ref 1
abbrev A4E:Ty:=.ref 1
abbrev A4F:Ty:=.ref 1
abbrev A4G:Ty:=.ref 1
abbrev A4H:Ty:=.ref 1
abbrev A4I:Ty:=.ref 1
abbrev A4J:Ty:=.ref 2
abbrev A4K:Ty:=.ref 1
abbrev A4L:Ty:=.agg (.prod Ek (T3))
abbrev A3u:Ty:=.agg (.prod Ek (T3))
abbrev A4M:Ty:=.slice A3u
abbrev A4N:Ty:=.ref 1
abbrev A4O:Ty:=.ref 1
abbrev A4P:Ty:=.ref 1
abbrev A4Q:Ty:=.slice zP
abbrev A4R:Ty:=.ref 1
abbrev A4S:Ty:=.slice T4
abbrev A4T:Ty:=.ref 1
abbrev A4U:Ty:=.ref 1
abbrev A4V:Ty:=.ref 1
abbrev A4W:Ty:=.ref 2
abbrev A4X:Ty:=.ref 1
abbrev A4Y:Ty:=.ref 1
abbrev A4Z:Ty:=.ref 1
abbrev A50:Ty:=.ref 1
abbrev A51:Ty:=.ref 1
abbrev A52:Ty:=.ref 1
abbrev Bo:Ty:=.slice T9
abbrev A53:Ty:=.ref 1
abbrev A54:Ty:=.agg (.prod T9 (T9))
abbrev dJ:Ty:=.agg (.prod T9 (T9))
abbrev IT:Ty:=.agg (.prod T3 (T3))
abbrev A55:Ty:=.slice IT
abbrev A56:Ty:=.ref 1
abbrev A57:Ty:=.ref 1
abbrev A58:Ty:=.ref 1
abbrev A59:Ty:=.ref 1
abbrev A5a:Ty:=.ref 1
abbrev A5b:Ty:=.ref 1
abbrev A5c:Ty:=.ref 1
abbrev A5d:Ty:=.ref 1
abbrev A5e:Ty:=.ref 1
abbrev A5f:Ty:=.ref 1
abbrev A5g:Ty:=.ref 1
abbrev A5h:Ty:=.ref 1
abbrev A5i:Ty:=.ref 1
abbrev A5j:Ty:=.ref 1
abbrev A5k:Ty:=.ref 1
abbrev A5l:Ty:=.int .u64
abbrev A5m:Ty:=.slice T5
abbrev A5n:Ty:=.ref 1
abbrev A5o:Ty:=.ref 1
abbrev A5p:Ty:=.ref 1
abbrev A5q:Ty:=.ref 2
abbrev A5r:Ty:=.agg (.prod T3 (T3))
abbrev A3v:Ty:=.agg (.prod T3 (T3))
abbrev A5s:Ty:=.ref 1
abbrev A5t:Ty:=.ref 1
abbrev A5u:Ty:=.ref 1
abbrev A5v:Ty:=.ref 1
abbrev A5w:Ty:=.agg (.prod T3 (T3))
abbrev vU:Ty:=.agg (.prod T3 (T3))
abbrev A5x:Ty:=.ref 1
abbrev A5y:Ty:=.ref 1
abbrev A5z:Ty:=.ref 1
abbrev A5A:Ty:=.ref 1
abbrev A5B:Ty:=.ref 1
abbrev A5C:Ty:=.ref 1
abbrev A5D:Ty:=.ref 1
abbrev A5E:Ty:=.agg (.prod T9 (T3))
abbrev vV:Ty:=.agg (.prod T9 (T3))
abbrev A5F:Ty:=.ref 1
abbrev A5G:Ty:=.ref 0
abbrev A5H:Ty:=.ref 1
abbrev A5I:Ty:=.ref 1
abbrev A5J:Ty:=.ref 1
abbrev OO:Ty:=.int .u64
abbrev A5K:Ty:=.ref 1
abbrev A5L:Ty:=.ref 1
abbrev A5M:Ty:=.ref 1
abbrev A5N:Ty:=.ref 1
abbrev A5O:Ty:=.int .i64
abbrev A5P:Ty:=.ref 1
abbrev A5Q:Ty:=.ref 1
abbrev A5R:Ty:=.ref 1
abbrev A5S:Ty:=.ref 1
abbrev A5T:Ty:=.ref 1
abbrev A5U:Ty:=.int .u32
abbrev A5V:Ty:=.ref 1
abbrev A5W:Ty:=.ref 1
abbrev A5X:Ty:=.ref 1
abbrev A5Y:Ty:=.ref 1
abbrev A5Z:Ty:=.ref 1
abbrev A60:Ty:=.ref 1
abbrev A61:Ty:=.ref 2
abbrev A62:Ty:=.ref 1
abbrev A63:Ty:=.ref 1
abbrev A64:Ty:=.ref 1
abbrev A65:Ty:=.ref 1
abbrev A66:Ty:=.ref 1
abbrev A67:Ty:=.ref 1
abbrev A68:Ty:=.ref 1
abbrev A69:Ty:=.ref 1
abbrev A6a:Ty:=.ref 1
abbrev A6b:Ty:=.ref 1
abbrev A6c:Ty:=.ref 1
abbrev A6d:Ty:=.ref 1
abbrev A6e:Ty:=.ref 1
abbrev A6f:Ty:=.ref 1
abbrev A6g:Ty:=.ref 1
abbrev A6h:Ty:=.int .u64
abbrev A6i:Ty:=.ref 1
abbrev A6j:Ty:=.ref 1
abbrev A6k:Ty:=.ref 1
abbrev A6l:Ty:=.ref 0
abbrev A6m:Ty:=.ref 1
abbrev A6n:Ty:=.ref 1
abbrev A6o:Ty:=.ref 1
abbrev A6p:Ty:=.ref 1
abbrev A6q:Ty:=.ref 1
abbrev A6r:Ty:=.ref 1
abbrev A6s:Ty:=.ref 1
abbrev A6t:Ty:=.ref 1
abbrev A6u:Ty:=.ref 1
abbrev A6v:Ty:=.ref 1
abbrev A6w:Ty:=.ref 0
abbrev A6x:Ty:=.ref 1
abbrev A6y:Ty:=.ref 1
abbrev A6z:Ty:=.ref 1
abbrev A6A:Ty:=.ref 1
abbrev A6B:Ty:=.ref 1
abbrev A6C:Ty:=.ref 1
abbrev A6D:Ty:=.ref 1
abbrev A6E:Ty:=.ref 1
abbrev A6F:Ty:=.ref 1
abbrev A6G:Ty:=.ref 1
abbrev A6H:Ty:=.ref 1
abbrev A6I:Ty:=.ref 1
abbrev A6J:Ty:=.ref 1
abbrev A6K:Ty:=.ref 1
abbrev A6L:Ty:=.ref 1
abbrev A6M:Ty:=.ref 1
abbrev A6N:Ty:=.ref 1
abbrev A6O:Ty:=.ref 1
abbrev A6P:Ty:=.ref 0
abbrev ZP:Ty:=.slice vV
abbrev CE:Ty:=.slice Aq
abbrev T87:Ty:=.agg (.prod T3 (CE))
abbrev J9:Ty:=.agg (.prod T3 (CE))
abbrev T92:Ty:=.slice CE
abbrev A6Q:Ty:=.slice OO
abbrev BA:Ty:=.slice OO
abbrev A6R:Ty:=.agg (.prod T9 (BA))
abbrev XR:Ty:=.agg (.prod T9 (BA))
abbrev XS:Ty:=.slice vU
abbrev A6S:Ty:=.agg (.prod T9 (.prod BA (.prod Ek (XS))))
abbrev qO:Ty:=.agg (.prod T9 (.prod BA (.prod Ek (XS))))
abbrev ZQ:Ty:=.slice dJ
abbrev A6T:Ty:=.agg (.prod T9 (.prod Bo (ZQ)))
abbrev qP:Ty:=.agg (.prod T9 (.prod Bo (ZQ)))
abbrev RN:Ty:=.slice BA
abbrev Ec:Ty:=.slice qP
abbrev Fl:Ty:=.slice J9
abbrev T24:Ty:=.agg (Fl)
abbrev Ds:Ty:=.agg (Fl)
abbrev YW:Ty:=.slice qO
abbrev T28:Ty:=.agg (.prod YW (ZP))
abbrev GD:Ty:=.agg (.prod YW (ZP))
abbrev T37:Ty:=.slice Ds
abbrev T61:Ty:=.agg (.prod Ds (Ds))
abbrev T64:Ty:=.agg (.prod Ec (.prod Ds (.prod Ds (zP))))
abbrev T65:Ty:=.agg (.prod Ec (.prod Ds (.prod Ds (zP))))
abbrev T68:Ty:=.agg (.prod Ds (.prod Ek (Ds)))
abbrev T69:Ty:=.agg (.prod Ds (.prod Ek (Ds)))
abbrev T74:Ty:=.agg (.prod Ec (.prod Ds (.prod Ds (.prod Ek (.prod Ek (.prod zP (.prod T3 (T3))))))))
abbrev T75:Ty:=.agg (.prod Ec (.prod Ds (.prod Ds (.prod Ek (.prod Ek (.prod zP (.prod T3 (T3))))))))
abbrev T93:Ty:=.agg (.prod GD (.prod Ek (.prod Ek (T92))))
abbrev T94:Ty:=.agg (.prod GD (.prod Ek (.prod Ek (T92))))
abbrev A0o:Ty:=.slice XS
abbrev I2:Ty:=.slice XR
abbrev A6U:Ty:=.agg (.prod Ds (.prod Ek (Ek)))
abbrev A6V:Ty:=.agg (.prod Ds (.prod Ek (Ek)))
abbrev T57:Ty:=.slice T61
set_option maxRecDepth 100000
def AI:List (Nat×TI):=[(1,⟨T1,[],0,8⟩),
 (2,⟨T2,[],0,8⟩),
 (3,⟨T3,[],0,8⟩),
 (4,⟨T4,[],0,1⟩),
 (5,⟨T5,[],0,1⟩),
 (9,⟨T9,[],0,16⟩),
 (12,⟨T12,[],0,8⟩),
 (21,⟨T21,[],0,4⟩),
 (22,⟨Ec,[],154,24⟩),
 (23,⟨Fl,[],88,24⟩),
 (24,⟨T24,[(0,1)],0,24⟩),
 (25,⟨Ds,[(0,1)],0,24⟩),
 (26,⟨YW,[],148,24⟩),
 (27,⟨ZP,[],201,24⟩),
 (28,⟨T28,[(0,1),(1,1)],0,48⟩),
 (29,⟨GD,[(0,1),(1,1)],0,48⟩),
 (30,⟨T30,[],0,8⟩),
 (31,⟨T31,[],0,8⟩),
 (32,⟨T32,[],0,8⟩),
 (34,⟨T34,[],0,8⟩),
 (35,⟨T35,[],0,8⟩),
 (36,⟨T36,[],0,8⟩),
 (37,⟨T37,[],25,24⟩),
 (38,⟨T38,[],0,8⟩),
 (39,⟨T39,[],0,8⟩),
 (40,⟨Ek,[],3,24⟩),
 (41,⟨T41,[(0,1),(1,1)],40,48⟩),
 (42,⟨T42,[],0,8⟩),
 (43,⟨T43,[],0,8⟩),
 (44,⟨T44,[],0,8⟩),
 (45,⟨zP,[],40,24⟩),
 (46,⟨T46,[],0,8⟩),
 (47,⟨T47,[],0,8⟩),
 (48,⟨T48,[],0,8⟩),
 (49,⟨T49,[],0,8⟩),
 (50,⟨T50,[],0,8⟩),
 (51,⟨T51,[],0,8⟩),
 (52,⟨T52,[],0,8⟩),
 (53,⟨T53,[],0,8⟩),
 (54,⟨T54,[],0,8⟩),
 (55,⟨T55,[],0,8⟩),
 (56,⟨T56,[],0,8⟩),
 (57,⟨T57,[],61,24⟩),
 (58,⟨T58,[],0,8⟩),
 (59,⟨T59,[],0,8⟩),
 (60,⟨T60,[],0,8⟩),
 (61,⟨T61,[(0,1),(1,1)],25,48⟩),
 (62,⟨T62,[],0,8⟩),
 (63,⟨T63,[],0,8⟩),
 (64,⟨T64,[(0,1),(1,1),(2,1),(3,1)],0,96⟩),
 (65,⟨T65,[(0,1),(1,1),(2,1),(3,1)],0,96⟩),
 (66,⟨T66,[],0,8⟩),
 (67,⟨T67,[],0,8⟩),
 (68,⟨T68,[(0,1),(1,1),(2,1)],0,72⟩),
 (69,⟨T69,[(0,1),(1,1),(2,1)],0,72⟩),
 (70,⟨T70,[],0,8⟩),
 (71,⟨T71,[],0,8⟩),
 (72,⟨T72,[],0,8⟩),
 (73,⟨T73,[],0,8⟩),
 (74,⟨T74,[(0,1),(1,1),(2,1),(3,1),(4,1),(5,1),(6,1),(7,1)],0,160⟩),
 (75,⟨T75,[(0,1),(1,1),(2,1),(3,1),(4,1),(5,1),(6,1),(7,1)],0,160⟩),
 (76,⟨T76,[],0,8⟩),
 (77,⟨T77,[],0,8⟩),
 (78,⟨T78,[],0,8⟩),
 (79,⟨ZO,[],0,8⟩),
 (81,⟨T81,[],0,8⟩),
 (82,⟨T82,[],0,8⟩),
 (83,⟨T83,[],0,8⟩),
 (84,⟨T84,[],0,8⟩),
 (85,⟨T85,[],0,8⟩),
 (86,⟨CE,[],108,24⟩),
 (87,⟨T87,[(0,1),(1,1)],0,32⟩),
 (88,⟨J9,[(0,1),(1,1)],0,32⟩),
 (89,⟨T89,[],0,8⟩),
 (90,⟨T90,[],0,8⟩),
 (91,⟨T91,[],0,8⟩),
 (92,⟨T92,[],86,24⟩),
 (93,⟨T93,[(0,2),(2,1),(3,1),(4,1)],0,120⟩),
 (94,⟨T94,[(0,2),(2,1),(3,1),(4,1)],0,120⟩),
 (95,⟨T95,[],0,8⟩),
 (96,⟨T96,[],0,8⟩),
 (97,⟨T97,[],0,8⟩),
 (98,⟨T98,[],0,8⟩),
 (99,⟨T99,[],0,8⟩),
 (100,⟨A4v,[],0,8⟩),
 (102,⟨A4w,[],0,8⟩),
 (103,⟨A4x,[],0,8⟩),
 (104,⟨A4y,[],0,8⟩),
 (105,⟨A4z,[],0,8⟩),
 (106,⟨A4A,[],0,8⟩),
 (107,⟨A4B,[(0,1),(1,1)],0,16⟩),
 (108,⟨Aq,[(0,1),(1,1)],0,16⟩),
 (110,⟨A4C,[],0,8⟩),
 (112,⟨A4D,[],0,8⟩),
 (113,⟨A4E,[],0,8⟩),
 (114,⟨A4F,[],0,8⟩),
 (115,⟨A4G,[],0,8⟩),
 (116,⟨A4H,[],0,8⟩),
 (117,⟨A4I,[],0,8⟩),
 (118,⟨A4J,[(9,121)],0,8⟩),
 (119,⟨A4K,[],0,8⟩),
 (120,⟨A4L,[(0,1),(1,1)],0,32⟩),
 (121,⟨A3u,[(0,1),(1,1)],0,32⟩),
 (122,⟨A4M,[],121,24⟩),
 (123,⟨A4N,[],0,8⟩),
 (124,⟨A4O,[],0,8⟩),
 (125,⟨A4P,[],0,8⟩),
 (126,⟨A4Q,[],45,24⟩),
 (127,⟨A4R,[],0,8⟩),
 (128,⟨A4S,[],4,24⟩),
 (129,⟨A4T,[],0,8⟩),
 (130,⟨A4U,[],0,8⟩),
 (131,⟨A4V,[],0,8⟩),
 (132,⟨A4W,[(3,4)],0,8⟩),
 (133,⟨A4X,[],0,8⟩),
 (134,⟨A4Y,[],0,8⟩),
 (135,⟨A0o,[],146,24⟩),
 (137,⟨A4Z,[],0,8⟩),
 (138,⟨I2,[],144,24⟩),
 (140,⟨A50,[],0,8⟩),
 (141,⟨A6Q,[],209,24⟩),
 (142,⟨BA,[],209,24⟩),
 (143,⟨A6R,[(0,1),(1,1)],0,40⟩),
 (144,⟨XR,[(0,1),(1,1)],0,40⟩),
 (145,⟨A51,[],0,8⟩),
 (146,⟨XS,[],190,24⟩),
 (147,⟨A6S,[(0,1),(1,1),(2,1),(3,1)],0,88⟩),
 (148,⟨qO,[(0,1),(1,1),(2,1),(3,1)],0,88⟩),
 (150,⟨A52,[],0,8⟩),
 (151,⟨Bo,[],9,24⟩),
 (152,⟨ZQ,[],157,24⟩),
 (153,⟨A6T,[(0,1),(1,1),(2,1)],0,64⟩),
 (154,⟨qP,[(0,1),(1,1),(2,1)],0,64⟩),
 (155,⟨A53,[],0,8⟩),
 (156,⟨A54,[(0,1),(1,1)],0,32⟩),
 (157,⟨dJ,[(0,1),(1,1)],0,32⟩),
 (158,⟨IT,[(0,1),(1,1)],3,16⟩),
 (159,⟨A55,[],158,24⟩),
 (160,⟨A56,[],0,8⟩),
 (161,⟨A57,[],0,8⟩),
 (162,⟨A58,[],0,8⟩),
 (163,⟨A59,[],0,8⟩),
 (165,⟨A5a,[],0,8⟩),
 (166,⟨A5b,[],0,8⟩),
 (167,⟨A5c,[],0,8⟩),
 (168,⟨A5d,[],0,8⟩),
 (169,⟨A5e,[],0,8⟩),
 (170,⟨A5f,[],0,8⟩),
 (171,⟨A5g,[],0,8⟩),
 (172,⟨A5h,[],0,8⟩),
 (173,⟨A5i,[],0,8⟩),
 (174,⟨A5j,[],0,8⟩),
 (175,⟨A5k,[],0,8⟩),
 (176,⟨A5l,[],0,8⟩),
 (177,⟨A5m,[],5,24⟩),
 (178,⟨A5n,[],0,8⟩),
 (179,⟨A5o,[],0,8⟩),
 (180,⟨A5p,[],0,8⟩),
 (181,⟨A5q,[(183,4)],0,8⟩),
 (182,⟨A5r,[(0,1),(1,1)],0,16⟩),
 (183,⟨A3v,[(0,1),(1,1)],0,16⟩),
 (184,⟨A5s,[],0,8⟩),
 (185,⟨A5t,[],0,8⟩),
 (187,⟨A5u,[],0,8⟩),
 (188,⟨A5v,[],0,8⟩),
 (189,⟨A5w,[(0,1),(1,1)],0,16⟩),
 (190,⟨vU,[(0,1),(1,1)],0,16⟩),
 (191,⟨RN,[],142,24⟩),
 (192,⟨A5x,[],0,8⟩),
 (193,⟨A5y,[],0,8⟩),
 (194,⟨A5z,[],0,8⟩),
 (195,⟨A5A,[],0,8⟩),
 (196,⟨A5B,[],0,8⟩),
 (198,⟨A5C,[],0,8⟩),
 (199,⟨A5D,[],0,8⟩),
 (200,⟨A5E,[(0,1),(1,1)],0,24⟩),
 (201,⟨vV,[(0,1),(1,1)],0,24⟩),
 (202,⟨A5F,[],0,8⟩),
 (203,⟨A5G,[],0,8⟩),
 (204,⟨A6U,[(0,1),(1,1),(2,1)],0,72⟩),
 (205,⟨A6V,[(0,1),(1,1),(2,1)],0,72⟩),
 (206,⟨A5H,[],0,8⟩),
 (207,⟨A5I,[],0,8⟩),
 (208,⟨A5J,[],0,8⟩),
 (209,⟨OO,[],0,8⟩),
 (210,⟨A5K,[],0,8⟩),
 (211,⟨A5L,[],0,8⟩),
 (212,⟨A5M,[],0,8⟩),
 (213,⟨A5N,[],0,8⟩),
 (214,⟨A5O,[],0,8⟩),
 (216,⟨A5P,[],0,8⟩),
 (217,⟨A5Q,[],0,8⟩),
 (218,⟨A5R,[],0,8⟩),
 (219,⟨A5S,[],0,8⟩),
 (220,⟨A5T,[],0,8⟩),
 (221,⟨A5U,[],0,4⟩),
 (222,⟨A5V,[],0,8⟩),
 (223,⟨A5W,[],0,8⟩),
 (224,⟨A5X,[],0,8⟩),
 (225,⟨A5Y,[],0,8⟩),
 (226,⟨A5Z,[],0,8⟩),
 (227,⟨A60,[],0,8⟩),
 (228,⟨A61,[(3,3)],0,8⟩),
 (229,⟨A62,[],0,8⟩),
 (230,⟨A63,[],0,8⟩),
 (231,⟨A64,[],0,8⟩),
 (232,⟨A65,[],0,8⟩),
 (233,⟨A66,[],0,8⟩),
 (234,⟨A67,[],0,8⟩),
 (235,⟨A68,[],0,8⟩),
 (236,⟨A69,[],0,8⟩),
 (237,⟨A6a,[],0,8⟩),
 (239,⟨A6b,[],0,8⟩),
 (240,⟨A6c,[],0,8⟩),
 (241,⟨A6d,[],0,8⟩),
 (242,⟨A6e,[],0,8⟩),
 (243,⟨A6f,[],0,8⟩),
 (244,⟨A6g,[],0,8⟩),
 (245,⟨A6h,[],0,8⟩),
 (246,⟨A6i,[],0,8⟩),
 (247,⟨A6j,[],0,8⟩),
 (248,⟨A6k,[],0,8⟩),
 (249,⟨A6l,[],0,8⟩),
 (250,⟨A6m,[],0,8⟩),
 (251,⟨A6n,[],0,8⟩),
 (252,⟨A6o,[],0,8⟩),
 (253,⟨A6p,[],0,8⟩),
 (254,⟨A6q,[],0,8⟩),
 (255,⟨A6r,[],0,8⟩),
 (256,⟨A6s,[],0,8⟩),
 (257,⟨A6t,[],0,8⟩),
 (258,⟨A6u,[],0,8⟩),
 (259,⟨A6v,[],0,8⟩),
 (260,⟨A6w,[],0,8⟩),
 (262,⟨A6x,[],0,8⟩),
 (263,⟨A6y,[],0,8⟩),
 (264,⟨A6z,[],0,8⟩),
 (265,⟨A6A,[],0,8⟩),
 (266,⟨A6B,[],0,8⟩),
 (267,⟨A6C,[],0,8⟩),
 (268,⟨A6D,[],0,8⟩),
 (269,⟨A6E,[],0,8⟩),
 (270,⟨A6F,[],0,8⟩),
 (271,⟨A6G,[],0,8⟩),
 (272,⟨A6H,[],0,8⟩),
 (273,⟨A6I,[],0,8⟩),
 (274,⟨A6J,[],0,8⟩),
 (275,⟨A6K,[],0,8⟩),
 (276,⟨A6L,[],0,8⟩),
 (277,⟨A6M,[],0,8⟩),
 (283,⟨A6N,[],0,8⟩),
 (286,⟨A6O,[],0,8⟩),
 (287,⟨A6P,[],0,8⟩)]
theorem AG (f) (pu:List Nat:=[]) (ne:List (Nat×TypeId):=[]):Dp Tryz.prog ⟨AI,f,pu,ne⟩:=zW (by kernel_rfl)
theorem drawsAny:Tryz.prog.follows .mixedOrders=true:=by kernel_rfl
theorem ty1:lk 1 AI=some ⟨T1,[],0,8⟩:=rfl
theorem ty2:lk 2 AI=some ⟨T2,[],0,8⟩:=rfl
theorem ty3:lk 3 AI=some ⟨T3,[],0,8⟩:=rfl
theorem ty4:lk 4 AI=some ⟨T4,[],0,1⟩:=rfl
theorem ty5:lk 5 AI=some ⟨T5,[],0,1⟩:=rfl
theorem ty9:lk 9 AI=some ⟨T9,[],0,16⟩:=rfl
theorem A0p:lk 12 AI=some ⟨T12,[],0,8⟩:=rfl
theorem A0q:lk 21 AI=some ⟨T21,[],0,4⟩:=rfl
theorem A0r:lk 22 AI=some ⟨Ec,[],154,24⟩:=rfl
theorem A0s:lk 23 AI=some ⟨Fl,[],88,24⟩:=rfl
theorem A0t:lk 24 AI=some ⟨T24,[(0,1)],0,24⟩:=rfl
theorem A0u:lk 25 AI=some ⟨Ds,[(0,1)],0,24⟩:=rfl
theorem A0v:lk 26 AI=some ⟨YW,[],148,24⟩:=rfl
theorem A0w:lk 27 AI=some ⟨ZP,[],201,24⟩:=rfl
theorem A0x:lk 28 AI=some ⟨T28,[(0,1),(1,1)],0,48⟩:=rfl
theorem A0y:lk 29 AI=some ⟨GD,[(0,1),(1,1)],0,48⟩:=rfl
theorem A0z:lk 30 AI=some ⟨T30,[],0,8⟩:=rfl
theorem A0A:lk 31 AI=some ⟨T31,[],0,8⟩:=rfl
theorem A0B:lk 32 AI=some ⟨T32,[],0,8⟩:=rfl
theorem A0C:lk 34 AI=some ⟨T34,[],0,8⟩:=rfl
theorem A0D:lk 35 AI=some ⟨T35,[],0,8⟩:=rfl
theorem A0E:lk 36 AI=some ⟨T36,[],0,8⟩:=rfl
theorem A0F:lk 37 AI=some ⟨T37,[],25,24⟩:=rfl
theorem A0G:lk 38 AI=some ⟨T38,[],0,8⟩:=rfl
theorem A0H:lk 39 AI=some ⟨T39,[],0,8⟩:=rfl
theorem A0I:lk 40 AI=some ⟨Ek,[],3,24⟩:=rfl
theorem A0J:lk 41 AI=some ⟨T41,[(0,1),(1,1)],40,48⟩:=rfl
theorem A0K:lk 42 AI=some ⟨T42,[],0,8⟩:=rfl
theorem A0L:lk 43 AI=some ⟨T43,[],0,8⟩:=rfl
theorem A0M:lk 44 AI=some ⟨T44,[],0,8⟩:=rfl
theorem A0N:lk 45 AI=some ⟨zP,[],40,24⟩:=rfl
theorem A0O:lk 46 AI=some ⟨T46,[],0,8⟩:=rfl
theorem A0P:lk 47 AI=some ⟨T47,[],0,8⟩:=rfl
theorem A0Q:lk 48 AI=some ⟨T48,[],0,8⟩:=rfl
theorem A0R:lk 49 AI=some ⟨T49,[],0,8⟩:=rfl
theorem A0S:lk 50 AI=some ⟨T50,[],0,8⟩:=rfl
theorem A0T:lk 51 AI=some ⟨T51,[],0,8⟩:=rfl
theorem A0U:lk 52 AI=some ⟨T52,[],0,8⟩:=rfl
theorem A0V:lk 53 AI=some ⟨T53,[],0,8⟩:=rfl
theorem A0W:lk 54 AI=some ⟨T54,[],0,8⟩:=rfl
theorem A0X:lk 55 AI=some ⟨T55,[],0,8⟩:=rfl
theorem A0Y:lk 56 AI=some ⟨T56,[],0,8⟩:=rfl
theorem A0Z:lk 57 AI=some ⟨T57,[],61,24⟩:=rfl
theorem A10:lk 58 AI=some ⟨T58,[],0,8⟩:=rfl
theorem A11:lk 59 AI=some ⟨T59,[],0,8⟩:=rfl
theorem A12:lk 60 AI=some ⟨T60,[],0,8⟩:=rfl
theorem A13:lk 61 AI=some ⟨T61,[(0,1),(1,1)],25,48⟩:=rfl
theorem A14:lk 62 AI=some ⟨T62,[],0,8⟩:=rfl
theorem A15:lk 63 AI=some ⟨T63,[],0,8⟩:=rfl
theorem A16:lk 64 AI=some ⟨T64,[(0,1),(1,1),(2,1),(3,1)],0,96⟩:=rfl
theorem A17:lk 65 AI=some ⟨T65,[(0,1),(1,1),(2,1),(3,1)],0,96⟩:=rfl
theorem A18:lk 66 AI=some ⟨T66,[],0,8⟩:=rfl
theorem A19:lk 67 AI=some ⟨T67,[],0,8⟩:=rfl
theorem A1a:lk 68 AI=some ⟨T68,[(0,1),(1,1),(2,1)],0,72⟩:=rfl
theorem A1b:lk 69 AI=some ⟨T69,[(0,1),(1,1),(2,1)],0,72⟩:=rfl
theorem A1c:lk 70 AI=some ⟨T70,[],0,8⟩:=rfl
theorem A1d:lk 71 AI=some ⟨T71,[],0,8⟩:=rfl
theorem A1e:lk 72 AI=some ⟨T72,[],0,8⟩:=rfl
theorem A1f:lk 73 AI=some ⟨T73,[],0,8⟩:=rfl
theorem A1g:lk 74 AI=some ⟨T74,[(0,1),(1,1),(2,1),(3,1),(4,1),(5,1),(6,1),(7,1)],0,160⟩:=rfl
theorem A1h:lk 75 AI=some ⟨T75,[(0,1),(1,1),(2,1),(3,1),(4,1),(5,1),(6,1),(7,1)],0,160⟩:=rfl
theorem A1i:lk 76 AI=some ⟨T76,[],0,8⟩:=rfl
theorem A1j:lk 77 AI=some ⟨T77,[],0,8⟩:=rfl
theorem A1k:lk 78 AI=some ⟨T78,[],0,8⟩:=rfl
theorem A1l:lk 79 AI=some ⟨ZO,[],0,8⟩:=rfl
theorem A1m:lk 81 AI=some ⟨T81,[],0,8⟩:=rfl
theorem A1n:lk 82 AI=some ⟨T82,[],0,8⟩:=rfl
theorem A1o:lk 83 AI=some ⟨T83,[],0,8⟩:=rfl
theorem A1p:lk 84 AI=some ⟨T84,[],0,8⟩:=rfl
theorem A1q:lk 85 AI=some ⟨T85,[],0,8⟩:=rfl
theorem A1r:lk 86 AI=some ⟨CE,[],108,24⟩:=rfl
theorem A1s:lk 87 AI=some ⟨T87,[(0,1),(1,1)],0,32⟩:=rfl
theorem A1t:lk 88 AI=some ⟨J9,[(0,1),(1,1)],0,32⟩:=rfl
theorem A1u:lk 89 AI=some ⟨T89,[],0,8⟩:=rfl
theorem A1v:lk 90 AI=some ⟨T90,[],0,8⟩:=rfl
theorem A1w:lk 91 AI=some ⟨T91,[],0,8⟩:=rfl
theorem A1x:lk 92 AI=some ⟨T92,[],86,24⟩:=rfl
theorem A1y:lk 93 AI=some ⟨T93,[(0,2),(2,1),(3,1),(4,1)],0,120⟩:=rfl
theorem A1z:lk 94 AI=some ⟨T94,[(0,2),(2,1),(3,1),(4,1)],0,120⟩:=rfl
theorem A1A:lk 95 AI=some ⟨T95,[],0,8⟩:=rfl
theorem A1B:lk 96 AI=some ⟨T96,[],0,8⟩:=rfl
theorem A1C:lk 97 AI=some ⟨T97,[],0,8⟩:=rfl
theorem A1D:lk 98 AI=some ⟨T98,[],0,8⟩:=rfl
theorem A1E:lk 99 AI=some ⟨T99,[],0,8⟩:=rfl
theorem hD:lk 100 AI=some ⟨A4v,[],0,8⟩:=rfl
theorem hH:lk 102 AI=some ⟨A4w,[],0,8⟩:=rfl
theorem hZ:lk 103 AI=some ⟨A4x,[],0,8⟩:=rfl
theorem iA:lk 104 AI=some ⟨A4y,[],0,8⟩:=rfl
theorem iB:lk 105 AI=some ⟨A4z,[],0,8⟩:=rfl
theorem iC:lk 106 AI=some ⟨A4A,[],0,8⟩:=rfl
theorem iD:lk 107 AI=some ⟨A4B,[(0,1),(1,1)],0,16⟩:=rfl
theorem iE:lk 108 AI=some ⟨Aq,[(0,1),(1,1)],0,16⟩:=rfl
theorem iG:lk 110 AI=some ⟨A4C,[],0,8⟩:=rfl
theorem iH:lk 112 AI=some ⟨A4D,[],0,8⟩:=rfl
theorem iI:lk 113 AI=some ⟨A4E,[],0,8⟩:=rfl
theorem iJ:lk 114 AI=some ⟨A4F,[],0,8⟩:=rfl
theorem iK:lk 115 AI=some ⟨A4G,[],0,8⟩:=rfl
theorem iL:lk 116 AI=some ⟨A4H,[],0,8⟩:=rfl
theorem iM:lk 117 AI=some ⟨A4I,[],0,8⟩:=rfl
theorem iO:lk 118 AI=some ⟨A4J,[(9,121)],0,8⟩:=rfl
theorem iP:lk 119 AI=some ⟨A4K,[],0,8⟩:=rfl
theorem iQ:lk 120 AI=some ⟨A4L,[(0,1),(1,1)],0,32⟩:=rfl
theorem iR:lk 121 AI=some ⟨A3u,[(0,1),(1,1)],0,32⟩:=rfl
theorem iT:lk 122 AI=some ⟨A4M,[],121,24⟩:=rfl
theorem iU:lk 123 AI=some ⟨A4N,[],0,8⟩:=rfl
theorem iV:lk 124 AI=some ⟨A4O,[],0,8⟩:=rfl
theorem iW:lk 125 AI=some ⟨A4P,[],0,8⟩:=rfl
theorem iX:lk 126 AI=some ⟨A4Q,[],45,24⟩:=rfl
theorem iY:lk 127 AI=some ⟨A4R,[],0,8⟩:=rfl
theorem iZ:lk 128 AI=some ⟨A4S,[],4,24⟩:=rfl
theorem i3:lk 129 AI=some ⟨A4T,[],0,8⟩:=rfl
theorem i4:lk 130 AI=some ⟨A4U,[],0,8⟩:=rfl
theorem i5:lk 131 AI=some ⟨A4V,[],0,8⟩:=rfl
theorem i6:lk 132 AI=some ⟨A4W,[(3,4)],0,8⟩:=rfl
theorem i7:lk 133 AI=some ⟨A4X,[],0,8⟩:=rfl
theorem i8:lk 134 AI=some ⟨A4Y,[],0,8⟩:=rfl
theorem i9:lk 135 AI=some ⟨A0o,[],146,24⟩:=rfl
theorem jA:lk 137 AI=some ⟨A4Z,[],0,8⟩:=rfl
theorem jB:lk 138 AI=some ⟨I2,[],144,24⟩:=rfl
theorem jC:lk 140 AI=some ⟨A50,[],0,8⟩:=rfl
theorem jD:lk 141 AI=some ⟨A6Q,[],209,24⟩:=rfl
theorem jE:lk 142 AI=some ⟨BA,[],209,24⟩:=rfl
theorem jF:lk 143 AI=some ⟨A6R,[(0,1),(1,1)],0,40⟩:=rfl
theorem jG:lk 144 AI=some ⟨XR,[(0,1),(1,1)],0,40⟩:=rfl
theorem jH:lk 145 AI=some ⟨A51,[],0,8⟩:=rfl
theorem jI:lk 146 AI=some ⟨XS,[],190,24⟩:=rfl
theorem jJ:lk 147 AI=some ⟨A6S,[(0,1),(1,1),(2,1),(3,1)],0,88⟩:=rfl
theorem jK:lk 148 AI=some ⟨qO,[(0,1),(1,1),(2,1),(3,1)],0,88⟩:=rfl
theorem jL:lk 150 AI=some ⟨A52,[],0,8⟩:=rfl
theorem jM:lk 151 AI=some ⟨Bo,[],9,24⟩:=rfl
theorem jN:lk 152 AI=some ⟨ZQ,[],157,24⟩:=rfl
theorem jO:lk 153 AI=some ⟨A6T,[(0,1),(1,1),(2,1)],0,64⟩:=rfl
theorem jP:lk 154 AI=some ⟨qP,[(0,1),(1,1),(2,1)],0,64⟩:=rfl
theorem jQ:lk 155 AI=some ⟨A53,[],0,8⟩:=rfl
theorem jR:lk 156 AI=some ⟨A54,[(0,1),(1,1)],0,32⟩:=rfl
theorem jS:lk 157 AI=some ⟨dJ,[(0,1),(1,1)],0,32⟩:=rfl
theorem jT:lk 158 AI=some ⟨IT,[(0,1),(1,1)],3,16⟩:=rfl
theorem jU:lk 159 AI=some ⟨A55,[],158,24⟩:=rfl
theorem jV:lk 160 AI=some ⟨A56,[],0,8⟩:=rfl
theorem jW:lk 161 AI=some ⟨A57,[],0,8⟩:=rfl
theorem jX:lk 162 AI=some ⟨A58,[],0,8⟩:=rfl
theorem jY:lk 163 AI=some ⟨A59,[],0,8⟩:=rfl
theorem jZ:lk 165 AI=some ⟨A5a,[],0,8⟩:=rfl
theorem j3:lk 166 AI=some ⟨A5b,[],0,8⟩:=rfl
theorem j4:lk 167 AI=some ⟨A5c,[],0,8⟩:=rfl
theorem j5:lk 168 AI=some ⟨A5d,[],0,8⟩:=rfl
theorem j6:lk 169 AI=some ⟨A5e,[],0,8⟩:=rfl
theorem j7:lk 170 AI=some ⟨A5f,[],0,8⟩:=rfl
theorem j8:lk 171 AI=some ⟨A5g,[],0,8⟩:=rfl
theorem j9:lk 172 AI=some ⟨A5h,[],0,8⟩:=rfl
theorem kA:lk 173 AI=some ⟨A5i,[],0,8⟩:=rfl
theorem kB:lk 174 AI=some ⟨A5j,[],0,8⟩:=rfl
theorem kC:lk 175 AI=some ⟨A5k,[],0,8⟩:=rfl
theorem kD:lk 176 AI=some ⟨A5l,[],0,8⟩:=rfl
theorem kE:lk 177 AI=some ⟨A5m,[],5,24⟩:=rfl
theorem kF:lk 178 AI=some ⟨A5n,[],0,8⟩:=rfl
theorem kG:lk 179 AI=some ⟨A5o,[],0,8⟩:=rfl
theorem kH:lk 180 AI=some ⟨A5p,[],0,8⟩:=rfl
theorem kI:lk 181 AI=some ⟨A5q,[(183,4)],0,8⟩:=rfl
theorem kJ:lk 182 AI=some ⟨A5r,[(0,1),(1,1)],0,16⟩:=rfl
theorem kK:lk 183 AI=some ⟨A3v,[(0,1),(1,1)],0,16⟩:=rfl
theorem kL:lk 184 AI=some ⟨A5s,[],0,8⟩:=rfl
theorem kM:lk 185 AI=some ⟨A5t,[],0,8⟩:=rfl
theorem kN:lk 187 AI=some ⟨A5u,[],0,8⟩:=rfl
theorem kO:lk 188 AI=some ⟨A5v,[],0,8⟩:=rfl
theorem kP:lk 189 AI=some ⟨A5w,[(0,1),(1,1)],0,16⟩:=rfl
theorem kQ:lk 190 AI=some ⟨vU,[(0,1),(1,1)],0,16⟩:=rfl
theorem kR:lk 191 AI=some ⟨RN,[],142,24⟩:=rfl
theorem kS:lk 192 AI=some ⟨A5x,[],0,8⟩:=rfl
theorem kT:lk 193 AI=some ⟨A5y,[],0,8⟩:=rfl
theorem kU:lk 194 AI=some ⟨A5z,[],0,8⟩:=rfl
theorem kV:lk 195 AI=some ⟨A5A,[],0,8⟩:=rfl
theorem kW:lk 196 AI=some ⟨A5B,[],0,8⟩:=rfl
theorem kX:lk 198 AI=some ⟨A5C,[],0,8⟩:=rfl
theorem kY:lk 199 AI=some ⟨A5D,[],0,8⟩:=rfl
theorem kZ:lk 200 AI=some ⟨A5E,[(0,1),(1,1)],0,24⟩:=rfl
theorem k4:lk 201 AI=some ⟨vV,[(0,1),(1,1)],0,24⟩:=rfl
theorem k5:lk 202 AI=some ⟨A5F,[],0,8⟩:=rfl
theorem k6:lk 203 AI=some ⟨A5G,[],0,8⟩:=rfl
theorem k7:lk 204 AI=some ⟨A6U,[(0,1),(1,1),(2,1)],0,72⟩:=rfl
theorem k8:lk 205 AI=some ⟨A6V,[(0,1),(1,1),(2,1)],0,72⟩:=rfl
theorem k9:lk 206 AI=some ⟨A5H,[],0,8⟩:=rfl
theorem lA:lk 207 AI=some ⟨A5I,[],0,8⟩:=rfl
theorem lB:lk 208 AI=some ⟨A5J,[],0,8⟩:=rfl
theorem lC:lk 209 AI=some ⟨OO,[],0,8⟩:=rfl
theorem lD:lk 210 AI=some ⟨A5K,[],0,8⟩:=rfl
theorem lE:lk 211 AI=some ⟨A5L,[],0,8⟩:=rfl
theorem lF:lk 212 AI=some ⟨A5M,[],0,8⟩:=rfl
theorem lG:lk 213 AI=some ⟨A5N,[],0,8⟩:=rfl
theorem lH:lk 214 AI=some ⟨A5O,[],0,8⟩:=rfl
theorem lI:lk 216 AI=some ⟨A5P,[],0,8⟩:=rfl
theorem lJ:lk 217 AI=some ⟨A5Q,[],0,8⟩:=rfl
theorem lK:lk 218 AI=some ⟨A5R,[],0,8⟩:=rfl
theorem lL:lk 219 AI=some ⟨A5S,[],0,8⟩:=rfl
theorem lM:lk 220 AI=some ⟨A5T,[],0,8⟩:=rfl
theorem lN:lk 221 AI=some ⟨A5U,[],0,4⟩:=rfl
theorem lO:lk 222 AI=some ⟨A5V,[],0,8⟩:=rfl
theorem lQ:lk 223 AI=some ⟨A5W,[],0,8⟩:=rfl
theorem lR:lk 224 AI=some ⟨A5X,[],0,8⟩:=rfl
theorem lS:lk 225 AI=some ⟨A5Y,[],0,8⟩:=rfl
theorem lU:lk 226 AI=some ⟨A5Z,[],0,8⟩:=rfl
theorem lV:lk 227 AI=some ⟨A60,[],0,8⟩:=rfl
theorem lW:lk 228 AI=some ⟨A61,[(3,3)],0,8⟩:=rfl
theorem lX:lk 229 AI=some ⟨A62,[],0,8⟩:=rfl
theorem lY:lk 230 AI=some ⟨A63,[],0,8⟩:=rfl
theorem lZ:lk 231 AI=some ⟨A64,[],0,8⟩:=rfl
theorem l5:lk 232 AI=some ⟨A65,[],0,8⟩:=rfl
theorem l6:lk 233 AI=some ⟨A66,[],0,8⟩:=rfl
theorem l7:lk 234 AI=some ⟨A67,[],0,8⟩:=rfl
theorem l8:lk 235 AI=some ⟨A68,[],0,8⟩:=rfl
theorem l9:lk 236 AI=some ⟨A69,[],0,8⟩:=rfl
theorem mA:lk 237 AI=some ⟨A6a,[],0,8⟩:=rfl
theorem mB:lk 239 AI=some ⟨A6b,[],0,8⟩:=rfl
theorem mC:lk 240 AI=some ⟨A6c,[],0,8⟩:=rfl
theorem mD:lk 241 AI=some ⟨A6d,[],0,8⟩:=rfl
theorem mE:lk 242 AI=some ⟨A6e,[],0,8⟩:=rfl
theorem mF:lk 243 AI=some ⟨A6f,[],0,8⟩:=rfl
theorem mG:lk 244 AI=some ⟨A6g,[],0,8⟩:=rfl
theorem mH:lk 245 AI=some ⟨A6h,[],0,8⟩:=rfl
theorem mI:lk 246 AI=some ⟨A6i,[],0,8⟩:=rfl
theorem mJ:lk 247 AI=some ⟨A6j,[],0,8⟩:=rfl
theorem mK:lk 248 AI=some ⟨A6k,[],0,8⟩:=rfl
theorem mL:lk 249 AI=some ⟨A6l,[],0,8⟩:=rfl
theorem mM:lk 250 AI=some ⟨A6m,[],0,8⟩:=rfl
theorem mN:lk 251 AI=some ⟨A6n,[],0,8⟩:=rfl
theorem mO:lk 252 AI=some ⟨A6o,[],0,8⟩:=rfl
theorem mP:lk 253 AI=some ⟨A6p,[],0,8⟩:=rfl
theorem mQ:lk 254 AI=some ⟨A6q,[],0,8⟩:=rfl
theorem mR:lk 255 AI=some ⟨A6r,[],0,8⟩:=rfl
theorem mS:lk 256 AI=some ⟨A6s,[],0,8⟩:=rfl
theorem mT:lk 257 AI=some ⟨A6t,[],0,8⟩:=rfl
theorem mU:lk 258 AI=some ⟨A6u,[],0,8⟩:=rfl
theorem mV:lk 259 AI=some ⟨A6v,[],0,8⟩:=rfl
theorem mW:lk 260 AI=some ⟨A6w,[],0,8⟩:=rfl
theorem mX:lk 262 AI=some ⟨A6x,[],0,8⟩:=rfl
theorem mY:lk 263 AI=some ⟨A6y,[],0,8⟩:=rfl
theorem mZ:lk 264 AI=some ⟨A6z,[],0,8⟩:=rfl
theorem m5:lk 265 AI=some ⟨A6A,[],0,8⟩:=rfl
theorem m6:lk 266 AI=some ⟨A6B,[],0,8⟩:=rfl
theorem m7:lk 267 AI=some ⟨A6C,[],0,8⟩:=rfl
theorem m8:lk 268 AI=some ⟨A6D,[],0,8⟩:=rfl
theorem m9:lk 269 AI=some ⟨A6E,[],0,8⟩:=rfl
theorem nA:lk 270 AI=some ⟨A6F,[],0,8⟩:=rfl
theorem nB:lk 271 AI=some ⟨A6G,[],0,8⟩:=rfl
theorem nC:lk 272 AI=some ⟨A6H,[],0,8⟩:=rfl
theorem nD:lk 273 AI=some ⟨A6I,[],0,8⟩:=rfl
theorem nE:lk 274 AI=some ⟨A6J,[],0,8⟩:=rfl
theorem nF:lk 275 AI=some ⟨A6K,[],0,8⟩:=rfl
theorem nG:lk 276 AI=some ⟨A6L,[],0,8⟩:=rfl
theorem nH:lk 277 AI=some ⟨A6M,[],0,8⟩:=rfl
theorem nI:lk 283 AI=some ⟨A6N,[],0,8⟩:=rfl
theorem nJ:lk 286 AI=some ⟨A6O,[],0,8⟩:=rfl
theorem nK:lk 287 AI=some ⟨A6P,[],0,8⟩:=rfl
end
/- A slice held against nil: the answer is open, but where there is an element it is no. -/
section
open Go Go.RowKit
section
variable {c:Cx} {R:Exit→Act→World→Prop} {k:List D0} {σ σ':St}
end
end
/- From a law function's contract to the given statement: the arguments, read as data, are the contract's pure values; the end of the call in the statement's words. -/
section
open Go Go.RowKit Go.ChangeShapes Go.WideShapes
set_option maxRecDepth 100000
def nL (r:Ty→TypeId→Bool) (P:Program):Ty→Nat→List Field→Bool
 | .prod a b,o,fs=>match fs with
  | f :: fs=>f.offset==o&&P.cellsOf f.type==a.size&&r a f.type&&nL r P b (o+a.size) fs
  | []=>false
 | s,o,[f]=>f.offset==o&&P.cellsOf f.type==s.size&&r s f.type
 | _,_,_=>false
def qQ (P:Program) (m:Nat) (e:TypeId):List Field:=(List.range m).map fun i=>{ (default:Field) with offset:=i*P.cellsOf e,type:=e }
def rd (P:Program):Nat→Ty→TypeId→Bool
 | 0,_,_=>false
 | _+1,.int k,t=>isI k (P.underlying t)
 | _+1,.bool,t=>match P.underlying t with|some .bool=>true|_=>false
 | _+1,.str,t=>match P.underlying t with|some .string=>true|_=>false
 | n+1,.slice e,t=>match P.underlying t with|some (.slice et)=>decide (0<P.bytesOf et)&&P.cellsOf et==e.size&&rd P n e et|_=>false
 | n+1,.agg s,t=>match P.underlying t with|some (.struct fs)=>P.cellsOf t==s.size&&nL (rd P n) P s 0 fs.toList|some (.array m e)=>P.cellsOf t==s.size&&nL (rd P n) P s 0 (qQ P m e)|_=>false
 | _+1,_,_=>false
theorem nM {P:Program} {n:Nat} {t:TypeId} (h:rd P (n+1) .bool t=true):P.underlying t=some .bool:=by
 simp only[rd]at h
 split at h
 ·assumption
 ·cases h
theorem vW {P:Program} {n:Nat} {t:TypeId} (h:rd P (n+1) .str t=true):P.underlying t=some .string:=by
 simp only[rd]at h
 split at h
 ·assumption
 ·cases h
theorem ZR {P:Program} {n:Nat} {e:Ty} {t:TypeId} (h:rd P (n+1) (.slice e) t=true):∃et,P.underlying t=some (.slice et)∧0<P.bytesOf et∧P.cellsOf et=e.size∧rd P n e et=true:=by
 simp only[rd]at h
 split at h
 ·rename_i et hu
  simp only[Bool.and_eq_true,decide_eq_true_eq,beq_iff_eq]at h
  exact⟨et,hu,h.1.1,h.1.2,h.2⟩
 ·cases h
theorem vX {P:Program} {n:Nat} {s:Ty} {t:TypeId} (h:rd P (n+1) (.agg s) t=true):(∃fs,P.underlying t=some (.struct fs)∧P.cellsOf t=s.size∧nL (rd P n) P s 0 fs.toList=true)∨∃m e,P.underlying t=some (.array m e)∧P.cellsOf t=s.size∧nL (rd P n) P s 0 (qQ P m e)=true:=by
 simp only[rd]at h
 split at h
 ·rename_i fs hu
  simp only[Bool.and_eq_true,beq_iff_eq]at h
  exact .inl ⟨fs,hu,h.1,h.2⟩
 ·rename_i m e hu
  simp only[Bool.and_eq_true,beq_iff_eq]at h
  exact .inr ⟨m,e,hu,h.1,h.2⟩
 ·cases h
theorem qR {w:World} {base:Nat} {a:Addr} {n:Nat} {cs:List Value} (h:w.cells? base a n=some cs):cs.length=n∧∀(j:Nat) (v:Value),cs[j]?=some v→w.cell? (a.add j)=some v:=by
 unfold World.cells? at h
 split at h
 ·have h1:=mapM_some_length h
  simp only[List.length_range]at h1
  refine⟨h1,fun j v hj=>?_⟩
  have hlt:j<n:=by
   obtain⟨hlt,_⟩:=List.getElem?_eq_some_iff.1 hj
   omega
  rw[mapM_some_get h j j (by simp[hlt]),hj]
 ·cases h
section
variable {H:Type} {enc:TypeId×Value→H} {P:Program} {w:World} {spare:Nat→Bool} {held:Bool}
theorem ZS {e:TypeId}:∀ {l:List (DataW H)} {d:DataW H},d∈l→∀n∈d.weights P e,n∈DataW.weightsAll P e l
 | a :: l,d,hd,n,hn=>by
  simp only[DataW.weightsAll,List.mem_append]
  rcases List.mem_cons.1 hd with rfl|hd
  ·exact .inl hn
  ·exact .inr (ZS hd n hn)
 | [],_,hd,_,_=>by cases hd
theorem Va {us:List TypeId} {gs:List (DataW H)}:∀ {ts:List TypeId} {ds:List (DataW H)},∀n∈DataW.weightsEach P ts ds,n∈DataW.weightsEach P (ts++us) (ds++gs)
 | t :: ts,d :: ds,n,hn=>by
  simp only[DataW.weightsEach,List.cons_append,List.mem_append]at hn ⊢
  rcases hn with hn|hn
  ·exact .inl hn
  ·exact .inr (Va n hn)
 | [],_,n,hn=>by simp[DataW.weightsEach]at hn
 | _ :: _,[],n,hn=>by simp[DataW.weightsEach]at hn
theorem Vb {e:TypeId}:∀ {m:Nat} {k:Nat} {ds:List (DataW H)},∀n∈DataW.weightsEach P (((List.range' k m).map fun i=>({ (default:Field) with offset:=i*P.cellsOf e,type:=e }:Field)).map (·.type)) ds,n∈DataW.weightsAll P e ds
 | 0,_,ds,n,hn=>by simp[DataW.weightsEach]at hn
 | m+1,k,[],n,hn=>by
  rw[List.range'_succ]at hn
  simp[DataW.weightsEach]at hn
 | m+1,k,d :: ds,n,hn=>by
  rw[List.range'_succ]at hn
  simp only[List.map_cons,DataW.weightsEach,List.mem_append]at hn
  simp only[DataW.weightsAll,List.mem_append]
  rcases hn with hn|hn
  ·exact .inl hn
  ·exact .inr (Vb n hn)
theorem Qn {n:Nat} {r:Ty→TypeId→Bool}
  (hr:∀ty t,r ty t=true→∀(cs:List Value) (x:DataW H×List MemPlace),DataW.trod enc P w 0 spare held n t cs=some x→(∀b∈x.1.weights P t,b≤reachBytes)→∃d:ty.den,Bj w (fun _=>False) ty cs d) (cs:List Value) :
  ∀(s:Ty) (o:Nat) (fs:List Field),nL r P s o fs=true→∀xs:List (DataW H×List MemPlace),xs.length=fs.length →
   (∀(i:Nat) (f:Field),fs[i]?=some f→DataW.trod enc P w 0 spare held n f.type ((cs.drop f.offset).take (P.cellsOf f.type))=xs[i]?) →
   (∀b∈DataW.weightsEach P (fs.map (·.type)) (xs.map (·.1)),b≤reachBytes)→∃d:s.den,Bj w (fun _=>False) s ((cs.drop o).take s.size) d:=by
 have one:∀(s:Ty) (o:Nat) (f:Field),(f.offset==o&&P.cellsOf f.type==s.size&&r s f.type)=true→∀x:DataW H×List MemPlace,
   DataW.trod enc P w 0 spare held n f.type ((cs.drop f.offset).take (P.cellsOf f.type))=some x →
   (∀b∈x.1.weights P f.type,b≤reachBytes)→∃d:s.den,Bj w (fun _=>False) s ((cs.drop o).take s.size) d:=by
  intro s o f h x hx hb
  simp only[Bool.and_eq_true,beq_iff_eq]at h
  obtain⟨⟨rfl,h2⟩,h3⟩:=h
  rw[←h2]
  exact hr s f.type h3 _ x hx hb
 have lone:∀(s:Ty) (o:Nat) (f:Field),(f.offset==o&&P.cellsOf f.type==s.size&&r s f.type)=true→∀xs:List (DataW H×List MemPlace),xs.length=[f].length →
   (∀(i:Nat) (g:Field),[f][i]?=some g→DataW.trod enc P w 0 spare held n g.type ((cs.drop g.offset).take (P.cellsOf g.type))=xs[i]?) →
   (∀b∈DataW.weightsEach P ([f].map (·.type)) (xs.map (·.1)),b≤reachBytes)→∃d:s.den,Bj w (fun _=>False) s ((cs.drop o).take s.size) d:=by
  intro s o f h xs hl hx hb
  obtain⟨x,rfl⟩:∃x,xs=[x]:=List.length_eq_one_iff.1 (by simpa using hl)
  exact one s o f h x (hx 0 f rfl) (fun b hb'=>hb b (by simp[DataW.weightsEach,hb']))
 intro s
 induction s with
 | prod a b iha ihb =>
  intro o fs h xs hl hx hb
  cases fs with
  | nil=>simp[nL]at h
  | cons f fs =>
   simp only[nL,Bool.and_eq_true]at h
   obtain⟨⟨⟨h1,h2⟩,h3⟩,h4⟩:=h
   obtain⟨x,ys,rfl⟩:∃x ys,xs=x :: ys:=List.exists_cons_of_ne_nil (by intro h;subst h;simp at hl)
   obtain⟨d1,r1⟩:=one a o f (by simp only[h1,h2,h3,Bool.and_self]) x (hx 0 f rfl) (fun b hb'=>hb b (by
     simp only[List.map_cons,DataW.weightsEach,List.mem_append]
     exact .inl hb'))
   obtain⟨d2,r2⟩:=ihb (o+a.size) fs h4 ys (by simpa using hl) (fun i g hg=>hx (i+1) g hg) (fun b hb'=>hb b (by
     simp only[List.map_cons,DataW.weightsEach,List.mem_append]
     exact .inr hb'))
   refine⟨(d1,d2),(cs.drop o).take a.size,(cs.drop (o+a.size)).take b.size,?_,r1,r2⟩
   show (cs.drop o).take (a.size+b.size)=_
   rw[List.take_add,List.drop_drop]
 | int k=>intro o fs h;match fs,h with|[f],h=>exact lone _ o f (by simpa only[nL] using h)
 | bool=>intro o fs h;match fs,h with|[f],h=>exact lone _ o f (by simpa only[nL] using h)
 | str=>intro o fs h;match fs,h with|[f],h=>exact lone _ o f (by simpa only[nL] using h)
 | slice e _=>intro o fs h;match fs,h with|[f],h=>exact lone _ o f (by simpa only[nL] using h)
 | agg t _=>intro o fs h;match fs,h with|[f],h=>exact lone _ o f (by simpa only[nL] using h)
 | ref k=>intro o fs h;match fs,h with|[f],h=>exact lone _ o f (by simpa only[nL] using h)
theorem vY:∀(k:Nat) (ty:Ty) (t:TypeId),rd P k ty t=true→∀(n:Nat) (cs:List Value) (x:DataW H×List MemPlace),
  DataW.trod enc P w 0 spare held n t cs=some x→(∀b∈x.1.weights P t,b≤reachBytes)→∃d:ty.den,Bj w (fun _=>False) ty cs d:=by
 intro k
 induction k with
 | zero=>intro ty t h;simp[rd]at h
 | succ k ih =>
  intro ty t h n cs x hx hb
  cases ty with
  | int q =>
   have hu:=Wu (by simpa only[rd] using h)
   obtain⟨m,rfl,rfl,hw⟩:=DataW.trod_int hu hx
   simp only[Lit.wf,Bool.and_eq_true,decide_eq_true_eq]at hw
   exact⟨m,rfl,hw⟩
  | bool =>
   obtain⟨b,rfl,rfl⟩:=DataW.trod_bool (nM h) hx
   exact⟨b,rfl⟩
  | str =>
   obtain⟨b,rfl,rfl,_⟩:=DataW.trod_string (vW h) hx
   refine⟨b,rfl,?_⟩
   have:=hb b.data.toList.length (by simp only[DataW.weights];exact List.mem_cons_self)
   have h2:b.data.toList.length=b.size:=Array.length_toList
   simp only[reachBytes]at this
   simp only[AP]
   omega
  | slice e =>
   obtain⟨et,hu,hb0,hce,he⟩:=ZR h
   rcases DataW.trod_slice hu hx with ⟨rfl,rfl⟩|⟨a,len,cap,elems,rest,m,rfl,rfl,rfl,-,hlc,-,hlen,helems,-,-⟩
   ·exact⟨[],none,0,rfl,Nat.le_refl _,Nat.zero_le _,.inl rfl⟩
   ·have hsz:len≤AP:=by
     have h1:=hb ((elems.length+rest.length)*P.bytesOf et) (by simp only[DataW.weights,hu,List.length_map];exact List.mem_cons_self)
     have h2:elems.length+rest.length≤(elems.length+rest.length)*P.bytesOf et:=Nat.le_mul_of_pos_right _ hb0
     simp only[reachBytes]at h1
     simp only[AP]
     omega
    have hel:∀i,i<len→∃d:e.den,∃es:List Value,es.length=e.size∧(∀(j:Nat) (v:Value),es[j]?=some v→w.cell? (a.add (i*e.size+j))=some v)∧Bj w (fun _=>False) e es d:=by
     intro i hi
     have h1:=helems i hi
     obtain⟨x,hx⟩:∃x,elems[i]?=some x:=⟨_,List.getElem?_eq_getElem (by omega)⟩
     rw[hx]at h1
     obtain⟨es,h2,h3⟩:=Option.bind_eq_some_iff.1 h1
     obtain⟨h4,h5⟩:=qR h2
     obtain⟨d,hd⟩:=ih e et he m es x h3 (fun b hb'=>hb b (by
      simp only[DataW.weights,hu]
      exact List.mem_cons_of_mem _ (List.mem_append_left _ (ZS (List.mem_map.2 ⟨x,List.mem_of_getElem? hx,rfl⟩) b hb'))))
     refine⟨d,es,by rw[h4,hce],fun j v hj=>?_,hd⟩
     have:=h5 j v hj
     rwa [C0,hce]at this
    have hall:∃ds:List e.den,ds.length=len∧∀(i:Nat) (d:e.den),ds[i]?=some d→∃es:List Value,es.length=e.size∧(∀(j:Nat) (v:Value),es[j]?=some v→w.cell? (a.add (i*e.size+j))=some v)∧Bj w (fun _=>False) e es d:=by
     refine⟨(List.range len).pmap (fun i hi=>Classical.choose (hel i hi)) (fun i hi=>List.mem_range.1 hi),by simp,fun i d hd=>?_⟩
     rw[List.getElem?_pmap]at hd
     simp only[Option.pmap_eq_some_iff]at hd
     obtain⟨j,h1,h2,rfl⟩:=hd
     have hij:j=i:=by
      obtain⟨hlt,he⟩:=List.getElem?_eq_some_iff.1 h2
      simpa using he.symm
     subst hij
     exact Classical.choose_spec (hel j h1)
    obtain⟨ds,hdl,hds⟩:=hall
    exact⟨ds,some a,cap,by rw[hdl],by omega,by omega,.inr ⟨a,rfl,fun h=>h,hds⟩⟩
  | agg s =>
   rcases vX h with ⟨fs,hu,hcs,hf⟩|⟨q,e,hu,hcs,hf⟩
   ·obtain⟨xs,m,rfl,rfl,hl,hxl,hxs⟩:=DataW.trod_struct hu hx
    obtain⟨d,hd⟩:=Qn (fun ty t hrd cs x hx hb=>ih ty t hrd m cs x hx hb) cs s 0 fs.toList hf xs (by simpa using hxl) (fun i f hi=>hxs i f (by simpa using hi)) (by
     simpa[DataW.weights,hu] using hb)
    refine⟨d,?_⟩
    show Bj w _ s cs d
    rwa [List.drop_zero,List.take_of_length_le (by omega)]at hd
   ·obtain⟨xs,m,rfl,rfl,hl,hxl,hxs⟩:=DataW.trod_array hu hx
    obtain⟨d,hd⟩:=Qn (fun ty t hrd cs x hx hb=>ih ty t hrd m cs x hx hb) cs s 0 (qQ P q e) hf xs (by simp[qQ,hxl]) (fun i f hi=>by
     unfold qQ at hi
     rw[List.getElem?_map]at hi
     by_cases hiq:i<q
     ·rw[List.getElem?_range hiq]at hi
      have hi:({ (default:Field) with offset:=i*P.cellsOf e,type:=e }:Field)=f:=by simpa using hi
      rw[←hi]
      exact hxs i hiq
     ·rw[List.getElem?_eq_none (by simp;omega)]at hi
      cases hi) (fun b hb'=>hb b (by
     simp only[DataW.weights,hu]
     unfold qQ at hb'
     rw[List.range_eq_range']at hb'
     exact Vb b hb'))
    refine⟨d,?_⟩
    show Bj w _ s cs d
    rwa [List.drop_zero,List.take_of_length_le (by omega)]at hd
  | prod a b=>simp[rd]at h
  | ref j=>simp[rd]at h
theorem A1F {k:Nat} {ty:Ty} {t:TypeId} {v:Value} {r:Reach} {base:Nat} (h:rd P k ty t=true) (hv:Value.okWide P w r base t v):v=ty.wrap v.cells.toList:=by
 cases k with
 | zero=>simp[rd]at h
 | succ k =>
  cases ty with
  | int q =>
   obtain⟨n,rfl⟩:=okWide_int (Wu (by simpa only[rd] using h)) hv
   rfl
  | bool =>
   obtain⟨n,rfl⟩:=okWide_bool (nM h) hv
   rfl
  | str =>
   obtain⟨n,rfl⟩:=okWide_string (vW h) hv
   rfl
  | slice e =>
   obtain⟨et,hu,_⟩:=ZR h
   obtain⟨a,l,c,rfl⟩:=okWide_slice hu hv
   rfl
  | agg s =>
   rcases vX h with ⟨fs,hu,_⟩|⟨q,e,hu,_⟩
   ·obtain⟨cs,rfl,_⟩:=okWide_struct hu hv
    simp[Ty.wrap,Value.cells]
   ·simp only[Value.okWide,hu]at hv
    obtain⟨cs,rfl,_⟩:=hv
    simp[Ty.wrap,Value.cells]
  | prod a b=>simp[rd]at h
  | ref j=>simp[rd]at h
def Mc (P:Program):List Ty→List TypeId→Bool
 | [],[]=>true
 | ty :: tys,t :: ts=>rd P 50 ty t&&P.readableRec t&&decide (t<P.types.size)&&Mc P tys ts
 | _,_=>false
theorem ZT {r:Reach} {base:Nat}:∀(tys:List Ty) (ts:List TypeId) (vs:List Value) (ds:List (DataW H)) (p:List MemPlace),Mc P tys ts=true→DataW.TrodAll enc P w 0 spare held ts vs ds p →
  (∀(j:Nat) (t:TypeId) (v:Value),ts[j]?=some t→vs[j]?=some v→Value.okWide P w r base t v)→(∀b∈DataW.weightsEach P ts ds,b≤reachBytes)→∃xs:KP tys,QY w (fun _=>False) tys vs xs
 | [],[],vs,ds,p,_,h,_,_=>by
  obtain⟨rfl,_,_⟩:=trodAll_nil h
  exact⟨(),rfl⟩
 | ty :: tys,t :: ts,vs,ds,p,hrd,h,hv,hb=>by
  simp only[Mc,Bool.and_eq_true]at hrd
  obtain⟨⟨⟨h1,_⟩,_⟩,h2⟩:=hrd
  obtain⟨v,vs',d,ds',p1,q1,rfl,rfl,rfl,⟨n,hd⟩,hrest⟩:=trodAll_cons h
  simp only[DataW.weightsEach,List.mem_append]at hb
  obtain⟨x,hx⟩:=vY 50 ty t h1 n _ _ hd (fun b hb'=>hb b (.inl hb'))
  obtain⟨xs,hxs⟩:=ZT tys ts vs' ds' q1 h2 hrest (fun j t' v' ht hv'=>hv (j+1) t' v' ht hv') (fun b hb'=>hb b (.inr hb'))
  exact⟨(x,xs),v,vs',rfl,⟨_,hx,A1F h1 (hv 0 t v rfl rfl)⟩,hxs⟩
 | [],_ :: _,_,_,_,h,_,_,_=>by simp[Mc]at h
 | _ :: _,[],_,_,_,h,_,_,_=>by simp[Mc]at h
theorem Vc (hl:laidOutB P=true) {W W':World} (hb:Below W.heap.size W W'):∀(tys:List Ty) (ts:List TypeId) (vs:List Value) (ds:List (DataW H)) (p:List MemPlace),Mc P tys ts=true →
  DataW.TrodAll enc P W 0 (fun _=>true) true ts vs ds p→(∀x∈p,x.block<W.heap.size)→DataW.TrodAll enc P W' 0 (fun b=>decide (b<W.heap.size)) true ts vs ds p
 | [],[],vs,ds,p,_,h,_=>by
  obtain⟨rfl,rfl,rfl⟩:=trodAll_nil h
  rfl
 | ty :: tys,t :: ts,vs,ds,p,hrd,h,hlt=>by
  simp only[Mc,Bool.and_eq_true,decide_eq_true_eq]at hrd
  obtain⟨⟨⟨_,h1⟩,h2⟩,h3⟩:=hrd
  obtain⟨v,vs',d,ds',p1,q1,rfl,rfl,rfl,hd,hrest⟩:=trodAll_cons h
  exact⟨p1,q1,Below.trod hl h1 h2 hd hb (fun x hx=>hlt x (List.mem_append_left _ hx)),Vc hl hb tys ts vs' ds' q1 h3 hrest (fun x hx=>hlt x (List.mem_append_right _ hx)),rfl⟩
 | [],_ :: _,_,_,_,h,_,_=>by simp[Mc]at h
 | _ :: _,[],_,_,_,h,_,_=>by simp[Mc]at h
end
theorem vZ {w:World} {O:Nat→Prop} {u:Value} {w':World} (h:uC w O [.p .bool true] u w'):u=.bool true∧Below w.heap.size w w':=by
 obtain⟨ρ',hq⟩:=h 0
 refine⟨?_,hq.below⟩
 obtain⟨cs,h1,h2⟩:Bk _ _ .bool u true:=hq.av
 have h1:cs=[.bool true]:=h1
 rw[h2,h1]
 rfl
theorem v7 {P:Program} {f:FuncId} {fn:Func} {sp:Af} {s:ChangeSpec} {tb:TypeId} (hok:Al P f sp) (hpre:∀ds,sp.pre ds) (hout:∀ds,sp.out ds=[.p .bool true])
  (hl:laidOutB P=true) (hrd:Mc P sp.ins fn.params.toList=true) (hres:fn.resultTypes=#[tb]) (hbool:P.underlying tb=some .bool) (hvars:s.vars=[])
  (hs:∀(H:Type) (ds:List (DataW H)),ds.length=fn.params.size→(s.fn H ds).results=[.lit (.bool true)]∧(s.fn H ds).args=ds∧(s.fn H ds).vars=[])
  {H:Type} {enc:TypeId×Value→H} {W:World} {base:Nat} {args:Array Value} {ds gs:List (DataW H)} {before:List MemPlace} {us:List TypeId}
  (hval:∀(j:Nat) t v,fn.params[j]?=some t→args[j]?=some v→Value.okWide P W .any base t v)
  (hW:DataW.Whole enc P fn.params.toList s.vars false W args.toList ds gs before)
  (hsz:(DataW.weightsEach P (fn.params.toList++us) (ds++gs)).all (·≤reachBytes)=true) :
  Calls P f args W fun e W'=>∃v,e=.returned v∧s.post enc P fn false true false false W args v W':=by
 have hW':=hW
 obtain⟨p,q,hA,hV,rfl,hfz,hnd⟩:=hW
 rw[hvars]at hV
 obtain⟨rfl,rfl⟩:=trodVars_none hV
 obtain⟨xs,hxs⟩:=ZT sp.ins fn.params.toList args.toList ds p hrd hA (fun j t v ht hv=>hval j t v (by simpa using ht) (by simpa using hv))
  (fun b hb=>by simpa using List.all_eq_true.1 hsz b (Va b hb))
 have hlt:∀x∈p,x.block<W.heap.size:=fun x hx=>by simpa using hW'.lt x (List.mem_append_left _ hx)
 have hlen:ds.length=fn.params.size:=by
  have:∀(ts:List TypeId) (vs:List Value) (ds:List (DataW H)) (p:List MemPlace),DataW.TrodAll enc P W 0 (fun _=>true) true ts vs ds p→ds.length=ts.length:=by
   intro ts
   induction ts with
   | nil=>intro vs ds p h;obtain⟨_,rfl,_⟩:=trodAll_nil h;rfl
   | cons t ts ih=>intro vs ds p h;obtain⟨v,vs',d,ds',p1,q1,rfl,rfl,rfl,_,hr⟩:=trodAll_cons h;simp[ih _ _ _ hr]
  simpa using this _ _ _ _ hA
 have hc:=hok.2 W (fun _=>False) args.toList xs (fun _ h=>h.elim) hxs (hpre xs)
 rw[hout]at hc
 have ea:args.toList.toArray=args:=by simp
 rw[ea]at hc
 refine hc.mono fun e W' ⟨u,he,hu⟩=>?_
 obtain⟨rfl,hb⟩:=vZ hu
 obtain⟨e1,e2,e3⟩:=hs H (ds++[]) (by simpa using hlen)
 refine⟨_,he,_,_,_,[],p,[],hW',?_,?_,?_,hb.frame _,fun h=>by cases h⟩
 ·rw[e1,hres]
  exact trodAll_mk1 (shut_bool hbool _)
 ·rw[e2,List.append_nil]
  exact Vc hl hb sp.ins _ _ _ _ hrd hA hlt
 ·rw[e3,hvars]
  rfl
end
end Go.Proofs.YtebfihindnhccaaGreat.Fw

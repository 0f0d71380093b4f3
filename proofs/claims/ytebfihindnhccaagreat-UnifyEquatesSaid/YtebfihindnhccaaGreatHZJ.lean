/- This program's types; a slice compared with nil; from a contract to the given statement. -/
/- The shapes of this program's types. -/
import Derived.Test.YtebfihindnhccaaGreatHZI
import Derived.Test.YtebfihindnhccaaGreatChecked
import Derived.Laws.Cover3
import Derived.Carry
import Derived.SizedLaws
import Derived.OpenShut
set_option linter.unusedVariables false
set_option linter.unusedSimpArgs false
namespace Go.Proofs.YtebfihindnhccaaGreat.Fw
section
open Go
abbrev T1:Ty:=.ref 1
abbrev T2:Ty:=.int .i64
abbrev T3:Ty:=.int .i64
abbrev T4:Ty:=.bool
abbrev T5:Ty:=.int .u8
abbrev T9:Ty:=.str
abbrev T12:Ty:=.int .u64
abbrev T21:Ty:=.int .i32
abbrev T30:Ty:=.ref 1
abbrev T31:Ty:=.ref 1
abbrev T32:Ty:=.ref 1
abbrev T34:Ty:=.ref 1
abbrev T35:Ty:=.ref 1
abbrev T36:Ty:=.ref 1
abbrev T38:Ty:=.ref 1
abbrev T39:Ty:=.ref 1
abbrev Ez:Ty:=.slice T3
abbrev T41:Ty:=.agg (.prod Ez (Ez))
abbrev T42:Ty:=.ref 1
abbrev T43:Ty:=.ref 1
abbrev T44:Ty:=.ref 1
abbrev xA:Ty:=.slice Ez
abbrev T46:Ty:=.ref 1
abbrev T47:Ty:=.ref 1
abbrev T48:Ty:=.ref 1
abbrev T49:Ty:=.ref 1
abbrev T50:Ty:=.ref 1
abbrev T51:Ty:=.ref 1
abbrev T52:Ty:=.ref 1
abbrev T53:Ty:=.ref 1
abbrev T54:Ty:=.ref 1
abbrev T55:Ty:=.ref 1
abbrev T56:Ty:=.ref 1
abbrev T58:Ty:=.ref 1
abbrev T59:Ty:=.ref 1
abbrev T60:Ty:=.ref 1
abbrev T62:Ty:=.ref 1
abbrev T63:Ty:=.ref 1
abbrev T66:Ty:=.ref 1
abbrev T67:Ty:=.ref 1
abbrev T70:Ty:=.ref 1
abbrev T71:Ty:=.ref 1
abbrev T72:Ty:=.ref 1
abbrev T73:Ty:=.ref 1
abbrev T76:Ty:=.ref 1
abbrev T77:Ty:=.ref 1
abbrev T78:Ty:=.ref 1
abbrev YO:Ty:=.int .i64
abbrev T81:Ty:=.ref 1
abbrev T82:Ty:=.ref 1
abbrev T83:Ty:=.ref 1
abbrev T84:Ty:=.ref 1
abbrev T85:Ty:=.ref 1
abbrev T89:Ty:=.ref 1
abbrev T90:Ty:=.ref 1
abbrev T91:Ty:=.ref 0
abbrev T95:Ty:=.ref 1
abbrev T96:Ty:=.ref 1
abbrev T97:Ty:=.ref 1
abbrev T98:Ty:=.ref 1
abbrev T99:Ty:=.ref 1
abbrev A31:Ty:=.ref 1
abbrev A32:Ty:=.ref 1
abbrev A33:Ty:=.ref 1
abbrev A34:Ty:=.ref 1
abbrev A35:Ty:=.ref 1
abbrev A36:Ty:=.ref 1
abbrev A37:Ty:=.agg (.prod T3 (T3))
abbrev ED:Ty:=.agg (.prod T3 (T3))
abbrev A38:Ty:=.ref 1
abbrev A39:Ty:=.ref 1
abbrev A3a:Ty:=.ref 1
abbrev A3b:Ty:=.ref 1
abbrev A3c:Ty:=.ref 1
abbrev A3d:Ty:=.ref 1
abbrev A3e:Ty:=.ref 1
abbrev A3f:Ty:=.ref 2
abbrev A3g:Ty:=.ref 1
abbrev A3h:Ty:=.agg (.prod Ez (T3))
abbrev A2b:Ty:=.agg (.prod Ez (T3))
abbrev A3i:Ty:=.slice A2b
abbrev A3j:Ty:=.ref 1
abbrev A3k:Ty:=.ref 1
abbrev A3l:Ty:=.ref 1
abbrev A3m:Ty:=.slice xA
abbrev A3n:Ty:=.ref 1
abbrev A3o:Ty:=.slice T4
abbrev A3p:Ty:=.ref 1
abbrev A3q:Ty:=.ref 1
abbrev A3r:Ty:=.ref 1
abbrev A3s:Ty:=.ref 2
abbrev A3t:Ty:=.ref 1
abbrev A3u:Ty:=.ref 1
abbrev A3v:Ty:=.ref 1
abbrev A3w:Ty:=.ref 1
abbrev A3x:Ty:=.ref 1
abbrev A3y:Ty:=.ref 1
abbrev Bj:Ty:=.slice T9
abbrev A3z:Ty:=.ref 1
abbrev A3A:Ty:=.agg (.prod T9 (T9))
abbrev bD:Ty:=.agg (.prod T9 (T9))
abbrev H7:Ty:=.agg (.prod T3 (T3))
abbrev A3B:Ty:=.slice H7
abbrev A3C:Ty:=.ref 1
abbrev A3D:Ty:=.ref 1
abbrev A3E:Ty:=.ref 1
abbrev A3F:Ty:=.ref 1
abbrev A3G:Ty:=.ref 1
abbrev A3H:Ty:=.ref 1
abbrev A3I:Ty:=.ref 1
abbrev A3J:Ty:=.ref 1
abbrev A3K:Ty:=.ref 1
abbrev A3L:Ty:=.ref 1
abbrev A3M:Ty:=.ref 1
abbrev A3N:Ty:=.ref 1
abbrev A3O:Ty:=.ref 1
abbrev A3P:Ty:=.ref 1
abbrev A3Q:Ty:=.ref 1
abbrev A3R:Ty:=.int .u64
abbrev A3S:Ty:=.slice T5
abbrev A3T:Ty:=.ref 1
abbrev A3U:Ty:=.ref 1
abbrev A3V:Ty:=.ref 1
abbrev A3W:Ty:=.ref 2
abbrev A3X:Ty:=.agg (.prod T3 (T3))
abbrev A2c:Ty:=.agg (.prod T3 (T3))
abbrev A3Y:Ty:=.ref 1
abbrev A3Z:Ty:=.ref 1
abbrev A40:Ty:=.ref 1
abbrev A41:Ty:=.ref 1
abbrev A42:Ty:=.agg (.prod T3 (T3))
abbrev s6:Ty:=.agg (.prod T3 (T3))
abbrev A43:Ty:=.ref 1
abbrev A44:Ty:=.ref 1
abbrev A45:Ty:=.ref 1
abbrev A46:Ty:=.ref 1
abbrev A47:Ty:=.ref 1
abbrev A48:Ty:=.ref 1
abbrev A49:Ty:=.ref 1
abbrev A4a:Ty:=.agg (.prod T9 (T3))
abbrev s7:Ty:=.agg (.prod T9 (T3))
abbrev A4b:Ty:=.ref 1
abbrev A4c:Ty:=.ref 0
abbrev A4d:Ty:=.ref 1
abbrev A4e:Ty:=.ref 1
abbrev A4f:Ty:=.ref 1
abbrev Nu:Ty:=.int .u64
abbrev A4g:Ty:=.ref 1
abbrev A4h:Ty:=.ref 1
abbrev A4i:Ty:=.ref 1
abbrev A4j:Ty:=.ref 1
abbrev A4k:Ty:=.int .i64
abbrev A4l:Ty:=.ref 1
abbrev A4m:Ty:=.ref 1
abbrev A4n:Ty:=.ref 1
abbrev A4o:Ty:=.ref 1
abbrev A4p:Ty:=.ref 1
abbrev A4q:Ty:=.int .u32
abbrev A4r:Ty:=.ref 1
abbrev A4s:Ty:=.ref 1
abbrev A4t:Ty:=.ref 1
abbrev A4u:Ty:=.ref 1
abbrev A4v:Ty:=.ref 1
abbrev A4w:Ty:=.ref 1
abbrev A4x:Ty:=.ref 2
abbrev A4y:Ty:=.ref 1
abbrev A4z:Ty:=.ref 1
abbrev A4A:Ty:=.ref 1
abbrev A4B:Ty:=.ref 1
abbrev A4C:Ty:=.ref 1
abbrev A4D:Ty:=.ref 1
abbrev A4E:Ty:=.ref 1
abbrev A4F:Ty:=.ref 1
abbrev A4G:Ty:=.ref 1
abbrev A4H:Ty:=.ref 1
abbrev A4I:Ty:=.ref 1
abbrev A4J:Ty:=.ref 1
abbrev A4K:Ty:=.ref 1
abbrev A4L:Ty:=.ref 1
abbrev A4M:Ty:=.ref 1
abbrev A4N:Ty:=.int .u64
abbrev A4O:Ty:=.ref 1
abbrev A4P:Ty:=.ref 1
abbrev A4Q:Ty:=.ref 1
abbrev A4R:Ty:=.ref 0
abbrev A4S:Ty:=.ref 1
abbrev A4T:Ty:=.ref 1
abbrev A4U:Ty:=.ref 1
abbrev A4V:Ty:=.ref 1
abbrev A4W:Ty:=.ref 1
abbrev A4X:Ty:=.ref 1
abbrev A4Y:Ty:=.ref 1
abbrev A4Z:Ty:=.ref 1
abbrev A50:Ty:=.ref 1
abbrev A51:Ty:=.ref 1
abbrev A52:Ty:=.ref 0
abbrev A53:Ty:=.ref 1
abbrev A54:Ty:=.ref 1
abbrev A55:Ty:=.ref 1
abbrev A56:Ty:=.ref 1
abbrev A57:Ty:=.ref 1
abbrev A58:Ty:=.ref 1
abbrev A59:Ty:=.ref 1
abbrev A5a:Ty:=.ref 1
abbrev A5b:Ty:=.ref 1
abbrev A5c:Ty:=.ref 1
abbrev A5d:Ty:=.ref 1
abbrev A5e:Ty:=.ref 1
abbrev A5f:Ty:=.ref 1
abbrev A5g:Ty:=.ref 1
abbrev A5h:Ty:=.ref 1
abbrev A5i:Ty:=.ref 1
abbrev A5j:Ty:=.ref 1
abbrev A5k:Ty:=.ref 1
abbrev A5l:Ty:=.ref 0
abbrev oL:Ty:=.slice s7
abbrev Cb:Ty:=.slice ED
abbrev T87:Ty:=.agg (.prod T3 (Cb))
abbrev JK:Ty:=.agg (.prod T3 (Cb))
abbrev T92:Ty:=.slice Cb
abbrev A5m:Ty:=.slice Nu
abbrev A8:Ty:=.slice Nu
abbrev A5n:Ty:=.agg (.prod T9 (A8))
abbrev Wa:Ty:=.agg (.prod T9 (A8))
abbrev Wb:Ty:=.slice s6
abbrev A5o:Ty:=.agg (.prod T9 (.prod A8 (.prod Ez (Wb))))
abbrev oM:Ty:=.agg (.prod T9 (.prod A8 (.prod Ez (Wb))))
abbrev YP:Ty:=.slice bD
abbrev A5p:Ty:=.agg (.prod T9 (.prod Bj (YP)))
abbrev oO:Ty:=.agg (.prod T9 (.prod Bj (YP)))
abbrev Qz:Ty:=.slice A8
abbrev EI:Ty:=.slice oO
abbrev Ib:Ty:=.slice JK
abbrev T24:Ty:=.agg (Ib)
abbrev Ei:Ty:=.agg (Ib)
abbrev fB:Ty:=.slice oM
abbrev T28:Ty:=.agg (.prod fB (oL))
abbrev GS:Ty:=.agg (.prod fB (oL))
abbrev T37:Ty:=.slice Ei
abbrev T61:Ty:=.agg (.prod Ei (Ei))
abbrev T64:Ty:=.agg (.prod EI (.prod Ei (.prod Ei (xA))))
abbrev T65:Ty:=.agg (.prod EI (.prod Ei (.prod Ei (xA))))
abbrev T68:Ty:=.agg (.prod Ei (.prod Ez (Ei)))
abbrev T69:Ty:=.agg (.prod Ei (.prod Ez (Ei)))
abbrev T74:Ty:=.agg (.prod EI (.prod Ei (.prod Ei (.prod Ez (.prod Ez (.prod xA (.prod T3 (T3))))))))
abbrev T75:Ty:=.agg (.prod EI (.prod Ei (.prod Ei (.prod Ez (.prod Ez (.prod xA (.prod T3 (T3))))))))
abbrev T93:Ty:=.agg (.prod GS (.prod Ez (.prod Ez (T92))))
abbrev T94:Ty:=.agg (.prod GS (.prod Ez (.prod Ez (T92))))
abbrev yL:Ty:=.slice Wb
abbrev Ic:Ty:=.slice Wa
abbrev A5q:Ty:=.agg (.prod Ei (.prod Ez (Ez)))
abbrev A5r:Ty:=.agg (.prod Ei (.prod Ez (Ez)))
abbrev T57:Ty:=.slice T61
set_option maxRecDepth 100000
def AG:List (Nat×TI):=[(1,⟨T1,[],0,8⟩),
 (2,⟨T2,[],0,8⟩),
 (3,⟨T3,[],0,8⟩),
 (4,⟨T4,[],0,1⟩),
 (5,⟨T5,[],0,1⟩),
 (9,⟨T9,[],0,16⟩),
 (12,⟨T12,[],0,8⟩),
 (21,⟨T21,[],0,4⟩),
 (22,⟨EI,[],154,24⟩),
 (23,⟨Ib,[],88,24⟩),
 (24,⟨T24,[(0,1)],0,24⟩),
 (25,⟨Ei,[(0,1)],0,24⟩),
 (26,⟨fB,[],148,24⟩),
 (27,⟨oL,[],201,24⟩),
 (28,⟨T28,[(0,1),(1,1)],0,48⟩),
 (29,⟨GS,[(0,1),(1,1)],0,48⟩),
 (30,⟨T30,[],0,8⟩),
 (31,⟨T31,[],0,8⟩),
 (32,⟨T32,[],0,8⟩),
 (34,⟨T34,[],0,8⟩),
 (35,⟨T35,[],0,8⟩),
 (36,⟨T36,[],0,8⟩),
 (37,⟨T37,[],25,24⟩),
 (38,⟨T38,[],0,8⟩),
 (39,⟨T39,[],0,8⟩),
 (40,⟨Ez,[],3,24⟩),
 (41,⟨T41,[(0,1),(1,1)],40,48⟩),
 (42,⟨T42,[],0,8⟩),
 (43,⟨T43,[],0,8⟩),
 (44,⟨T44,[],0,8⟩),
 (45,⟨xA,[],40,24⟩),
 (46,⟨T46,[],0,8⟩),
 (47,⟨T47,[],0,8⟩),
 (48,⟨T48,[],0,8⟩),
 (49,⟨T49,[],0,8⟩),
 (50,⟨T50,[],0,8⟩),
 (51,⟨T51,[],0,8⟩),
 (52,⟨T52,[],0,8⟩),
 (53,⟨T53,[],0,8⟩),
 (54,⟨T54,[],0,8⟩),
 (55,⟨T55,[],0,8⟩),
 (56,⟨T56,[],0,8⟩),
 (57,⟨T57,[],61,24⟩),
 (58,⟨T58,[],0,8⟩),
 (59,⟨T59,[],0,8⟩),
 (60,⟨T60,[],0,8⟩),
 (61,⟨T61,[(0,1),(1,1)],25,48⟩),
 (62,⟨T62,[],0,8⟩),
 (63,⟨T63,[],0,8⟩),
 (64,⟨T64,[(0,1),(1,1),(2,1),(3,1)],0,96⟩),
 (65,⟨T65,[(0,1),(1,1),(2,1),(3,1)],0,96⟩),
 (66,⟨T66,[],0,8⟩),
 (67,⟨T67,[],0,8⟩),
 (68,⟨T68,[(0,1),(1,1),(2,1)],0,72⟩),
 (69,⟨T69,[(0,1),(1,1),(2,1)],0,72⟩),
 (70,⟨T70,[],0,8⟩),
 (71,⟨T71,[],0,8⟩),
 (72,⟨T72,[],0,8⟩),
 (73,⟨T73,[],0,8⟩),
 (74,⟨T74,[(0,1),(1,1),(2,1),(3,1),(4,1),(5,1),(6,1),(7,1)],0,160⟩),
 (75,⟨T75,[(0,1),(1,1),(2,1),(3,1),(4,1),(5,1),(6,1),(7,1)],0,160⟩),
 (76,⟨T76,[],0,8⟩),
 (77,⟨T77,[],0,8⟩),
 (78,⟨T78,[],0,8⟩),
 (79,⟨YO,[],0,8⟩),
 (81,⟨T81,[],0,8⟩),
 (82,⟨T82,[],0,8⟩),
 (83,⟨T83,[],0,8⟩),
 (84,⟨T84,[],0,8⟩),
 (85,⟨T85,[],0,8⟩),
 (86,⟨Cb,[],108,24⟩),
 (87,⟨T87,[(0,1),(1,1)],0,32⟩),
 (88,⟨JK,[(0,1),(1,1)],0,32⟩),
 (89,⟨T89,[],0,8⟩),
 (90,⟨T90,[],0,8⟩),
 (91,⟨T91,[],0,8⟩),
 (92,⟨T92,[],86,24⟩),
 (93,⟨T93,[(0,2),(2,1),(3,1),(4,1)],0,120⟩),
 (94,⟨T94,[(0,2),(2,1),(3,1),(4,1)],0,120⟩),
 (95,⟨T95,[],0,8⟩),
 (96,⟨T96,[],0,8⟩),
 (97,⟨T97,[],0,8⟩),
 (98,⟨T98,[],0,8⟩),
 (99,⟨T99,[],0,8⟩),
 (100,⟨A31,[],0,8⟩),
 (102,⟨A32,[],0,8⟩),
 (103,⟨A33,[],0,8⟩),
 (104,⟨A34,[],0,8⟩),
 (105,⟨A35,[],0,8⟩),
 (106,⟨A36,[],0,8⟩),
 (107,⟨A37,[(0,1),(1,1)],0,16⟩),
 (108,⟨ED,[(0,1),(1,1)],0,16⟩),
 (110,⟨A38,[],0,8⟩),
 (112,⟨A39,[],0,8⟩),
 (113,⟨A3a,[],0,8⟩),
 (114,⟨A3b,[],0,8⟩),
 (115,⟨A3c,[],0,8⟩),
 (116,⟨A3d,[],0,8⟩),
 (117,⟨A3e,[],0,8⟩),
 (118,⟨A3f,[(9,121)],0,8⟩),
 (119,⟨A3g,[],0,8⟩),
 (120,⟨A3h,[(0,1),(1,1)],0,32⟩),
 (121,⟨A2b,[(0,1),(1,1)],0,32⟩),
 (122,⟨A3i,[],121,24⟩),
 (123,⟨A3j,[],0,8⟩),
 (124,⟨A3k,[],0,8⟩),
 (125,⟨A3l,[],0,8⟩),
 (126,⟨A3m,[],45,24⟩),
 (127,⟨A3n,[],0,8⟩),
 (128,⟨A3o,[],4,24⟩),
 (129,⟨A3p,[],0,8⟩),
 (130,⟨A3q,[],0,8⟩),
 (131,⟨A3r,[],0,8⟩),
 (132,⟨A3s,[(3,4)],0,8⟩),
 (133,⟨A3t,[],0,8⟩),
 (134,⟨A3u,[],0,8⟩),
 (135,⟨yL,[],146,24⟩),
 (137,⟨A3v,[],0,8⟩),
 (138,⟨Ic,[],144,24⟩),
 (140,⟨A3w,[],0,8⟩),
 (141,⟨A5m,[],209,24⟩),
 (142,⟨A8,[],209,24⟩),
 (143,⟨A5n,[(0,1),(1,1)],0,40⟩),
 (144,⟨Wa,[(0,1),(1,1)],0,40⟩),
 (145,⟨A3x,[],0,8⟩),
 (146,⟨Wb,[],190,24⟩),
 (147,⟨A5o,[(0,1),(1,1),(2,1),(3,1)],0,88⟩),
 (148,⟨oM,[(0,1),(1,1),(2,1),(3,1)],0,88⟩),
 (150,⟨A3y,[],0,8⟩),
 (151,⟨Bj,[],9,24⟩),
 (152,⟨YP,[],157,24⟩),
 (153,⟨A5p,[(0,1),(1,1),(2,1)],0,64⟩),
 (154,⟨oO,[(0,1),(1,1),(2,1)],0,64⟩),
 (155,⟨A3z,[],0,8⟩),
 (156,⟨A3A,[(0,1),(1,1)],0,32⟩),
 (157,⟨bD,[(0,1),(1,1)],0,32⟩),
 (158,⟨H7,[(0,1),(1,1)],3,16⟩),
 (159,⟨A3B,[],158,24⟩),
 (160,⟨A3C,[],0,8⟩),
 (161,⟨A3D,[],0,8⟩),
 (162,⟨A3E,[],0,8⟩),
 (163,⟨A3F,[],0,8⟩),
 (165,⟨A3G,[],0,8⟩),
 (166,⟨A3H,[],0,8⟩),
 (167,⟨A3I,[],0,8⟩),
 (168,⟨A3J,[],0,8⟩),
 (169,⟨A3K,[],0,8⟩),
 (170,⟨A3L,[],0,8⟩),
 (171,⟨A3M,[],0,8⟩),
 (172,⟨A3N,[],0,8⟩),
 (173,⟨A3O,[],0,8⟩),
 (174,⟨A3P,[],0,8⟩),
 (175,⟨A3Q,[],0,8⟩),
 (176,⟨A3R,[],0,8⟩),
 (177,⟨A3S,[],5,24⟩),
 (178,⟨A3T,[],0,8⟩),
 (179,⟨A3U,[],0,8⟩),
 (180,⟨A3V,[],0,8⟩),
 (181,⟨A3W,[(183,4)],0,8⟩),
 (182,⟨A3X,[(0,1),(1,1)],0,16⟩),
 (183,⟨A2c,[(0,1),(1,1)],0,16⟩),
 (184,⟨A3Y,[],0,8⟩),
 (185,⟨A3Z,[],0,8⟩),
 (187,⟨A40,[],0,8⟩),
 (188,⟨A41,[],0,8⟩),
 (189,⟨A42,[(0,1),(1,1)],0,16⟩),
 (190,⟨s6,[(0,1),(1,1)],0,16⟩),
 (191,⟨Qz,[],142,24⟩),
 (192,⟨A43,[],0,8⟩),
 (193,⟨A44,[],0,8⟩),
 (194,⟨A45,[],0,8⟩),
 (195,⟨A46,[],0,8⟩),
 (196,⟨A47,[],0,8⟩),
 (198,⟨A48,[],0,8⟩),
 (199,⟨A49,[],0,8⟩),
 (200,⟨A4a,[(0,1),(1,1)],0,24⟩),
 (201,⟨s7,[(0,1),(1,1)],0,24⟩),
 (202,⟨A4b,[],0,8⟩),
 (203,⟨A4c,[],0,8⟩),
 (204,⟨A5q,[(0,1),(1,1),(2,1)],0,72⟩),
 (205,⟨A5r,[(0,1),(1,1),(2,1)],0,72⟩),
 (206,⟨A4d,[],0,8⟩),
 (207,⟨A4e,[],0,8⟩),
 (208,⟨A4f,[],0,8⟩),
 (209,⟨Nu,[],0,8⟩),
 (210,⟨A4g,[],0,8⟩),
 (211,⟨A4h,[],0,8⟩),
 (212,⟨A4i,[],0,8⟩),
 (213,⟨A4j,[],0,8⟩),
 (214,⟨A4k,[],0,8⟩),
 (216,⟨A4l,[],0,8⟩),
 (217,⟨A4m,[],0,8⟩),
 (218,⟨A4n,[],0,8⟩),
 (219,⟨A4o,[],0,8⟩),
 (220,⟨A4p,[],0,8⟩),
 (221,⟨A4q,[],0,4⟩),
 (222,⟨A4r,[],0,8⟩),
 (223,⟨A4s,[],0,8⟩),
 (224,⟨A4t,[],0,8⟩),
 (225,⟨A4u,[],0,8⟩),
 (226,⟨A4v,[],0,8⟩),
 (227,⟨A4w,[],0,8⟩),
 (228,⟨A4x,[(3,3)],0,8⟩),
 (229,⟨A4y,[],0,8⟩),
 (230,⟨A4z,[],0,8⟩),
 (231,⟨A4A,[],0,8⟩),
 (232,⟨A4B,[],0,8⟩),
 (233,⟨A4C,[],0,8⟩),
 (234,⟨A4D,[],0,8⟩),
 (235,⟨A4E,[],0,8⟩),
 (236,⟨A4F,[],0,8⟩),
 (237,⟨A4G,[],0,8⟩),
 (239,⟨A4H,[],0,8⟩),
 (240,⟨A4I,[],0,8⟩),
 (241,⟨A4J,[],0,8⟩),
 (242,⟨A4K,[],0,8⟩),
 (243,⟨A4L,[],0,8⟩),
 (244,⟨A4M,[],0,8⟩),
 (245,⟨A4N,[],0,8⟩),
 (246,⟨A4O,[],0,8⟩),
 (247,⟨A4P,[],0,8⟩),
 (248,⟨A4Q,[],0,8⟩),
 (249,⟨A4R,[],0,8⟩),
 (250,⟨A4S,[],0,8⟩),
 (251,⟨A4T,[],0,8⟩),
 (252,⟨A4U,[],0,8⟩),
 (253,⟨A4V,[],0,8⟩),
 (254,⟨A4W,[],0,8⟩),
 (255,⟨A4X,[],0,8⟩),
 (256,⟨A4Y,[],0,8⟩),
 (257,⟨A4Z,[],0,8⟩),
 (258,⟨A50,[],0,8⟩),
 (259,⟨A51,[],0,8⟩),
 (260,⟨A52,[],0,8⟩),
 (262,⟨A53,[],0,8⟩),
 (263,⟨A54,[],0,8⟩),
 (264,⟨A55,[],0,8⟩),
 (265,⟨A56,[],0,8⟩),
 (266,⟨A57,[],0,8⟩),
 (267,⟨A58,[],0,8⟩),
 (268,⟨A59,[],0,8⟩),
 (269,⟨A5a,[],0,8⟩),
 (270,⟨A5b,[],0,8⟩),
 (271,⟨A5c,[],0,8⟩),
 (272,⟨A5d,[],0,8⟩),
 (273,⟨A5e,[],0,8⟩),
 (274,⟨A5f,[],0,8⟩),
 (275,⟨A5g,[],0,8⟩),
 (276,⟨A5h,[],0,8⟩),
 (277,⟨A5i,[],0,8⟩),
 (283,⟨A5j,[],0,8⟩),
 (286,⟨A5k,[],0,8⟩),
 (287,⟨A5l,[],0,8⟩)]
theorem AJ (f) (pu:List Nat:=[]) (ne:List (Nat×TypeId):=[]):Dr Tryz.prog ⟨AG,f,pu,ne⟩:=xH (by kernel_rfl)
theorem drawsAny:Tryz.prog.follows .mixedOrders=true:=by kernel_rfl
theorem ty1:lk 1 AG=some ⟨T1,[],0,8⟩:=rfl
theorem ty2:lk 2 AG=some ⟨T2,[],0,8⟩:=rfl
theorem ty3:lk 3 AG=some ⟨T3,[],0,8⟩:=rfl
theorem ty4:lk 4 AG=some ⟨T4,[],0,1⟩:=rfl
theorem ty5:lk 5 AG=some ⟨T5,[],0,1⟩:=rfl
theorem ty9:lk 9 AG=some ⟨T9,[],0,16⟩:=rfl
theorem yM:lk 12 AG=some ⟨T12,[],0,8⟩:=rfl
theorem yN:lk 21 AG=some ⟨T21,[],0,4⟩:=rfl
theorem yO:lk 22 AG=some ⟨EI,[],154,24⟩:=rfl
theorem yP:lk 23 AG=some ⟨Ib,[],88,24⟩:=rfl
theorem yQ:lk 24 AG=some ⟨T24,[(0,1)],0,24⟩:=rfl
theorem yR:lk 25 AG=some ⟨Ei,[(0,1)],0,24⟩:=rfl
theorem yS:lk 26 AG=some ⟨fB,[],148,24⟩:=rfl
theorem yT:lk 27 AG=some ⟨oL,[],201,24⟩:=rfl
theorem yU:lk 28 AG=some ⟨T28,[(0,1),(1,1)],0,48⟩:=rfl
theorem yV:lk 29 AG=some ⟨GS,[(0,1),(1,1)],0,48⟩:=rfl
theorem yW:lk 30 AG=some ⟨T30,[],0,8⟩:=rfl
theorem yX:lk 31 AG=some ⟨T31,[],0,8⟩:=rfl
theorem yY:lk 32 AG=some ⟨T32,[],0,8⟩:=rfl
theorem yZ:lk 34 AG=some ⟨T34,[],0,8⟩:=rfl
theorem y3:lk 35 AG=some ⟨T35,[],0,8⟩:=rfl
theorem y4:lk 36 AG=some ⟨T36,[],0,8⟩:=rfl
theorem y5:lk 37 AG=some ⟨T37,[],25,24⟩:=rfl
theorem y6:lk 38 AG=some ⟨T38,[],0,8⟩:=rfl
theorem y7:lk 39 AG=some ⟨T39,[],0,8⟩:=rfl
theorem y8:lk 40 AG=some ⟨Ez,[],3,24⟩:=rfl
theorem y9:lk 41 AG=some ⟨T41,[(0,1),(1,1)],40,48⟩:=rfl
theorem zA:lk 42 AG=some ⟨T42,[],0,8⟩:=rfl
theorem zB:lk 43 AG=some ⟨T43,[],0,8⟩:=rfl
theorem zC:lk 44 AG=some ⟨T44,[],0,8⟩:=rfl
theorem zD:lk 45 AG=some ⟨xA,[],40,24⟩:=rfl
theorem zE:lk 46 AG=some ⟨T46,[],0,8⟩:=rfl
theorem zF:lk 47 AG=some ⟨T47,[],0,8⟩:=rfl
theorem zG:lk 48 AG=some ⟨T48,[],0,8⟩:=rfl
theorem zH:lk 49 AG=some ⟨T49,[],0,8⟩:=rfl
theorem zI:lk 50 AG=some ⟨T50,[],0,8⟩:=rfl
theorem zJ:lk 51 AG=some ⟨T51,[],0,8⟩:=rfl
theorem zK:lk 52 AG=some ⟨T52,[],0,8⟩:=rfl
theorem zL:lk 53 AG=some ⟨T53,[],0,8⟩:=rfl
theorem zM:lk 54 AG=some ⟨T54,[],0,8⟩:=rfl
theorem zN:lk 55 AG=some ⟨T55,[],0,8⟩:=rfl
theorem zO:lk 56 AG=some ⟨T56,[],0,8⟩:=rfl
theorem zP:lk 57 AG=some ⟨T57,[],61,24⟩:=rfl
theorem zQ:lk 58 AG=some ⟨T58,[],0,8⟩:=rfl
theorem zR:lk 59 AG=some ⟨T59,[],0,8⟩:=rfl
theorem zS:lk 60 AG=some ⟨T60,[],0,8⟩:=rfl
theorem zT:lk 61 AG=some ⟨T61,[(0,1),(1,1)],25,48⟩:=rfl
theorem zU:lk 62 AG=some ⟨T62,[],0,8⟩:=rfl
theorem zV:lk 63 AG=some ⟨T63,[],0,8⟩:=rfl
theorem zW:lk 64 AG=some ⟨T64,[(0,1),(1,1),(2,1),(3,1)],0,96⟩:=rfl
theorem zX:lk 65 AG=some ⟨T65,[(0,1),(1,1),(2,1),(3,1)],0,96⟩:=rfl
theorem zY:lk 66 AG=some ⟨T66,[],0,8⟩:=rfl
theorem zZ:lk 67 AG=some ⟨T67,[],0,8⟩:=rfl
theorem z4:lk 68 AG=some ⟨T68,[(0,1),(1,1),(2,1)],0,72⟩:=rfl
theorem z5:lk 69 AG=some ⟨T69,[(0,1),(1,1),(2,1)],0,72⟩:=rfl
theorem z6:lk 70 AG=some ⟨T70,[],0,8⟩:=rfl
theorem z7:lk 71 AG=some ⟨T71,[],0,8⟩:=rfl
theorem z8:lk 72 AG=some ⟨T72,[],0,8⟩:=rfl
theorem z9:lk 73 AG=some ⟨T73,[],0,8⟩:=rfl
theorem A00:lk 74 AG=some ⟨T74,[(0,1),(1,1),(2,1),(3,1),(4,1),(5,1),(6,1),(7,1)],0,160⟩:=rfl
theorem A01:lk 75 AG=some ⟨T75,[(0,1),(1,1),(2,1),(3,1),(4,1),(5,1),(6,1),(7,1)],0,160⟩:=rfl
theorem A02:lk 76 AG=some ⟨T76,[],0,8⟩:=rfl
theorem A03:lk 77 AG=some ⟨T77,[],0,8⟩:=rfl
theorem A04:lk 78 AG=some ⟨T78,[],0,8⟩:=rfl
theorem A05:lk 79 AG=some ⟨YO,[],0,8⟩:=rfl
theorem A06:lk 81 AG=some ⟨T81,[],0,8⟩:=rfl
theorem A07:lk 82 AG=some ⟨T82,[],0,8⟩:=rfl
theorem A08:lk 83 AG=some ⟨T83,[],0,8⟩:=rfl
theorem A09:lk 84 AG=some ⟨T84,[],0,8⟩:=rfl
theorem A0a:lk 85 AG=some ⟨T85,[],0,8⟩:=rfl
theorem A0b:lk 86 AG=some ⟨Cb,[],108,24⟩:=rfl
theorem A0c:lk 87 AG=some ⟨T87,[(0,1),(1,1)],0,32⟩:=rfl
theorem A0d:lk 88 AG=some ⟨JK,[(0,1),(1,1)],0,32⟩:=rfl
theorem A0e:lk 89 AG=some ⟨T89,[],0,8⟩:=rfl
theorem A0f:lk 90 AG=some ⟨T90,[],0,8⟩:=rfl
theorem A0g:lk 91 AG=some ⟨T91,[],0,8⟩:=rfl
theorem A0h:lk 92 AG=some ⟨T92,[],86,24⟩:=rfl
theorem A0i:lk 93 AG=some ⟨T93,[(0,2),(2,1),(3,1),(4,1)],0,120⟩:=rfl
theorem A0j:lk 94 AG=some ⟨T94,[(0,2),(2,1),(3,1),(4,1)],0,120⟩:=rfl
theorem A0k:lk 95 AG=some ⟨T95,[],0,8⟩:=rfl
theorem A0l:lk 96 AG=some ⟨T96,[],0,8⟩:=rfl
theorem A0m:lk 97 AG=some ⟨T97,[],0,8⟩:=rfl
theorem A0n:lk 98 AG=some ⟨T98,[],0,8⟩:=rfl
theorem A0o:lk 99 AG=some ⟨T99,[],0,8⟩:=rfl
theorem fC:lk 100 AG=some ⟨A31,[],0,8⟩:=rfl
theorem fD:lk 102 AG=some ⟨A32,[],0,8⟩:=rfl
theorem fE:lk 103 AG=some ⟨A33,[],0,8⟩:=rfl
theorem fF:lk 104 AG=some ⟨A34,[],0,8⟩:=rfl
theorem fG:lk 105 AG=some ⟨A35,[],0,8⟩:=rfl
theorem fH:lk 106 AG=some ⟨A36,[],0,8⟩:=rfl
theorem fI:lk 107 AG=some ⟨A37,[(0,1),(1,1)],0,16⟩:=rfl
theorem fJ:lk 108 AG=some ⟨ED,[(0,1),(1,1)],0,16⟩:=rfl
theorem fK:lk 110 AG=some ⟨A38,[],0,8⟩:=rfl
theorem fL:lk 112 AG=some ⟨A39,[],0,8⟩:=rfl
theorem fM:lk 113 AG=some ⟨A3a,[],0,8⟩:=rfl
theorem fO:lk 114 AG=some ⟨A3b,[],0,8⟩:=rfl
theorem fP:lk 115 AG=some ⟨A3c,[],0,8⟩:=rfl
theorem fQ:lk 116 AG=some ⟨A3d,[],0,8⟩:=rfl
theorem fR:lk 117 AG=some ⟨A3e,[],0,8⟩:=rfl
theorem fS:lk 118 AG=some ⟨A3f,[(9,121)],0,8⟩:=rfl
theorem fT:lk 119 AG=some ⟨A3g,[],0,8⟩:=rfl
theorem fU:lk 120 AG=some ⟨A3h,[(0,1),(1,1)],0,32⟩:=rfl
theorem fV:lk 121 AG=some ⟨A2b,[(0,1),(1,1)],0,32⟩:=rfl
theorem fW:lk 122 AG=some ⟨A3i,[],121,24⟩:=rfl
theorem fX:lk 123 AG=some ⟨A3j,[],0,8⟩:=rfl
theorem fY:lk 124 AG=some ⟨A3k,[],0,8⟩:=rfl
theorem fZ:lk 125 AG=some ⟨A3l,[],0,8⟩:=rfl
theorem f6:lk 126 AG=some ⟨A3m,[],45,24⟩:=rfl
theorem f7:lk 127 AG=some ⟨A3n,[],0,8⟩:=rfl
theorem f8:lk 128 AG=some ⟨A3o,[],4,24⟩:=rfl
theorem f9:lk 129 AG=some ⟨A3p,[],0,8⟩:=rfl
theorem gB:lk 130 AG=some ⟨A3q,[],0,8⟩:=rfl
theorem gC:lk 131 AG=some ⟨A3r,[],0,8⟩:=rfl
theorem gD:lk 132 AG=some ⟨A3s,[(3,4)],0,8⟩:=rfl
theorem gE:lk 133 AG=some ⟨A3t,[],0,8⟩:=rfl
theorem gF:lk 134 AG=some ⟨A3u,[],0,8⟩:=rfl
theorem gG:lk 135 AG=some ⟨yL,[],146,24⟩:=rfl
theorem gH:lk 137 AG=some ⟨A3v,[],0,8⟩:=rfl
theorem gI:lk 138 AG=some ⟨Ic,[],144,24⟩:=rfl
theorem gJ:lk 140 AG=some ⟨A3w,[],0,8⟩:=rfl
theorem gK:lk 141 AG=some ⟨A5m,[],209,24⟩:=rfl
theorem gL:lk 142 AG=some ⟨A8,[],209,24⟩:=rfl
theorem gM:lk 143 AG=some ⟨A5n,[(0,1),(1,1)],0,40⟩:=rfl
theorem gP:lk 144 AG=some ⟨Wa,[(0,1),(1,1)],0,40⟩:=rfl
theorem gQ:lk 145 AG=some ⟨A3x,[],0,8⟩:=rfl
theorem gR:lk 146 AG=some ⟨Wb,[],190,24⟩:=rfl
theorem gS:lk 147 AG=some ⟨A5o,[(0,1),(1,1),(2,1),(3,1)],0,88⟩:=rfl
theorem gT:lk 148 AG=some ⟨oM,[(0,1),(1,1),(2,1),(3,1)],0,88⟩:=rfl
theorem gU:lk 150 AG=some ⟨A3y,[],0,8⟩:=rfl
theorem gV:lk 151 AG=some ⟨Bj,[],9,24⟩:=rfl
theorem gW:lk 152 AG=some ⟨YP,[],157,24⟩:=rfl
theorem gX:lk 153 AG=some ⟨A5p,[(0,1),(1,1),(2,1)],0,64⟩:=rfl
theorem gY:lk 154 AG=some ⟨oO,[(0,1),(1,1),(2,1)],0,64⟩:=rfl
theorem gZ:lk 155 AG=some ⟨A3z,[],0,8⟩:=rfl
theorem g9:lk 156 AG=some ⟨A3A,[(0,1),(1,1)],0,32⟩:=rfl
theorem hC:lk 157 AG=some ⟨bD,[(0,1),(1,1)],0,32⟩:=rfl
theorem hD:lk 158 AG=some ⟨H7,[(0,1),(1,1)],3,16⟩:=rfl
theorem hH:lk 159 AG=some ⟨A3B,[],158,24⟩:=rfl
theorem hY:lk 160 AG=some ⟨A3C,[],0,8⟩:=rfl
theorem hZ:lk 161 AG=some ⟨A3D,[],0,8⟩:=rfl
theorem iA:lk 162 AG=some ⟨A3E,[],0,8⟩:=rfl
theorem iB:lk 163 AG=some ⟨A3F,[],0,8⟩:=rfl
theorem iC:lk 165 AG=some ⟨A3G,[],0,8⟩:=rfl
theorem iD:lk 166 AG=some ⟨A3H,[],0,8⟩:=rfl
theorem iE:lk 167 AG=some ⟨A3I,[],0,8⟩:=rfl
theorem iG:lk 168 AG=some ⟨A3J,[],0,8⟩:=rfl
theorem iH:lk 169 AG=some ⟨A3K,[],0,8⟩:=rfl
theorem iI:lk 170 AG=some ⟨A3L,[],0,8⟩:=rfl
theorem iJ:lk 171 AG=some ⟨A3M,[],0,8⟩:=rfl
theorem iK:lk 172 AG=some ⟨A3N,[],0,8⟩:=rfl
theorem iL:lk 173 AG=some ⟨A3O,[],0,8⟩:=rfl
theorem iM:lk 174 AG=some ⟨A3P,[],0,8⟩:=rfl
theorem iO:lk 175 AG=some ⟨A3Q,[],0,8⟩:=rfl
theorem iP:lk 176 AG=some ⟨A3R,[],0,8⟩:=rfl
theorem iQ:lk 177 AG=some ⟨A3S,[],5,24⟩:=rfl
theorem iR:lk 178 AG=some ⟨A3T,[],0,8⟩:=rfl
theorem iT:lk 179 AG=some ⟨A3U,[],0,8⟩:=rfl
theorem iU:lk 180 AG=some ⟨A3V,[],0,8⟩:=rfl
theorem iV:lk 181 AG=some ⟨A3W,[(183,4)],0,8⟩:=rfl
theorem iW:lk 182 AG=some ⟨A3X,[(0,1),(1,1)],0,16⟩:=rfl
theorem iX:lk 183 AG=some ⟨A2c,[(0,1),(1,1)],0,16⟩:=rfl
theorem iY:lk 184 AG=some ⟨A3Y,[],0,8⟩:=rfl
theorem iZ:lk 185 AG=some ⟨A3Z,[],0,8⟩:=rfl
theorem i3:lk 187 AG=some ⟨A40,[],0,8⟩:=rfl
theorem i4:lk 188 AG=some ⟨A41,[],0,8⟩:=rfl
theorem i5:lk 189 AG=some ⟨A42,[(0,1),(1,1)],0,16⟩:=rfl
theorem i6:lk 190 AG=some ⟨s6,[(0,1),(1,1)],0,16⟩:=rfl
theorem i7:lk 191 AG=some ⟨Qz,[],142,24⟩:=rfl
theorem i8:lk 192 AG=some ⟨A43,[],0,8⟩:=rfl
theorem i9:lk 193 AG=some ⟨A44,[],0,8⟩:=rfl
theorem jA:lk 194 AG=some ⟨A45,[],0,8⟩:=rfl
theorem jB:lk 195 AG=some ⟨A46,[],0,8⟩:=rfl
theorem jC:lk 196 AG=some ⟨A47,[],0,8⟩:=rfl
theorem jD:lk 198 AG=some ⟨A48,[],0,8⟩:=rfl
theorem jE:lk 199 AG=some ⟨A49,[],0,8⟩:=rfl
theorem jF:lk 200 AG=some ⟨A4a,[(0,1),(1,1)],0,24⟩:=rfl
theorem jG:lk 201 AG=some ⟨s7,[(0,1),(1,1)],0,24⟩:=rfl
theorem jH:lk 202 AG=some ⟨A4b,[],0,8⟩:=rfl
theorem jI:lk 203 AG=some ⟨A4c,[],0,8⟩:=rfl
theorem jJ:lk 204 AG=some ⟨A5q,[(0,1),(1,1),(2,1)],0,72⟩:=rfl
theorem jK:lk 205 AG=some ⟨A5r,[(0,1),(1,1),(2,1)],0,72⟩:=rfl
theorem jL:lk 206 AG=some ⟨A4d,[],0,8⟩:=rfl
theorem jM:lk 207 AG=some ⟨A4e,[],0,8⟩:=rfl
theorem jN:lk 208 AG=some ⟨A4f,[],0,8⟩:=rfl
theorem jO:lk 209 AG=some ⟨Nu,[],0,8⟩:=rfl
theorem jP:lk 210 AG=some ⟨A4g,[],0,8⟩:=rfl
theorem jQ:lk 211 AG=some ⟨A4h,[],0,8⟩:=rfl
theorem jR:lk 212 AG=some ⟨A4i,[],0,8⟩:=rfl
theorem jS:lk 213 AG=some ⟨A4j,[],0,8⟩:=rfl
theorem jT:lk 214 AG=some ⟨A4k,[],0,8⟩:=rfl
theorem jU:lk 216 AG=some ⟨A4l,[],0,8⟩:=rfl
theorem jV:lk 217 AG=some ⟨A4m,[],0,8⟩:=rfl
theorem jW:lk 218 AG=some ⟨A4n,[],0,8⟩:=rfl
theorem jX:lk 219 AG=some ⟨A4o,[],0,8⟩:=rfl
theorem jY:lk 220 AG=some ⟨A4p,[],0,8⟩:=rfl
theorem jZ:lk 221 AG=some ⟨A4q,[],0,4⟩:=rfl
theorem j4:lk 222 AG=some ⟨A4r,[],0,8⟩:=rfl
theorem j5:lk 223 AG=some ⟨A4s,[],0,8⟩:=rfl
theorem j6:lk 224 AG=some ⟨A4t,[],0,8⟩:=rfl
theorem j7:lk 225 AG=some ⟨A4u,[],0,8⟩:=rfl
theorem j8:lk 226 AG=some ⟨A4v,[],0,8⟩:=rfl
theorem j9:lk 227 AG=some ⟨A4w,[],0,8⟩:=rfl
theorem kA:lk 228 AG=some ⟨A4x,[(3,3)],0,8⟩:=rfl
theorem kB:lk 229 AG=some ⟨A4y,[],0,8⟩:=rfl
theorem kC:lk 230 AG=some ⟨A4z,[],0,8⟩:=rfl
theorem kD:lk 231 AG=some ⟨A4A,[],0,8⟩:=rfl
theorem kE:lk 232 AG=some ⟨A4B,[],0,8⟩:=rfl
theorem kF:lk 233 AG=some ⟨A4C,[],0,8⟩:=rfl
theorem kG:lk 234 AG=some ⟨A4D,[],0,8⟩:=rfl
theorem kH:lk 235 AG=some ⟨A4E,[],0,8⟩:=rfl
theorem kI:lk 236 AG=some ⟨A4F,[],0,8⟩:=rfl
theorem kJ:lk 237 AG=some ⟨A4G,[],0,8⟩:=rfl
theorem kK:lk 239 AG=some ⟨A4H,[],0,8⟩:=rfl
theorem kL:lk 240 AG=some ⟨A4I,[],0,8⟩:=rfl
theorem kM:lk 241 AG=some ⟨A4J,[],0,8⟩:=rfl
theorem kN:lk 242 AG=some ⟨A4K,[],0,8⟩:=rfl
theorem kO:lk 243 AG=some ⟨A4L,[],0,8⟩:=rfl
theorem kP:lk 244 AG=some ⟨A4M,[],0,8⟩:=rfl
theorem kQ:lk 245 AG=some ⟨A4N,[],0,8⟩:=rfl
theorem kR:lk 246 AG=some ⟨A4O,[],0,8⟩:=rfl
theorem kS:lk 247 AG=some ⟨A4P,[],0,8⟩:=rfl
theorem kT:lk 248 AG=some ⟨A4Q,[],0,8⟩:=rfl
theorem kU:lk 249 AG=some ⟨A4R,[],0,8⟩:=rfl
theorem kV:lk 250 AG=some ⟨A4S,[],0,8⟩:=rfl
theorem kW:lk 251 AG=some ⟨A4T,[],0,8⟩:=rfl
theorem kX:lk 252 AG=some ⟨A4U,[],0,8⟩:=rfl
theorem kY:lk 253 AG=some ⟨A4V,[],0,8⟩:=rfl
theorem kZ:lk 254 AG=some ⟨A4W,[],0,8⟩:=rfl
theorem k4:lk 255 AG=some ⟨A4X,[],0,8⟩:=rfl
theorem k5:lk 256 AG=some ⟨A4Y,[],0,8⟩:=rfl
theorem k6:lk 257 AG=some ⟨A4Z,[],0,8⟩:=rfl
theorem k7:lk 258 AG=some ⟨A50,[],0,8⟩:=rfl
theorem k8:lk 259 AG=some ⟨A51,[],0,8⟩:=rfl
theorem k9:lk 260 AG=some ⟨A52,[],0,8⟩:=rfl
theorem lA:lk 262 AG=some ⟨A53,[],0,8⟩:=rfl
theorem lB:lk 263 AG=some ⟨A54,[],0,8⟩:=rfl
theorem lC:lk 264 AG=some ⟨A55,[],0,8⟩:=rfl
theorem lD:lk 265 AG=some ⟨A56,[],0,8⟩:=rfl
theorem lF:lk 266 AG=some ⟨A57,[],0,8⟩:=rfl
theorem lG:lk 267 AG=some ⟨A58,[],0,8⟩:=rfl
theorem lH:lk 268 AG=some ⟨A59,[],0,8⟩:=rfl
theorem lI:lk 269 AG=some ⟨A5a,[],0,8⟩:=rfl
theorem lJ:lk 270 AG=some ⟨A5b,[],0,8⟩:=rfl
theorem lK:lk 271 AG=some ⟨A5c,[],0,8⟩:=rfl
theorem lL:lk 272 AG=some ⟨A5d,[],0,8⟩:=rfl
theorem lM:lk 273 AG=some ⟨A5e,[],0,8⟩:=rfl
theorem lO:lk 274 AG=some ⟨A5f,[],0,8⟩:=rfl
theorem lQ:lk 275 AG=some ⟨A5g,[],0,8⟩:=rfl
theorem lR:lk 276 AG=some ⟨A5h,[],0,8⟩:=rfl
theorem lS:lk 277 AG=some ⟨A5i,[],0,8⟩:=rfl
theorem lU:lk 283 AG=some ⟨A5j,[],0,8⟩:=rfl
theorem lV:lk 286 AG=some ⟨A5k,[],0,8⟩:=rfl
theorem lW:lk 287 AG=some ⟨A5l,[],0,8⟩:=rfl
end
/- A slice held against nil: the answer is open, but where there is an element it is no. -/
section
open Go Go.RowKit
section
variable {c:Cx} {R:Exit→Act→World→Prop} {k:List EY} {σ σ':St}
end
end
/- From a law function's contract to the given statement: the arguments, read as data, are the contract's pure values; the end of the call in the statement's words. -/
section
open Go Go.RowKit Go.ChangeShapes Go.WideShapes
set_option maxRecDepth 100000
def lX (r:Ty→TypeId→Bool) (P:Program):Ty→Nat→List Field→Bool
 | .prod a b,o,fs=>match fs with
  | f :: fs=>f.offset==o&&P.cellsOf f.type==a.size&&r a f.type&&lX r P b (o+a.size) fs
  | []=>false
 | s,o,[f]=>f.offset==o&&P.cellsOf f.type==s.size&&r s f.type
 | _,_,_=>false
def oP (P:Program) (m:Nat) (e:TypeId):List Field:=(List.range m).map fun i=>{ (default:Field) with offset:=i*P.cellsOf e,type:=e }
def rd (P:Program):Nat→Ty→TypeId→Bool
 | 0,_,_=>false
 | _+1,.int k,t=>isI k (P.underlying t)
 | _+1,.bool,t=>match P.underlying t with|some .bool=>true|_=>false
 | _+1,.str,t=>match P.underlying t with|some .string=>true|_=>false
 | n+1,.slice e,t=>match P.underlying t with|some (.slice et)=>decide (0<P.bytesOf et)&&P.cellsOf et==e.size&&rd P n e et|_=>false
 | n+1,.agg s,t=>match P.underlying t with|some (.struct fs)=>P.cellsOf t==s.size&&lX (rd P n) P s 0 fs.toList|some (.array m e)=>P.cellsOf t==s.size&&lX (rd P n) P s 0 (oP P m e)|_=>false
 | _+1,_,_=>false
theorem lY {P:Program} {n:Nat} {t:TypeId} (h:rd P (n+1) .bool t=true):P.underlying t=some .bool:=by
 simp only[rd]at h
 split at h
 ·assumption
 ·cases h
theorem s8 {P:Program} {n:Nat} {t:TypeId} (h:rd P (n+1) .str t=true):P.underlying t=some .string:=by
 simp only[rd]at h
 split at h
 ·assumption
 ·cases h
theorem YQ {P:Program} {n:Nat} {e:Ty} {t:TypeId} (h:rd P (n+1) (.slice e) t=true):∃et,P.underlying t=some (.slice et)∧0<P.bytesOf et∧P.cellsOf et=e.size∧rd P n e et=true:=by
 simp only[rd]at h
 split at h
 ·rename_i et hu
  simp only[Bool.and_eq_true,decide_eq_true_eq,beq_iff_eq]at h
  exact⟨et,hu,h.1.1,h.1.2,h.2⟩
 ·cases h
theorem s9 {P:Program} {n:Nat} {s:Ty} {t:TypeId} (h:rd P (n+1) (.agg s) t=true):(∃fs,P.underlying t=some (.struct fs)∧P.cellsOf t=s.size∧lX (rd P n) P s 0 fs.toList=true)∨∃m e,P.underlying t=some (.array m e)∧P.cellsOf t=s.size∧lX (rd P n) P s 0 (oP P m e)=true:=by
 simp only[rd]at h
 split at h
 ·rename_i fs hu
  simp only[Bool.and_eq_true,beq_iff_eq]at h
  exact .inl ⟨fs,hu,h.1,h.2⟩
 ·rename_i m e hu
  simp only[Bool.and_eq_true,beq_iff_eq]at h
  exact .inr ⟨m,e,hu,h.1,h.2⟩
 ·cases h
theorem oQ {w:World} {base:Nat} {a:Addr} {n:Nat} {cs:List Value} (h:w.cells? base a n=some cs):cs.length=n∧∀(j:Nat) (v:Value),cs[j]?=some v→w.cell? (a.add j)=some v:=by
 unfold World.cells? at h
 split at h
 ·have h1:=mapM_some_length h
  simp only[List.length_range]at h1
  refine⟨h1,fun j v hj=>?_⟩
  have hlt:j<n:=by
   obtain⟨hlt,_⟩:=List.getElem?_eq_some_iff.1 hj
   omega
  rw[mapM_some_get h j j (by simp[hlt]),hj]
 ·cases h
section
variable {H:Type} {enc:TypeId×Value→H} {P:Program} {w:World} {spare:Nat→Bool} {held:Bool}
theorem YR {e:TypeId}:∀ {l:List (DataW H)} {d:DataW H},d∈l→∀n∈d.weights P e,n∈DataW.weightsAll P e l
 | a :: l,d,hd,n,hn=>by
  simp only[DataW.weightsAll,List.mem_append]
  rcases List.mem_cons.1 hd with rfl|hd
  ·exact .inl hn
  ·exact .inr (YR hd n hn)
 | [],_,hd,_,_=>by cases hd
theorem Ur {us:List TypeId} {gs:List (DataW H)}:∀ {ts:List TypeId} {ds:List (DataW H)},∀n∈DataW.weightsEach P ts ds,n∈DataW.weightsEach P (ts++us) (ds++gs)
 | t :: ts,d :: ds,n,hn=>by
  simp only[DataW.weightsEach,List.cons_append,List.mem_append]at hn ⊢
  rcases hn with hn|hn
  ·exact .inl hn
  ·exact .inr (Ur n hn)
 | [],_,n,hn=>by simp[DataW.weightsEach]at hn
 | _ :: _,[],n,hn=>by simp[DataW.weightsEach]at hn
theorem Us {e:TypeId}:∀ {m:Nat} {k:Nat} {ds:List (DataW H)},∀n∈DataW.weightsEach P (((List.range' k m).map fun i=>({ (default:Field) with offset:=i*P.cellsOf e,type:=e }:Field)).map (·.type)) ds,n∈DataW.weightsAll P e ds
 | 0,_,ds,n,hn=>by simp[DataW.weightsEach]at hn
 | m+1,k,[],n,hn=>by
  rw[List.range'_succ]at hn
  simp[DataW.weightsEach]at hn
 | m+1,k,d :: ds,n,hn=>by
  rw[List.range'_succ]at hn
  simp only[List.map_cons,DataW.weightsEach,List.mem_append]at hn
  simp only[DataW.weightsAll,List.mem_append]
  rcases hn with hn|hn
  ·exact .inl hn
  ·exact .inr (Us n hn)
theorem QR {n:Nat} {r:Ty→TypeId→Bool}
  (hr:∀ty t,r ty t=true→∀(cs:List Value) (x:DataW H×List MemPlace),DataW.trod enc P w 0 spare held n t cs=some x→(∀b∈x.1.weights P t,b≤reachBytes)→∃d:ty.den,Be w (fun _=>False) ty cs d) (cs:List Value) :
  ∀(s:Ty) (o:Nat) (fs:List Field),lX r P s o fs=true→∀xs:List (DataW H×List MemPlace),xs.length=fs.length →
   (∀(i:Nat) (f:Field),fs[i]?=some f→DataW.trod enc P w 0 spare held n f.type ((cs.drop f.offset).take (P.cellsOf f.type))=xs[i]?) →
   (∀b∈DataW.weightsEach P (fs.map (·.type)) (xs.map (·.1)),b≤reachBytes)→∃d:s.den,Be w (fun _=>False) s ((cs.drop o).take s.size) d:=by
 have one:∀(s:Ty) (o:Nat) (f:Field),(f.offset==o&&P.cellsOf f.type==s.size&&r s f.type)=true→∀x:DataW H×List MemPlace,
   DataW.trod enc P w 0 spare held n f.type ((cs.drop f.offset).take (P.cellsOf f.type))=some x →
   (∀b∈x.1.weights P f.type,b≤reachBytes)→∃d:s.den,Be w (fun _=>False) s ((cs.drop o).take s.size) d:=by
  intro s o f h x hx hb
  simp only[Bool.and_eq_true,beq_iff_eq]at h
  obtain⟨⟨rfl,h2⟩,h3⟩:=h
  rw[←h2]
  exact hr s f.type h3 _ x hx hb
 have lone:∀(s:Ty) (o:Nat) (f:Field),(f.offset==o&&P.cellsOf f.type==s.size&&r s f.type)=true→∀xs:List (DataW H×List MemPlace),xs.length=[f].length →
   (∀(i:Nat) (g:Field),[f][i]?=some g→DataW.trod enc P w 0 spare held n g.type ((cs.drop g.offset).take (P.cellsOf g.type))=xs[i]?) →
   (∀b∈DataW.weightsEach P ([f].map (·.type)) (xs.map (·.1)),b≤reachBytes)→∃d:s.den,Be w (fun _=>False) s ((cs.drop o).take s.size) d:=by
  intro s o f h xs hl hx hb
  obtain⟨x,rfl⟩:∃x,xs=[x]:=List.length_eq_one_iff.1 (by simpa using hl)
  exact one s o f h x (hx 0 f rfl) (fun b hb'=>hb b (by simp[DataW.weightsEach,hb']))
 intro s
 induction s with
 | prod a b iha ihb =>
  intro o fs h xs hl hx hb
  cases fs with
  | nil=>simp[lX]at h
  | cons f fs =>
   simp only[lX,Bool.and_eq_true]at h
   obtain⟨⟨⟨h1,h2⟩,h3⟩,h4⟩:=h
   obtain⟨x,ys,rfl⟩:∃x ys,xs=x :: ys:=List.exists_cons_of_ne_nil (by intro h;subst h;simp at hl)
   obtain⟨d1,r1⟩:=one a o f (by simp only[h1,h2,h3,Bool.and_self]) x (hx 0 f rfl) (fun b hb'=>hb b (by
     simp only[List.map_cons,DataW.weightsEach,List.mem_append]
     exact .inl hb'))
   obtain⟨d2,r2⟩:=ihb (o+a.size) fs h4 ys (by simpa using hl) (fun i g hg=>hx (i+1) g hg) (fun b hb'=>hb b (by
     simp only[List.map_cons,DataW.weightsEach,List.mem_append]
     exact .inr hb'))
   refine⟨(d1,d2),(cs.drop o).take a.size,(cs.drop (o+a.size)).take b.size,?_,r1,r2⟩
   show (cs.drop o).take (a.size+b.size)=_
   rw[List.take_add,List.drop_drop]
 | int k=>intro o fs h;match fs,h with|[f],h=>exact lone _ o f (by simpa only[lX] using h)
 | bool=>intro o fs h;match fs,h with|[f],h=>exact lone _ o f (by simpa only[lX] using h)
 | str=>intro o fs h;match fs,h with|[f],h=>exact lone _ o f (by simpa only[lX] using h)
 | slice e _=>intro o fs h;match fs,h with|[f],h=>exact lone _ o f (by simpa only[lX] using h)
 | agg t _=>intro o fs h;match fs,h with|[f],h=>exact lone _ o f (by simpa only[lX] using h)
 | ref k=>intro o fs h;match fs,h with|[f],h=>exact lone _ o f (by simpa only[lX] using h)
theorem tA:∀(k:Nat) (ty:Ty) (t:TypeId),rd P k ty t=true→∀(n:Nat) (cs:List Value) (x:DataW H×List MemPlace),
  DataW.trod enc P w 0 spare held n t cs=some x→(∀b∈x.1.weights P t,b≤reachBytes)→∃d:ty.den,Be w (fun _=>False) ty cs d:=by
 intro k
 induction k with
 | zero=>intro ty t h;simp[rd]at h
 | succ k ih =>
  intro ty t h n cs x hx hb
  cases ty with
  | int q =>
   have hu:=WE (by simpa only[rd] using h)
   obtain⟨m,rfl,rfl,hw⟩:=DataW.trod_int hu hx
   simp only[Lit.wf,Bool.and_eq_true,decide_eq_true_eq]at hw
   exact⟨m,rfl,hw⟩
  | bool =>
   obtain⟨b,rfl,rfl⟩:=DataW.trod_bool (lY h) hx
   exact⟨b,rfl⟩
  | str =>
   obtain⟨b,rfl,rfl,_⟩:=DataW.trod_string (s8 h) hx
   refine⟨b,rfl,?_⟩
   have:=hb b.data.toList.length (by simp only[DataW.weights];exact List.mem_cons_self)
   have h2:b.data.toList.length=b.size:=Array.length_toList
   simp only[reachBytes]at this
   simp only[AP]
   omega
  | slice e =>
   obtain⟨et,hu,hb0,hce,he⟩:=YQ h
   rcases DataW.trod_slice hu hx with ⟨rfl,rfl⟩|⟨a,len,cap,elems,rest,m,rfl,rfl,rfl,-,hlc,-,hlen,helems,-,-⟩
   ·exact⟨[],none,0,rfl,Nat.le_refl _,Nat.zero_le _,.inl rfl⟩
   ·have hsz:len≤AP:=by
     have h1:=hb ((elems.length+rest.length)*P.bytesOf et) (by simp only[DataW.weights,hu,List.length_map];exact List.mem_cons_self)
     have h2:elems.length+rest.length≤(elems.length+rest.length)*P.bytesOf et:=Nat.le_mul_of_pos_right _ hb0
     simp only[reachBytes]at h1
     simp only[AP]
     omega
    have hel:∀i,i<len→∃d:e.den,∃es:List Value,es.length=e.size∧(∀(j:Nat) (v:Value),es[j]?=some v→w.cell? (a.add (i*e.size+j))=some v)∧Be w (fun _=>False) e es d:=by
     intro i hi
     have h1:=helems i hi
     obtain⟨x,hx⟩:∃x,elems[i]?=some x:=⟨_,List.getElem?_eq_getElem (by omega)⟩
     rw[hx]at h1
     obtain⟨es,h2,h3⟩:=Option.bind_eq_some_iff.1 h1
     obtain⟨h4,h5⟩:=oQ h2
     obtain⟨d,hd⟩:=ih e et he m es x h3 (fun b hb'=>hb b (by
      simp only[DataW.weights,hu]
      exact List.mem_cons_of_mem _ (List.mem_append_left _ (YR (List.mem_map.2 ⟨x,List.mem_of_getElem? hx,rfl⟩) b hb'))))
     refine⟨d,es,by rw[h4,hce],fun j v hj=>?_,hd⟩
     have:=h5 j v hj
     rwa [Cn,hce]at this
    have hall:∃ds:List e.den,ds.length=len∧∀(i:Nat) (d:e.den),ds[i]?=some d→∃es:List Value,es.length=e.size∧(∀(j:Nat) (v:Value),es[j]?=some v→w.cell? (a.add (i*e.size+j))=some v)∧Be w (fun _=>False) e es d:=by
     refine⟨(List.range len).pmap (fun i hi=>Classical.choose (hel i hi)) (fun i hi=>List.mem_range.1 hi),by simp,fun i d hd=>?_⟩
     rw[List.getElem?_pmap]at hd
     simp only[Option.pmap_eq_some_iff]at hd
     obtain⟨j,h1,h2,rfl⟩:=hd
     have hij:j=i:=by
      obtain⟨hlt,he⟩:=List.getElem?_eq_some_iff.1 h2
      simpa using he.symm
     subst hij
     exact Classical.choose_spec (hel j h1)
    obtain⟨ds,hdl,hds⟩:=hall
    exact⟨ds,some a,cap,by rw[hdl],by omega,by omega,.inr ⟨a,rfl,fun h=>h,hds⟩⟩
  | agg s =>
   rcases s9 h with ⟨fs,hu,hcs,hf⟩|⟨q,e,hu,hcs,hf⟩
   ·obtain⟨xs,m,rfl,rfl,hl,hxl,hxs⟩:=DataW.trod_struct hu hx
    obtain⟨d,hd⟩:=QR (fun ty t hrd cs x hx hb=>ih ty t hrd m cs x hx hb) cs s 0 fs.toList hf xs (by simpa using hxl) (fun i f hi=>hxs i f (by simpa using hi)) (by
     simpa[DataW.weights,hu] using hb)
    refine⟨d,?_⟩
    show Be w _ s cs d
    rwa [List.drop_zero,List.take_of_length_le (by omega)]at hd
   ·obtain⟨xs,m,rfl,rfl,hl,hxl,hxs⟩:=DataW.trod_array hu hx
    obtain⟨d,hd⟩:=QR (fun ty t hrd cs x hx hb=>ih ty t hrd m cs x hx hb) cs s 0 (oP P q e) hf xs (by simp[oP,hxl]) (fun i f hi=>by
     unfold oP at hi
     rw[List.getElem?_map]at hi
     by_cases hiq:i<q
     ·rw[List.getElem?_range hiq]at hi
      have hi:({ (default:Field) with offset:=i*P.cellsOf e,type:=e }:Field)=f:=by simpa using hi
      rw[←hi]
      exact hxs i hiq
     ·rw[List.getElem?_eq_none (by simp;omega)]at hi
      cases hi) (fun b hb'=>hb b (by
     simp only[DataW.weights,hu]
     unfold oP at hb'
     rw[List.range_eq_range']at hb'
     exact Us b hb'))
    refine⟨d,?_⟩
    show Be w _ s cs d
    rwa [List.drop_zero,List.take_of_length_le (by omega)]at hd
  | prod a b=>simp[rd]at h
  | ref j=>simp[rd]at h
theorem A0p {k:Nat} {ty:Ty} {t:TypeId} {v:Value} {r:Reach} {base:Nat} (h:rd P k ty t=true) (hv:Value.okWide P w r base t v):v=ty.wrap v.cells.toList:=by
 cases k with
 | zero=>simp[rd]at h
 | succ k =>
  cases ty with
  | int q =>
   obtain⟨n,rfl⟩:=okWide_int (WE (by simpa only[rd] using h)) hv
   rfl
  | bool =>
   obtain⟨n,rfl⟩:=okWide_bool (lY h) hv
   rfl
  | str =>
   obtain⟨n,rfl⟩:=okWide_string (s8 h) hv
   rfl
  | slice e =>
   obtain⟨et,hu,_⟩:=YQ h
   obtain⟨a,l,c,rfl⟩:=okWide_slice hu hv
   rfl
  | agg s =>
   rcases s9 h with ⟨fs,hu,_⟩|⟨q,e,hu,_⟩
   ·obtain⟨cs,rfl,_⟩:=okWide_struct hu hv
    simp[Ty.wrap,Value.cells]
   ·simp only[Value.okWide,hu]at hv
    obtain⟨cs,rfl,_⟩:=hv
    simp[Ty.wrap,Value.cells]
  | prod a b=>simp[rd]at h
  | ref j=>simp[rd]at h
def MD (P:Program):List Ty→List TypeId→Bool
 | [],[]=>true
 | ty :: tys,t :: ts=>rd P 50 ty t&&P.readableRec t&&decide (t<P.types.size)&&MD P tys ts
 | _,_=>false
theorem YS {r:Reach} {base:Nat}:∀(tys:List Ty) (ts:List TypeId) (vs:List Value) (ds:List (DataW H)) (p:List MemPlace),MD P tys ts=true→DataW.TrodAll enc P w 0 spare held ts vs ds p →
  (∀(j:Nat) (t:TypeId) (v:Value),ts[j]?=some t→vs[j]?=some v→Value.okWide P w r base t v)→(∀b∈DataW.weightsEach P ts ds,b≤reachBytes)→∃xs:Jz tys,QB w (fun _=>False) tys vs xs
 | [],[],vs,ds,p,_,h,_,_=>by
  obtain⟨rfl,_,_⟩:=trodAll_nil h
  exact⟨(),rfl⟩
 | ty :: tys,t :: ts,vs,ds,p,hrd,h,hv,hb=>by
  simp only[MD,Bool.and_eq_true]at hrd
  obtain⟨⟨⟨h1,_⟩,_⟩,h2⟩:=hrd
  obtain⟨v,vs',d,ds',p1,q1,rfl,rfl,rfl,⟨n,hd⟩,hrest⟩:=trodAll_cons h
  simp only[DataW.weightsEach,List.mem_append]at hb
  obtain⟨x,hx⟩:=tA 50 ty t h1 n _ _ hd (fun b hb'=>hb b (.inl hb'))
  obtain⟨xs,hxs⟩:=YS tys ts vs' ds' q1 h2 hrest (fun j t' v' ht hv'=>hv (j+1) t' v' ht hv') (fun b hb'=>hb b (.inr hb'))
  exact⟨(x,xs),v,vs',rfl,⟨_,hx,A0p h1 (hv 0 t v rfl rfl)⟩,hxs⟩
 | [],_ :: _,_,_,_,h,_,_,_=>by simp[MD]at h
 | _ :: _,[],_,_,_,h,_,_,_=>by simp[MD]at h
theorem Ut (hl:laidOutB P=true) {W W':World} (hb:Below W.heap.size W W'):∀(tys:List Ty) (ts:List TypeId) (vs:List Value) (ds:List (DataW H)) (p:List MemPlace),MD P tys ts=true →
  DataW.TrodAll enc P W 0 (fun _=>true) true ts vs ds p→(∀x∈p,x.block<W.heap.size)→DataW.TrodAll enc P W' 0 (fun b=>decide (b<W.heap.size)) true ts vs ds p
 | [],[],vs,ds,p,_,h,_=>by
  obtain⟨rfl,rfl,rfl⟩:=trodAll_nil h
  rfl
 | ty :: tys,t :: ts,vs,ds,p,hrd,h,hlt=>by
  simp only[MD,Bool.and_eq_true,decide_eq_true_eq]at hrd
  obtain⟨⟨⟨_,h1⟩,h2⟩,h3⟩:=hrd
  obtain⟨v,vs',d,ds',p1,q1,rfl,rfl,rfl,hd,hrest⟩:=trodAll_cons h
  exact⟨p1,q1,Below.trod hl h1 h2 hd hb (fun x hx=>hlt x (List.mem_append_left _ hx)),Ut hl hb tys ts vs' ds' q1 h3 hrest (fun x hx=>hlt x (List.mem_append_right _ hx)),rfl⟩
 | [],_ :: _,_,_,_,h,_,_=>by simp[MD]at h
 | _ :: _,[],_,_,_,h,_,_=>by simp[MD]at h
end
theorem tB {w:World} {O:Nat→Prop} {u:Value} {w':World} (h:rF w O [.p .bool true] u w'):u=.bool true∧Below w.heap.size w w':=by
 obtain⟨ρ',hq⟩:=h 0
 refine⟨?_,hq.below⟩
 obtain⟨cs,h1,h2⟩:Bf _ _ .bool u true:=hq.av
 have h1:cs=[.bool true]:=h1
 rw[h2,h1]
 rfl
theorem tC {P:Program} {f:FuncId} {fn:Func} {sp:Ak} {s:ChangeSpec} {tb:TypeId} (hok:Ao P f sp) (hpre:∀ds,sp.pre ds) (hout:∀ds,sp.out ds=[.p .bool true])
  (hl:laidOutB P=true) (hrd:MD P sp.ins fn.params.toList=true) (hres:fn.resultTypes=#[tb]) (hbool:P.underlying tb=some .bool) (hvars:s.vars=[])
  (hs:∀(H:Type) (ds:List (DataW H)),ds.length=fn.params.size→(s.fn H ds).results=[.lit (.bool true)]∧(s.fn H ds).args=ds∧(s.fn H ds).vars=[])
  {H:Type} {enc:TypeId×Value→H} {W:World} {base:Nat} {args:Array Value} {ds gs:List (DataW H)} {before:List MemPlace} {us:List TypeId}
  (hval:∀(j:Nat) t v,fn.params[j]?=some t→args[j]?=some v→Value.okWide P W .any base t v)
  (hW:DataW.Whole enc P fn.params.toList s.vars false W args.toList ds gs before)
  (hsz:(DataW.weightsEach P (fn.params.toList++us) (ds++gs)).all (·≤reachBytes)=true) :
  Calls P f args W fun e W'=>∃v,e=.returned v∧s.post enc P fn false true false false W args v W':=by
 have hW':=hW
 obtain⟨p,q,hA,hV,rfl,hfz,hnd⟩:=hW
 rw[hvars]at hV
 obtain⟨rfl,rfl⟩:=trodVars_none hV
 obtain⟨xs,hxs⟩:=YS sp.ins fn.params.toList args.toList ds p hrd hA (fun j t v ht hv=>hval j t v (by simpa using ht) (by simpa using hv))
  (fun b hb=>by simpa using List.all_eq_true.1 hsz b (Ur b hb))
 have hlt:∀x∈p,x.block<W.heap.size:=fun x hx=>by simpa using hW'.lt x (List.mem_append_left _ hx)
 have hlen:ds.length=fn.params.size:=by
  have:∀(ts:List TypeId) (vs:List Value) (ds:List (DataW H)) (p:List MemPlace),DataW.TrodAll enc P W 0 (fun _=>true) true ts vs ds p→ds.length=ts.length:=by
   intro ts
   induction ts with
   | nil=>intro vs ds p h;obtain⟨_,rfl,_⟩:=trodAll_nil h;rfl
   | cons t ts ih=>intro vs ds p h;obtain⟨v,vs',d,ds',p1,q1,rfl,rfl,rfl,_,hr⟩:=trodAll_cons h;simp[ih _ _ _ hr]
  simpa using this _ _ _ _ hA
 have hc:=hok.2 W (fun _=>False) args.toList xs (fun _ h=>h.elim) hxs (hpre xs)
 rw[hout]at hc
 have ea:args.toList.toArray=args:=by simp
 rw[ea]at hc
 refine hc.mono fun e W' ⟨u,he,hu⟩=>?_
 obtain⟨rfl,hb⟩:=tB hu
 obtain⟨e1,e2,e3⟩:=hs H (ds++[]) (by simpa using hlen)
 refine⟨_,he,_,_,_,[],p,[],hW',?_,?_,?_,hb.frame _,fun h=>by cases h⟩
 ·rw[e1,hres]
  exact trodAll_mk1 (shut_bool hbool _)
 ·rw[e2,List.append_nil]
  exact Ut hl hb sp.ins _ _ _ _ hrd hA hlt
 ·rw[e3,hvars]
  rfl
end
end Go.Proofs.YtebfihindnhccaaGreat.Fw

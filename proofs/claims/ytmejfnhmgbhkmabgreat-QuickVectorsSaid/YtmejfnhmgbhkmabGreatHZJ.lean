/- This program's types; a slice compared with nil; from a contract to the given statement. -/
/- The shapes of this program's types. -/
import Derived.Test.YtmejfnhmgbhkmabGreatHZI
import Derived.Test.YtmejfnhmgbhkmabGreatChecked
import Derived.Laws.Cover3
import Derived.Carry
import Derived.SizedLaws
import Derived.OpenShut
set_option linter.unusedVariables false
set_option linter.unusedSimpArgs false
namespace Go.Proofs.YtmejfnhmgbhkmabGreat.Fw
section
open Go
abbrev T1:Ty:=.ref 1
abbrev T2:Ty:=.int .i64
abbrev T3:Ty:=.int .i64
abbrev T4:Ty:=.bool
abbrev T5:Ty:=.int .u8
abbrev T9:Ty:=.str
abbrev T12:Ty:=.int .u64
abbrev T21:Ty:=.int .i32
abbrev T26:Ty:=.ref 1
abbrev T27:Ty:=.ref 1
abbrev T28:Ty:=.ref 1
abbrev T29:Ty:=.ref 1
abbrev Bx:Ty:=.slice T3
abbrev T31:Ty:=.ref 1
abbrev T32:Ty:=.ref 1
abbrev T38:Ty:=.ref 1
abbrev T39:Ty:=.ref 1
abbrev T40:Ty:=.ref 1
abbrev T41:Ty:=.ref 1
abbrev T42:Ty:=.ref 1
abbrev T43:Ty:=.ref 1
abbrev T44:Ty:=.ref 1
abbrev T45:Ty:=.ref 1
abbrev T47:Ty:=.ref 1
abbrev T48:Ty:=.ref 1
abbrev T49:Ty:=.ref 1
abbrev T51:Ty:=.ref 1
abbrev T52:Ty:=.ref 1
abbrev T55:Ty:=.ref 1
abbrev T57:Ty:=.ref 1
abbrev T58:Ty:=.ref 1
abbrev T62:Ty:=.agg (.prod T3 (T3))
abbrev aO:Ty:=.agg (.prod T3 (T3))
abbrev Yp:Ty:=.int .i64
abbrev T66:Ty:=.ref 1
abbrev T67:Ty:=.ref 1
abbrev T69:Ty:=.ref 1
abbrev T71:Ty:=.ref 1
abbrev T72:Ty:=.ref 1
abbrev T73:Ty:=.ref 1
abbrev T74:Ty:=.ref 1
abbrev T75:Ty:=.ref 1
abbrev T76:Ty:=.ref 1
abbrev T77:Ty:=.ref 1
abbrev T78:Ty:=.ref 1
abbrev T79:Ty:=.ref 2
abbrev T80:Ty:=.ref 1
abbrev T81:Ty:=.agg (.prod Bx (T3))
abbrev Lq:Ty:=.agg (.prod Bx (T3))
abbrev T83:Ty:=.slice Lq
abbrev T84:Ty:=.ref 1
abbrev T85:Ty:=.ref 1
abbrev T86:Ty:=.ref 1
abbrev T88:Ty:=.ref 1
abbrev T89:Ty:=.slice T4
abbrev T90:Ty:=.ref 0
abbrev T94:Ty:=.ref 1
abbrev T95:Ty:=.ref 1
abbrev T96:Ty:=.ref 1
abbrev T97:Ty:=.ref 1
abbrev T98:Ty:=.ref 1
abbrev T99:Ty:=.ref 1
abbrev A2v:Ty:=.ref 1
abbrev A2w:Ty:=.ref 1
abbrev A2x:Ty:=.ref 1
abbrev A2y:Ty:=.ref 1
abbrev Bq:Ty:=.slice T9
abbrev A2z:Ty:=.ref 1
abbrev A2A:Ty:=.ref 1
abbrev A2B:Ty:=.ref 1
abbrev A2C:Ty:=.ref 1
abbrev A2D:Ty:=.ref 1
abbrev A2E:Ty:=.ref 1
abbrev A2F:Ty:=.ref 1
abbrev A2G:Ty:=.ref 1
abbrev A2H:Ty:=.ref 1
abbrev A2I:Ty:=.ref 1
abbrev A2J:Ty:=.int .u64
abbrev A2K:Ty:=.slice T5
abbrev A2L:Ty:=.ref 1
abbrev A2M:Ty:=.ref 1
abbrev PM:Ty:=.agg (.prod T3 (T3))
abbrev A2N:Ty:=.slice PM
abbrev A2O:Ty:=.ref 1
abbrev A2P:Ty:=.ref 1
abbrev A2Q:Ty:=.ref 0
abbrev A2R:Ty:=.ref 1
abbrev A2S:Ty:=.ref 1
abbrev A2T:Ty:=.ref 1
abbrev A2U:Ty:=.ref 1
abbrev A2V:Ty:=.ref 1
abbrev A2W:Ty:=.ref 1
abbrev A2X:Ty:=.ref 1
abbrev A2Y:Ty:=.ref 1
abbrev A2Z:Ty:=.agg (.prod T3 (T3))
abbrev sT:Ty:=.agg (.prod T3 (T3))
abbrev A30:Ty:=.ref 1
abbrev A31:Ty:=.ref 1
abbrev A32:Ty:=.ref 1
abbrev A33:Ty:=.ref 1
abbrev A34:Ty:=.ref 1
abbrev A35:Ty:=.ref 1
abbrev A36:Ty:=.ref 1
abbrev A37:Ty:=.agg (.prod T9 (T3))
abbrev sU:Ty:=.agg (.prod T9 (T3))
abbrev A38:Ty:=.agg (.prod T9 (T9))
abbrev b6:Ty:=.agg (.prod T9 (T9))
abbrev Nv:Ty:=.int .u64
abbrev A39:Ty:=.ref 1
abbrev A3a:Ty:=.ref 1
abbrev A3b:Ty:=.ref 1
abbrev A3c:Ty:=.ref 1
abbrev A3d:Ty:=.ref 1
abbrev A3e:Ty:=.int .i64
abbrev A3f:Ty:=.ref 1
abbrev A3g:Ty:=.ref 1
abbrev A3h:Ty:=.ref 1
abbrev A3i:Ty:=.ref 1
abbrev A3j:Ty:=.ref 1
abbrev A3k:Ty:=.int .u32
abbrev A3l:Ty:=.ref 1
abbrev A3m:Ty:=.ref 1
abbrev A3n:Ty:=.ref 1
abbrev A3o:Ty:=.ref 1
abbrev A3p:Ty:=.ref 1
abbrev A3q:Ty:=.ref 1
abbrev A3r:Ty:=.ref 1
abbrev A3s:Ty:=.ref 1
abbrev A3t:Ty:=.ref 1
abbrev A3u:Ty:=.ref 1
abbrev A3v:Ty:=.ref 1
abbrev A3w:Ty:=.ref 1
abbrev A3x:Ty:=.ref 1
abbrev A3y:Ty:=.ref 1
abbrev A3z:Ty:=.ref 1
abbrev A3A:Ty:=.ref 1
abbrev A3B:Ty:=.int .u64
abbrev A3C:Ty:=.ref 1
abbrev A3D:Ty:=.ref 1
abbrev A3E:Ty:=.ref 1
abbrev A3F:Ty:=.ref 0
abbrev A3G:Ty:=.ref 1
abbrev A3H:Ty:=.ref 1
abbrev A3I:Ty:=.ref 1
abbrev A3J:Ty:=.ref 1
abbrev A3K:Ty:=.ref 1
abbrev A3L:Ty:=.ref 1
abbrev A3M:Ty:=.ref 1
abbrev A3N:Ty:=.ref 0
abbrev A3O:Ty:=.ref 1
abbrev A3P:Ty:=.ref 1
abbrev A3Q:Ty:=.ref 1
abbrev A3R:Ty:=.ref 1
abbrev A3S:Ty:=.ref 1
abbrev A3T:Ty:=.ref 1
abbrev A3U:Ty:=.ref 1
abbrev A3V:Ty:=.ref 1
abbrev A3W:Ty:=.ref 0
abbrev PN:Ty:=.slice Bx
abbrev Yq:Ty:=.slice sU
abbrev Ee:Ty:=.slice aO
abbrev T60:Ty:=.agg (.prod T3 (Ee))
abbrev nS:Ty:=.agg (.prod T3 (Ee))
abbrev T87:Ty:=.slice PN
abbrev T91:Ty:=.slice Ee
abbrev A3X:Ty:=.slice Nv
abbrev A6:Ty:=.slice Nv
abbrev A3Y:Ty:=.agg (.prod T9 (A6))
abbrev XA:Ty:=.agg (.prod T9 (A6))
abbrev XB:Ty:=.slice sT
abbrev A3Z:Ty:=.agg (.prod T9 (.prod A6 (.prod Bx (XB))))
abbrev nT:Ty:=.agg (.prod T9 (.prod A6 (.prod Bx (XB))))
abbrev Yr:Ty:=.slice b6
abbrev A40:Ty:=.agg (.prod T9 (.prod Bq (Yr)))
abbrev nU:Ty:=.agg (.prod T9 (.prod Bq (Yr)))
abbrev RC:Ty:=.slice A6
abbrev Jm:Ty:=.slice nS
abbrev T23:Ty:=.agg (Jm)
abbrev FW:Ty:=.agg (Jm)
abbrev EK:Ty:=.slice nU
abbrev Xx:Ty:=.slice nT
abbrev T36:Ty:=.agg (.prod Xx (Yq))
abbrev II:Ty:=.agg (.prod Xx (Yq))
abbrev T50:Ty:=.agg (.prod FW (FW))
abbrev T53:Ty:=.agg (.prod EK (.prod FW (.prod FW (PN))))
abbrev T54:Ty:=.agg (.prod EK (.prod FW (.prod FW (PN))))
abbrev T92:Ty:=.agg (.prod II (.prod Bx (.prod Bx (T91))))
abbrev T93:Ty:=.agg (.prod II (.prod Bx (.prod Bx (T91))))
abbrev xX:Ty:=.slice XB
abbrev Im:Ty:=.slice XA
abbrev A41:Ty:=.agg (.prod FW (.prod Bx (Bx)))
abbrev A42:Ty:=.agg (.prod FW (.prod Bx (Bx)))
abbrev T46:Ty:=.slice T50
set_option maxRecDepth 100000
def AL:List (Nat×TI):=[(1,⟨T1,[],0,8⟩),
 (2,⟨T2,[],0,8⟩),
 (3,⟨T3,[],0,8⟩),
 (4,⟨T4,[],0,1⟩),
 (5,⟨T5,[],0,1⟩),
 (9,⟨T9,[],0,16⟩),
 (12,⟨T12,[],0,8⟩),
 (21,⟨T21,[],0,4⟩),
 (22,⟨Jm,[],61,24⟩),
 (23,⟨T23,[(0,1)],0,24⟩),
 (24,⟨FW,[(0,1)],0,24⟩),
 (25,⟨PN,[],30,24⟩),
 (26,⟨T26,[],0,8⟩),
 (27,⟨T27,[],0,8⟩),
 (28,⟨T28,[],0,8⟩),
 (29,⟨T29,[],0,8⟩),
 (30,⟨Bx,[],3,24⟩),
 (31,⟨T31,[],0,8⟩),
 (32,⟨T32,[],0,8⟩),
 (33,⟨EK,[],119,24⟩),
 (34,⟨Xx,[],113,24⟩),
 (35,⟨Yq,[],162,24⟩),
 (36,⟨T36,[(0,1),(1,1)],0,48⟩),
 (37,⟨II,[(0,1),(1,1)],0,48⟩),
 (38,⟨T38,[],0,8⟩),
 (39,⟨T39,[],0,8⟩),
 (40,⟨T40,[],0,8⟩),
 (41,⟨T41,[],0,8⟩),
 (42,⟨T42,[],0,8⟩),
 (43,⟨T43,[],0,8⟩),
 (44,⟨T44,[],0,8⟩),
 (45,⟨T45,[],0,8⟩),
 (46,⟨T46,[],50,24⟩),
 (47,⟨T47,[],0,8⟩),
 (48,⟨T48,[],0,8⟩),
 (49,⟨T49,[],0,8⟩),
 (50,⟨T50,[(0,1),(1,1)],24,48⟩),
 (51,⟨T51,[],0,8⟩),
 (52,⟨T52,[],0,8⟩),
 (53,⟨T53,[(0,1),(1,1),(2,1),(3,1)],0,96⟩),
 (54,⟨T54,[(0,1),(1,1),(2,1),(3,1)],0,96⟩),
 (55,⟨T55,[],0,8⟩),
 (57,⟨T57,[],0,8⟩),
 (58,⟨T58,[],0,8⟩),
 (59,⟨Ee,[],63,24⟩),
 (60,⟨T60,[(0,1),(1,1)],0,32⟩),
 (61,⟨nS,[(0,1),(1,1)],0,32⟩),
 (62,⟨T62,[(0,1),(1,1)],0,16⟩),
 (63,⟨aO,[(0,1),(1,1)],0,16⟩),
 (64,⟨Yp,[],0,8⟩),
 (66,⟨T66,[],0,8⟩),
 (67,⟨T67,[],0,8⟩),
 (69,⟨T69,[],0,8⟩),
 (71,⟨T71,[],0,8⟩),
 (72,⟨T72,[],0,8⟩),
 (73,⟨T73,[],0,8⟩),
 (74,⟨T74,[],0,8⟩),
 (75,⟨T75,[],0,8⟩),
 (76,⟨T76,[],0,8⟩),
 (77,⟨T77,[],0,8⟩),
 (78,⟨T78,[],0,8⟩),
 (79,⟨T79,[(9,82)],0,8⟩),
 (80,⟨T80,[],0,8⟩),
 (81,⟨T81,[(0,1),(1,1)],0,32⟩),
 (82,⟨Lq,[(0,1),(1,1)],0,32⟩),
 (83,⟨T83,[],82,24⟩),
 (84,⟨T84,[],0,8⟩),
 (85,⟨T85,[],0,8⟩),
 (86,⟨T86,[],0,8⟩),
 (87,⟨T87,[],25,24⟩),
 (88,⟨T88,[],0,8⟩),
 (89,⟨T89,[],4,24⟩),
 (90,⟨T90,[],0,8⟩),
 (91,⟨T91,[],59,24⟩),
 (92,⟨T92,[(0,2),(2,1),(3,1),(4,1)],0,120⟩),
 (93,⟨T93,[(0,2),(2,1),(3,1),(4,1)],0,120⟩),
 (94,⟨T94,[],0,8⟩),
 (95,⟨T95,[],0,8⟩),
 (96,⟨T96,[],0,8⟩),
 (97,⟨T97,[],0,8⟩),
 (98,⟨T98,[],0,8⟩),
 (99,⟨T99,[],0,8⟩),
 (100,⟨xX,[],111,24⟩),
 (102,⟨A2v,[],0,8⟩),
 (103,⟨Im,[],109,24⟩),
 (105,⟨A2w,[],0,8⟩),
 (106,⟨A3X,[],165,24⟩),
 (107,⟨A6,[],165,24⟩),
 (108,⟨A3Y,[(0,1),(1,1)],0,40⟩),
 (109,⟨XA,[(0,1),(1,1)],0,40⟩),
 (110,⟨A2x,[],0,8⟩),
 (111,⟨XB,[],151,24⟩),
 (112,⟨A3Z,[(0,1),(1,1),(2,1),(3,1)],0,88⟩),
 (113,⟨nT,[(0,1),(1,1),(2,1),(3,1)],0,88⟩),
 (115,⟨A2y,[],0,8⟩),
 (116,⟨Bq,[],9,24⟩),
 (117,⟨Yr,[],164,24⟩),
 (118,⟨A40,[(0,1),(1,1),(2,1)],0,64⟩),
 (119,⟨nU,[(0,1),(1,1),(2,1)],0,64⟩),
 (120,⟨A2z,[],0,8⟩),
 (121,⟨A2A,[],0,8⟩),
 (122,⟨A2B,[],0,8⟩),
 (123,⟨A2C,[],0,8⟩),
 (124,⟨A2D,[],0,8⟩),
 (125,⟨A2E,[],0,8⟩),
 (126,⟨A2F,[],0,8⟩),
 (127,⟨A2G,[],0,8⟩),
 (128,⟨A2H,[],0,8⟩),
 (129,⟨A2I,[],0,8⟩),
 (130,⟨A2J,[],0,8⟩),
 (131,⟨A2K,[],5,24⟩),
 (132,⟨A2L,[],0,8⟩),
 (133,⟨A2M,[],0,8⟩),
 (134,⟨PM,[(0,1),(1,1)],3,16⟩),
 (135,⟨A2N,[],134,24⟩),
 (136,⟨A2O,[],0,8⟩),
 (137,⟨A2P,[],0,8⟩),
 (138,⟨A2Q,[],0,8⟩),
 (139,⟨A41,[(0,1),(1,1),(2,1)],0,72⟩),
 (140,⟨A42,[(0,1),(1,1),(2,1)],0,72⟩),
 (141,⟨A2R,[],0,8⟩),
 (142,⟨A2S,[],0,8⟩),
 (143,⟨A2T,[],0,8⟩),
 (144,⟨A2U,[],0,8⟩),
 (145,⟨A2V,[],0,8⟩),
 (146,⟨A2W,[],0,8⟩),
 (148,⟨A2X,[],0,8⟩),
 (149,⟨A2Y,[],0,8⟩),
 (150,⟨A2Z,[(0,1),(1,1)],0,16⟩),
 (151,⟨sT,[(0,1),(1,1)],0,16⟩),
 (152,⟨RC,[],107,24⟩),
 (153,⟨A30,[],0,8⟩),
 (154,⟨A31,[],0,8⟩),
 (155,⟨A32,[],0,8⟩),
 (156,⟨A33,[],0,8⟩),
 (157,⟨A34,[],0,8⟩),
 (159,⟨A35,[],0,8⟩),
 (160,⟨A36,[],0,8⟩),
 (161,⟨A37,[(0,1),(1,1)],0,24⟩),
 (162,⟨sU,[(0,1),(1,1)],0,24⟩),
 (163,⟨A38,[(0,1),(1,1)],0,32⟩),
 (164,⟨b6,[(0,1),(1,1)],0,32⟩),
 (165,⟨Nv,[],0,8⟩),
 (166,⟨A39,[],0,8⟩),
 (167,⟨A3a,[],0,8⟩),
 (168,⟨A3b,[],0,8⟩),
 (169,⟨A3c,[],0,8⟩),
 (170,⟨A3d,[],0,8⟩),
 (171,⟨A3e,[],0,8⟩),
 (173,⟨A3f,[],0,8⟩),
 (174,⟨A3g,[],0,8⟩),
 (175,⟨A3h,[],0,8⟩),
 (176,⟨A3i,[],0,8⟩),
 (177,⟨A3j,[],0,8⟩),
 (178,⟨A3k,[],0,4⟩),
 (179,⟨A3l,[],0,8⟩),
 (180,⟨A3m,[],0,8⟩),
 (181,⟨A3n,[],0,8⟩),
 (182,⟨A3o,[],0,8⟩),
 (183,⟨A3p,[],0,8⟩),
 (184,⟨A3q,[],0,8⟩),
 (185,⟨A3r,[],0,8⟩),
 (186,⟨A3s,[],0,8⟩),
 (187,⟨A3t,[],0,8⟩),
 (188,⟨A3u,[],0,8⟩),
 (190,⟨A3v,[],0,8⟩),
 (191,⟨A3w,[],0,8⟩),
 (192,⟨A3x,[],0,8⟩),
 (193,⟨A3y,[],0,8⟩),
 (194,⟨A3z,[],0,8⟩),
 (195,⟨A3A,[],0,8⟩),
 (196,⟨A3B,[],0,8⟩),
 (197,⟨A3C,[],0,8⟩),
 (198,⟨A3D,[],0,8⟩),
 (199,⟨A3E,[],0,8⟩),
 (200,⟨A3F,[],0,8⟩),
 (201,⟨A3G,[],0,8⟩),
 (202,⟨A3H,[],0,8⟩),
 (203,⟨A3I,[],0,8⟩),
 (204,⟨A3J,[],0,8⟩),
 (205,⟨A3K,[],0,8⟩),
 (206,⟨A3L,[],0,8⟩),
 (207,⟨A3M,[],0,8⟩),
 (208,⟨A3N,[],0,8⟩),
 (210,⟨A3O,[],0,8⟩),
 (211,⟨A3P,[],0,8⟩),
 (212,⟨A3Q,[],0,8⟩),
 (213,⟨A3R,[],0,8⟩),
 (214,⟨A3S,[],0,8⟩),
 (215,⟨A3T,[],0,8⟩),
 (221,⟨A3U,[],0,8⟩),
 (224,⟨A3V,[],0,8⟩),
 (225,⟨A3W,[],0,8⟩)]
theorem AH (f) (pu:List Nat:=[]) (ne:List (Nat×TypeId):=[]):DG Tryz.prog ⟨AL,f,pu,ne⟩:=wU (by kernel_rfl)
theorem drawsAny:Tryz.prog.follows .mixedOrders=true:=by kernel_rfl
theorem ty1:lk 1 AL=some ⟨T1,[],0,8⟩:=rfl
theorem ty2:lk 2 AL=some ⟨T2,[],0,8⟩:=rfl
theorem ty3:lk 3 AL=some ⟨T3,[],0,8⟩:=rfl
theorem ty4:lk 4 AL=some ⟨T4,[],0,1⟩:=rfl
theorem ty5:lk 5 AL=some ⟨T5,[],0,1⟩:=rfl
theorem ty9:lk 9 AL=some ⟨T9,[],0,16⟩:=rfl
theorem xY:lk 12 AL=some ⟨T12,[],0,8⟩:=rfl
theorem xZ:lk 21 AL=some ⟨T21,[],0,4⟩:=rfl
theorem x4:lk 22 AL=some ⟨Jm,[],61,24⟩:=rfl
theorem x5:lk 23 AL=some ⟨T23,[(0,1)],0,24⟩:=rfl
theorem x6:lk 24 AL=some ⟨FW,[(0,1)],0,24⟩:=rfl
theorem x7:lk 25 AL=some ⟨PN,[],30,24⟩:=rfl
theorem x8:lk 26 AL=some ⟨T26,[],0,8⟩:=rfl
theorem x9:lk 27 AL=some ⟨T27,[],0,8⟩:=rfl
theorem yA:lk 28 AL=some ⟨T28,[],0,8⟩:=rfl
theorem yB:lk 29 AL=some ⟨T29,[],0,8⟩:=rfl
theorem yC:lk 30 AL=some ⟨Bx,[],3,24⟩:=rfl
theorem yD:lk 31 AL=some ⟨T31,[],0,8⟩:=rfl
theorem yE:lk 32 AL=some ⟨T32,[],0,8⟩:=rfl
theorem yF:lk 33 AL=some ⟨EK,[],119,24⟩:=rfl
theorem yG:lk 34 AL=some ⟨Xx,[],113,24⟩:=rfl
theorem yH:lk 35 AL=some ⟨Yq,[],162,24⟩:=rfl
theorem yI:lk 36 AL=some ⟨T36,[(0,1),(1,1)],0,48⟩:=rfl
theorem yJ:lk 37 AL=some ⟨II,[(0,1),(1,1)],0,48⟩:=rfl
theorem yK:lk 38 AL=some ⟨T38,[],0,8⟩:=rfl
theorem yL:lk 39 AL=some ⟨T39,[],0,8⟩:=rfl
theorem yM:lk 40 AL=some ⟨T40,[],0,8⟩:=rfl
theorem yN:lk 41 AL=some ⟨T41,[],0,8⟩:=rfl
theorem yO:lk 42 AL=some ⟨T42,[],0,8⟩:=rfl
theorem yP:lk 43 AL=some ⟨T43,[],0,8⟩:=rfl
theorem yQ:lk 44 AL=some ⟨T44,[],0,8⟩:=rfl
theorem yR:lk 45 AL=some ⟨T45,[],0,8⟩:=rfl
theorem yS:lk 46 AL=some ⟨T46,[],50,24⟩:=rfl
theorem yT:lk 47 AL=some ⟨T47,[],0,8⟩:=rfl
theorem yU:lk 48 AL=some ⟨T48,[],0,8⟩:=rfl
theorem yV:lk 49 AL=some ⟨T49,[],0,8⟩:=rfl
theorem yW:lk 50 AL=some ⟨T50,[(0,1),(1,1)],24,48⟩:=rfl
theorem yX:lk 51 AL=some ⟨T51,[],0,8⟩:=rfl
theorem yY:lk 52 AL=some ⟨T52,[],0,8⟩:=rfl
theorem yZ:lk 53 AL=some ⟨T53,[(0,1),(1,1),(2,1),(3,1)],0,96⟩:=rfl
theorem y3:lk 54 AL=some ⟨T54,[(0,1),(1,1),(2,1),(3,1)],0,96⟩:=rfl
theorem y4:lk 55 AL=some ⟨T55,[],0,8⟩:=rfl
theorem y5:lk 57 AL=some ⟨T57,[],0,8⟩:=rfl
theorem y6:lk 58 AL=some ⟨T58,[],0,8⟩:=rfl
theorem y7:lk 59 AL=some ⟨Ee,[],63,24⟩:=rfl
theorem y8:lk 60 AL=some ⟨T60,[(0,1),(1,1)],0,32⟩:=rfl
theorem y9:lk 61 AL=some ⟨nS,[(0,1),(1,1)],0,32⟩:=rfl
theorem zA:lk 62 AL=some ⟨T62,[(0,1),(1,1)],0,16⟩:=rfl
theorem zB:lk 63 AL=some ⟨aO,[(0,1),(1,1)],0,16⟩:=rfl
theorem zC:lk 64 AL=some ⟨Yp,[],0,8⟩:=rfl
theorem zD:lk 66 AL=some ⟨T66,[],0,8⟩:=rfl
theorem zE:lk 67 AL=some ⟨T67,[],0,8⟩:=rfl
theorem zF:lk 69 AL=some ⟨T69,[],0,8⟩:=rfl
theorem zG:lk 71 AL=some ⟨T71,[],0,8⟩:=rfl
theorem zH:lk 72 AL=some ⟨T72,[],0,8⟩:=rfl
theorem zI:lk 73 AL=some ⟨T73,[],0,8⟩:=rfl
theorem zJ:lk 74 AL=some ⟨T74,[],0,8⟩:=rfl
theorem zK:lk 75 AL=some ⟨T75,[],0,8⟩:=rfl
theorem zL:lk 76 AL=some ⟨T76,[],0,8⟩:=rfl
theorem zM:lk 77 AL=some ⟨T77,[],0,8⟩:=rfl
theorem zN:lk 78 AL=some ⟨T78,[],0,8⟩:=rfl
theorem zO:lk 79 AL=some ⟨T79,[(9,82)],0,8⟩:=rfl
theorem zP:lk 80 AL=some ⟨T80,[],0,8⟩:=rfl
theorem zQ:lk 81 AL=some ⟨T81,[(0,1),(1,1)],0,32⟩:=rfl
theorem zR:lk 82 AL=some ⟨Lq,[(0,1),(1,1)],0,32⟩:=rfl
theorem zS:lk 83 AL=some ⟨T83,[],82,24⟩:=rfl
theorem zT:lk 84 AL=some ⟨T84,[],0,8⟩:=rfl
theorem zU:lk 85 AL=some ⟨T85,[],0,8⟩:=rfl
theorem zV:lk 86 AL=some ⟨T86,[],0,8⟩:=rfl
theorem zW:lk 87 AL=some ⟨T87,[],25,24⟩:=rfl
theorem zX:lk 88 AL=some ⟨T88,[],0,8⟩:=rfl
theorem zY:lk 89 AL=some ⟨T89,[],4,24⟩:=rfl
theorem zZ:lk 90 AL=some ⟨T90,[],0,8⟩:=rfl
theorem z0:lk 91 AL=some ⟨T91,[],59,24⟩:=rfl
theorem z1:lk 92 AL=some ⟨T92,[(0,2),(2,1),(3,1),(4,1)],0,120⟩:=rfl
theorem z2:lk 93 AL=some ⟨T93,[(0,2),(2,1),(3,1),(4,1)],0,120⟩:=rfl
theorem z3:lk 94 AL=some ⟨T94,[],0,8⟩:=rfl
theorem z4:lk 95 AL=some ⟨T95,[],0,8⟩:=rfl
theorem z5:lk 96 AL=some ⟨T96,[],0,8⟩:=rfl
theorem z6:lk 97 AL=some ⟨T97,[],0,8⟩:=rfl
theorem z7:lk 98 AL=some ⟨T98,[],0,8⟩:=rfl
theorem z8:lk 99 AL=some ⟨T99,[],0,8⟩:=rfl
theorem fY:lk 100 AL=some ⟨xX,[],111,24⟩:=rfl
theorem fZ:lk 102 AL=some ⟨A2v,[],0,8⟩:=rfl
theorem f6:lk 103 AL=some ⟨Im,[],109,24⟩:=rfl
theorem f7:lk 105 AL=some ⟨A2w,[],0,8⟩:=rfl
theorem gB:lk 106 AL=some ⟨A3X,[],165,24⟩:=rfl
theorem gC:lk 107 AL=some ⟨A6,[],165,24⟩:=rfl
theorem gD:lk 108 AL=some ⟨A3Y,[(0,1),(1,1)],0,40⟩:=rfl
theorem gE:lk 109 AL=some ⟨XA,[(0,1),(1,1)],0,40⟩:=rfl
theorem gF:lk 110 AL=some ⟨A2x,[],0,8⟩:=rfl
theorem gG:lk 111 AL=some ⟨XB,[],151,24⟩:=rfl
theorem gH:lk 112 AL=some ⟨A3Z,[(0,1),(1,1),(2,1),(3,1)],0,88⟩:=rfl
theorem gI:lk 113 AL=some ⟨nT,[(0,1),(1,1),(2,1),(3,1)],0,88⟩:=rfl
theorem gJ:lk 115 AL=some ⟨A2y,[],0,8⟩:=rfl
theorem gK:lk 116 AL=some ⟨Bq,[],9,24⟩:=rfl
theorem gL:lk 117 AL=some ⟨Yr,[],164,24⟩:=rfl
theorem gM:lk 118 AL=some ⟨A40,[(0,1),(1,1),(2,1)],0,64⟩:=rfl
theorem gN:lk 119 AL=some ⟨nU,[(0,1),(1,1),(2,1)],0,64⟩:=rfl
theorem gP:lk 120 AL=some ⟨A2z,[],0,8⟩:=rfl
theorem gQ:lk 121 AL=some ⟨A2A,[],0,8⟩:=rfl
theorem gR:lk 122 AL=some ⟨A2B,[],0,8⟩:=rfl
theorem gS:lk 123 AL=some ⟨A2C,[],0,8⟩:=rfl
theorem gT:lk 124 AL=some ⟨A2D,[],0,8⟩:=rfl
theorem gU:lk 125 AL=some ⟨A2E,[],0,8⟩:=rfl
theorem gV:lk 126 AL=some ⟨A2F,[],0,8⟩:=rfl
theorem gW:lk 127 AL=some ⟨A2G,[],0,8⟩:=rfl
theorem gX:lk 128 AL=some ⟨A2H,[],0,8⟩:=rfl
theorem gY:lk 129 AL=some ⟨A2I,[],0,8⟩:=rfl
theorem gZ:lk 130 AL=some ⟨A2J,[],0,8⟩:=rfl
theorem hC:lk 131 AL=some ⟨A2K,[],5,24⟩:=rfl
theorem hD:lk 132 AL=some ⟨A2L,[],0,8⟩:=rfl
theorem hH:lk 133 AL=some ⟨A2M,[],0,8⟩:=rfl
theorem hZ:lk 134 AL=some ⟨PM,[(0,1),(1,1)],3,16⟩:=rfl
theorem iA:lk 135 AL=some ⟨A2N,[],134,24⟩:=rfl
theorem iB:lk 136 AL=some ⟨A2O,[],0,8⟩:=rfl
theorem iC:lk 137 AL=some ⟨A2P,[],0,8⟩:=rfl
theorem iD:lk 138 AL=some ⟨A2Q,[],0,8⟩:=rfl
theorem iE:lk 139 AL=some ⟨A41,[(0,1),(1,1),(2,1)],0,72⟩:=rfl
theorem iG:lk 140 AL=some ⟨A42,[(0,1),(1,1),(2,1)],0,72⟩:=rfl
theorem iH:lk 141 AL=some ⟨A2R,[],0,8⟩:=rfl
theorem iI:lk 142 AL=some ⟨A2S,[],0,8⟩:=rfl
theorem iJ:lk 143 AL=some ⟨A2T,[],0,8⟩:=rfl
theorem iK:lk 144 AL=some ⟨A2U,[],0,8⟩:=rfl
theorem iL:lk 145 AL=some ⟨A2V,[],0,8⟩:=rfl
theorem iM:lk 146 AL=some ⟨A2W,[],0,8⟩:=rfl
theorem iO:lk 148 AL=some ⟨A2X,[],0,8⟩:=rfl
theorem iP:lk 149 AL=some ⟨A2Y,[],0,8⟩:=rfl
theorem iQ:lk 150 AL=some ⟨A2Z,[(0,1),(1,1)],0,16⟩:=rfl
theorem iR:lk 151 AL=some ⟨sT,[(0,1),(1,1)],0,16⟩:=rfl
theorem iT:lk 152 AL=some ⟨RC,[],107,24⟩:=rfl
theorem iU:lk 153 AL=some ⟨A30,[],0,8⟩:=rfl
theorem iV:lk 154 AL=some ⟨A31,[],0,8⟩:=rfl
theorem iW:lk 155 AL=some ⟨A32,[],0,8⟩:=rfl
theorem iX:lk 156 AL=some ⟨A33,[],0,8⟩:=rfl
theorem iY:lk 157 AL=some ⟨A34,[],0,8⟩:=rfl
theorem iZ:lk 159 AL=some ⟨A35,[],0,8⟩:=rfl
theorem i4:lk 160 AL=some ⟨A36,[],0,8⟩:=rfl
theorem i5:lk 161 AL=some ⟨A37,[(0,1),(1,1)],0,24⟩:=rfl
theorem i6:lk 162 AL=some ⟨sU,[(0,1),(1,1)],0,24⟩:=rfl
theorem i7:lk 163 AL=some ⟨A38,[(0,1),(1,1)],0,32⟩:=rfl
theorem i8:lk 164 AL=some ⟨b6,[(0,1),(1,1)],0,32⟩:=rfl
theorem i9:lk 165 AL=some ⟨Nv,[],0,8⟩:=rfl
theorem jA:lk 166 AL=some ⟨A39,[],0,8⟩:=rfl
theorem jB:lk 167 AL=some ⟨A3a,[],0,8⟩:=rfl
theorem jC:lk 168 AL=some ⟨A3b,[],0,8⟩:=rfl
theorem jD:lk 169 AL=some ⟨A3c,[],0,8⟩:=rfl
theorem jE:lk 170 AL=some ⟨A3d,[],0,8⟩:=rfl
theorem jF:lk 171 AL=some ⟨A3e,[],0,8⟩:=rfl
theorem jG:lk 173 AL=some ⟨A3f,[],0,8⟩:=rfl
theorem jH:lk 174 AL=some ⟨A3g,[],0,8⟩:=rfl
theorem jI:lk 175 AL=some ⟨A3h,[],0,8⟩:=rfl
theorem jJ:lk 176 AL=some ⟨A3i,[],0,8⟩:=rfl
theorem jK:lk 177 AL=some ⟨A3j,[],0,8⟩:=rfl
theorem jL:lk 178 AL=some ⟨A3k,[],0,4⟩:=rfl
theorem jM:lk 179 AL=some ⟨A3l,[],0,8⟩:=rfl
theorem jN:lk 180 AL=some ⟨A3m,[],0,8⟩:=rfl
theorem jO:lk 181 AL=some ⟨A3n,[],0,8⟩:=rfl
theorem jP:lk 182 AL=some ⟨A3o,[],0,8⟩:=rfl
theorem jQ:lk 183 AL=some ⟨A3p,[],0,8⟩:=rfl
theorem jR:lk 184 AL=some ⟨A3q,[],0,8⟩:=rfl
theorem jS:lk 185 AL=some ⟨A3r,[],0,8⟩:=rfl
theorem jT:lk 186 AL=some ⟨A3s,[],0,8⟩:=rfl
theorem jU:lk 187 AL=some ⟨A3t,[],0,8⟩:=rfl
theorem jV:lk 188 AL=some ⟨A3u,[],0,8⟩:=rfl
theorem jW:lk 190 AL=some ⟨A3v,[],0,8⟩:=rfl
theorem jX:lk 191 AL=some ⟨A3w,[],0,8⟩:=rfl
theorem jY:lk 192 AL=some ⟨A3x,[],0,8⟩:=rfl
theorem jZ:lk 193 AL=some ⟨A3y,[],0,8⟩:=rfl
theorem j3:lk 194 AL=some ⟨A3z,[],0,8⟩:=rfl
theorem j4:lk 195 AL=some ⟨A3A,[],0,8⟩:=rfl
theorem j5:lk 196 AL=some ⟨A3B,[],0,8⟩:=rfl
theorem j6:lk 197 AL=some ⟨A3C,[],0,8⟩:=rfl
theorem j7:lk 198 AL=some ⟨A3D,[],0,8⟩:=rfl
theorem j8:lk 199 AL=some ⟨A3E,[],0,8⟩:=rfl
theorem j9:lk 200 AL=some ⟨A3F,[],0,8⟩:=rfl
theorem kA:lk 201 AL=some ⟨A3G,[],0,8⟩:=rfl
theorem kB:lk 202 AL=some ⟨A3H,[],0,8⟩:=rfl
theorem kC:lk 203 AL=some ⟨A3I,[],0,8⟩:=rfl
theorem kD:lk 204 AL=some ⟨A3J,[],0,8⟩:=rfl
theorem kE:lk 205 AL=some ⟨A3K,[],0,8⟩:=rfl
theorem kF:lk 206 AL=some ⟨A3L,[],0,8⟩:=rfl
theorem kG:lk 207 AL=some ⟨A3M,[],0,8⟩:=rfl
theorem kH:lk 208 AL=some ⟨A3N,[],0,8⟩:=rfl
theorem kI:lk 210 AL=some ⟨A3O,[],0,8⟩:=rfl
theorem kJ:lk 211 AL=some ⟨A3P,[],0,8⟩:=rfl
theorem kK:lk 212 AL=some ⟨A3Q,[],0,8⟩:=rfl
theorem kL:lk 213 AL=some ⟨A3R,[],0,8⟩:=rfl
theorem kM:lk 214 AL=some ⟨A3S,[],0,8⟩:=rfl
theorem kN:lk 215 AL=some ⟨A3T,[],0,8⟩:=rfl
theorem kO:lk 221 AL=some ⟨A3U,[],0,8⟩:=rfl
theorem kP:lk 224 AL=some ⟨A3V,[],0,8⟩:=rfl
theorem kQ:lk 225 AL=some ⟨A3W,[],0,8⟩:=rfl
end
/- A slice held against nil: the answer is open, but where there is an element it is no. -/
section
open Go Go.RowKit
section
variable {c:Cx} {R:Exit→Act→World→Prop} {k:List DW} {σ σ':St}
theorem nV {P:Program} {tb:Tb} {t:TypeId} {ti:TI} {e:Ty} (hT:Dh P tb t ti) (hti:ti.ty=.slice e) (w:World) (a:Option Addr) (n m:Nat):(Op.equal t (.slice a n m) (.slice none 0 0)).run P w=.ok a.isNone w:=by
 have h2:=hT.2
 rw[hti]at h2
 exact run_equal_slice_nil w t ti.el a n m h2.1
def Ys:Option TI→Bool
 | some ⟨.slice _,_,_,_⟩=>true
 | _=>false
theorem nW (hc:c.Ok) {ops:Array Oper} {rest:List Oper} {d:Nat} {t:TypeId} {x:Operand} {tt ty:TypeId} {pos:String} {after:Array Edge} {e:Ty} {l:List e.den} (neg:Bool)
  (hx:Aq σ x=some (.p (.slice e) l)) (ht:Ys (lk t c.tb.ty)=true) (hk:∀b:Bool,(b=true→l=[])→GK c R k ops rest (σ.add (.p .bool (if neg then !b else b)) [] (some d))) :
  GK c R k ops (⟨some d,.binOp (if neg then .neq else .eql) t x (.const (.slice none 0 0)) tt,ty,pos,after,none⟩ :: rest) σ:=by
 intro hd hko a w hsat
 obtain⟨ρ,hsr⟩:=hsat
 have hev:Ff (vw w c.O0 σ ρ) σ a.eval:=Di hsr.env
 have hxv:=hev x _ hx
 obtain⟨cs,⟨ad,m,rfl,h1,h2,h3⟩,hv⟩:=hxv
 have hv:a.eval x=.slice ad (List.length l) m:=hv
 unfold Ys at ht
 split at ht
 ·rename_i e' offs el bytes hlk
  have hTI:=hc.T _ _ hlk
  have heq:=nV hTI rfl w ad (List.length l) m
  unfold wpListIn
  rw[if_pos (by simp[Region.wanted])]
  have hrun:(execOp a.eval ⟨some d,.binOp (if neg then .neq else .eql) t x (.const (.slice none 0 0)) tt,ty,pos,after,none⟩).run c.P w=.ok (.value (.bool (if neg then !ad.isNone else ad.isNone))) w:=by
   have hz:a.eval (.const (.slice none 0 0))=.slice none 0 0:=rfl
   cases neg<;>simp[execOp,hv,hz,eqGuard,binOp,heq]
  refine Am hrun ?_ (fun cl h=>by cases neg<;>cases h)
  have hb:ad.isNone=true→l=[]:=fun hn=>by
   rcases h3 with h3|⟨ad',rfl,_⟩
   ·exact h3
   ·simp at hn
  have hq:QS w c.O0 σ ρ (.p .bool (if neg then !ad.isNone else ad.isNone)) [] (.bool (if neg then !ad.isNone else ad.isNone)) ρ w:=QS.still (BP _)
  have hs2:=hsr.add hc.K hc.O (dst:=some d) (fun d' hd'=>by cases hd';exact Bd (hd _ List.mem_cons_self) d rfl) rfl hq
  exact hk ad.isNone hb (fun o ho=>hd o (by simp[ho])) hko _ _ ⟨ρ,hs2⟩
 ·cases ht
end
end
/- From a law function's contract to the given statement: the arguments, read as data, are the contract's pure values; the end of the call in the statement's words. -/
section
open Go Go.RowKit Go.ChangeShapes Go.WideShapes
set_option maxRecDepth 100000
def kR (r:Ty→TypeId→Bool) (P:Program):Ty→Nat→List Field→Bool
 | .prod a b,o,fs=>match fs with
  | f :: fs=>f.offset==o&&P.cellsOf f.type==a.size&&r a f.type&&kR r P b (o+a.size) fs
  | []=>false
 | s,o,[f]=>f.offset==o&&P.cellsOf f.type==s.size&&r s f.type
 | _,_,_=>false
def nX (P:Program) (m:Nat) (e:TypeId):List Field:=(List.range m).map fun i=>{ (default:Field) with offset:=i*P.cellsOf e,type:=e }
def rd (P:Program):Nat→Ty→TypeId→Bool
 | 0,_,_=>false
 | _+1,.int k,t=>isI k (P.underlying t)
 | _+1,.bool,t=>match P.underlying t with|some .bool=>true|_=>false
 | _+1,.str,t=>match P.underlying t with|some .string=>true|_=>false
 | n+1,.slice e,t=>match P.underlying t with|some (.slice et)=>decide (0<P.bytesOf et)&&P.cellsOf et==e.size&&rd P n e et|_=>false
 | n+1,.agg s,t=>match P.underlying t with|some (.struct fs)=>P.cellsOf t==s.size&&kR (rd P n) P s 0 fs.toList|some (.array m e)=>P.cellsOf t==s.size&&kR (rd P n) P s 0 (nX P m e)|_=>false
 | _+1,_,_=>false
theorem kS {P:Program} {n:Nat} {t:TypeId} (h:rd P (n+1) .bool t=true):P.underlying t=some .bool:=by
 simp only[rd]at h
 split at h
 ·assumption
 ·cases h
theorem sV {P:Program} {n:Nat} {t:TypeId} (h:rd P (n+1) .str t=true):P.underlying t=some .string:=by
 simp only[rd]at h
 split at h
 ·assumption
 ·cases h
theorem Yt {P:Program} {n:Nat} {e:Ty} {t:TypeId} (h:rd P (n+1) (.slice e) t=true):∃et,P.underlying t=some (.slice et)∧0<P.bytesOf et∧P.cellsOf et=e.size∧rd P n e et=true:=by
 simp only[rd]at h
 split at h
 ·rename_i et hu
  simp only[Bool.and_eq_true,decide_eq_true_eq,beq_iff_eq]at h
  exact⟨et,hu,h.1.1,h.1.2,h.2⟩
 ·cases h
theorem sW {P:Program} {n:Nat} {s:Ty} {t:TypeId} (h:rd P (n+1) (.agg s) t=true):(∃fs,P.underlying t=some (.struct fs)∧P.cellsOf t=s.size∧kR (rd P n) P s 0 fs.toList=true)∨∃m e,P.underlying t=some (.array m e)∧P.cellsOf t=s.size∧kR (rd P n) P s 0 (nX P m e)=true:=by
 simp only[rd]at h
 split at h
 ·rename_i fs hu
  simp only[Bool.and_eq_true,beq_iff_eq]at h
  exact .inl ⟨fs,hu,h.1,h.2⟩
 ·rename_i m e hu
  simp only[Bool.and_eq_true,beq_iff_eq]at h
  exact .inr ⟨m,e,hu,h.1,h.2⟩
 ·cases h
theorem nY {w:World} {base:Nat} {a:Addr} {n:Nat} {cs:List Value} (h:w.cells? base a n=some cs):cs.length=n∧∀(j:Nat) (v:Value),cs[j]?=some v→w.cell? (a.add j)=some v:=by
 unfold World.cells? at h
 split at h
 ·have h1:=mapM_some_length h
  simp only[List.length_range]at h1
  refine⟨h1,fun j v hj=>?_⟩
  have hlt:j<n:=by
   obtain⟨hlt,_⟩:=List.getElem?_eq_some_iff.1 hj
   omega
  rw[mapM_some_get h j j (by simp[hlt]),hj]
 ·cases h
section
variable {H:Type} {enc:TypeId×Value→H} {P:Program} {w:World} {spare:Nat→Bool} {held:Bool}
theorem Yu {e:TypeId}:∀ {l:List (DataW H)} {d:DataW H},d∈l→∀n∈d.weights P e,n∈DataW.weightsAll P e l
 | a :: l,d,hd,n,hn=>by
  simp only[DataW.weightsAll,List.mem_append]
  rcases List.mem_cons.1 hd with rfl|hd
  ·exact .inl hn
  ·exact .inr (Yu hd n hn)
 | [],_,hd,_,_=>by cases hd
theorem VB {us:List TypeId} {gs:List (DataW H)}:∀ {ts:List TypeId} {ds:List (DataW H)},∀n∈DataW.weightsEach P ts ds,n∈DataW.weightsEach P (ts++us) (ds++gs)
 | t :: ts,d :: ds,n,hn=>by
  simp only[DataW.weightsEach,List.cons_append,List.mem_append]at hn ⊢
  rcases hn with hn|hn
  ·exact .inl hn
  ·exact .inr (VB n hn)
 | [],_,n,hn=>by simp[DataW.weightsEach]at hn
 | _ :: _,[],n,hn=>by simp[DataW.weightsEach]at hn
theorem VC {e:TypeId}:∀ {m:Nat} {k:Nat} {ds:List (DataW H)},∀n∈DataW.weightsEach P (((List.range' k m).map fun i=>({ (default:Field) with offset:=i*P.cellsOf e,type:=e }:Field)).map (·.type)) ds,n∈DataW.weightsAll P e ds
 | 0,_,ds,n,hn=>by simp[DataW.weightsEach]at hn
 | m+1,k,[],n,hn=>by
  rw[List.range'_succ]at hn
  simp[DataW.weightsEach]at hn
 | m+1,k,d :: ds,n,hn=>by
  rw[List.range'_succ]at hn
  simp only[List.map_cons,DataW.weightsEach,List.mem_append]at hn
  simp only[DataW.weightsAll,List.mem_append]
  rcases hn with hn|hn
  ·exact .inl hn
  ·exact .inr (VC n hn)
theorem QW {n:Nat} {r:Ty→TypeId→Bool}
  (hr:∀ty t,r ty t=true→∀(cs:List Value) (x:DataW H×List MemPlace),DataW.trod enc P w 0 spare held n t cs=some x→(∀b∈x.1.weights P t,b≤reachBytes)→∃d:ty.den,Bj w (fun _=>False) ty cs d) (cs:List Value) :
  ∀(s:Ty) (o:Nat) (fs:List Field),kR r P s o fs=true→∀xs:List (DataW H×List MemPlace),xs.length=fs.length →
   (∀(i:Nat) (f:Field),fs[i]?=some f→DataW.trod enc P w 0 spare held n f.type ((cs.drop f.offset).take (P.cellsOf f.type))=xs[i]?) →
   (∀b∈DataW.weightsEach P (fs.map (·.type)) (xs.map (·.1)),b≤reachBytes)→∃d:s.den,Bj w (fun _=>False) s ((cs.drop o).take s.size) d:=by
 have one:∀(s:Ty) (o:Nat) (f:Field),(f.offset==o&&P.cellsOf f.type==s.size&&r s f.type)=true→∀x:DataW H×List MemPlace,
   DataW.trod enc P w 0 spare held n f.type ((cs.drop f.offset).take (P.cellsOf f.type))=some x →
   (∀b∈x.1.weights P f.type,b≤reachBytes)→∃d:s.den,Bj w (fun _=>False) s ((cs.drop o).take s.size) d:=by
  intro s o f h x hx hb
  simp only[Bool.and_eq_true,beq_iff_eq]at h
  obtain⟨⟨rfl,h2⟩,h3⟩:=h
  rw[←h2]
  exact hr s f.type h3 _ x hx hb
 have lone:∀(s:Ty) (o:Nat) (f:Field),(f.offset==o&&P.cellsOf f.type==s.size&&r s f.type)=true→∀xs:List (DataW H×List MemPlace),xs.length=[f].length →
   (∀(i:Nat) (g:Field),[f][i]?=some g→DataW.trod enc P w 0 spare held n g.type ((cs.drop g.offset).take (P.cellsOf g.type))=xs[i]?) →
   (∀b∈DataW.weightsEach P ([f].map (·.type)) (xs.map (·.1)),b≤reachBytes)→∃d:s.den,Bj w (fun _=>False) s ((cs.drop o).take s.size) d:=by
  intro s o f h xs hl hx hb
  obtain⟨x,rfl⟩:∃x,xs=[x]:=List.length_eq_one_iff.1 (by simpa using hl)
  exact one s o f h x (hx 0 f rfl) (fun b hb'=>hb b (by simp[DataW.weightsEach,hb']))
 intro s
 induction s with
 | prod a b iha ihb =>
  intro o fs h xs hl hx hb
  cases fs with
  | nil=>simp[kR]at h
  | cons f fs =>
   simp only[kR,Bool.and_eq_true]at h
   obtain⟨⟨⟨h1,h2⟩,h3⟩,h4⟩:=h
   obtain⟨x,ys,rfl⟩:∃x ys,xs=x :: ys:=List.exists_cons_of_ne_nil (by intro h;subst h;simp at hl)
   obtain⟨d1,r1⟩:=one a o f (by simp only[h1,h2,h3,Bool.and_self]) x (hx 0 f rfl) (fun b hb'=>hb b (by
     simp only[List.map_cons,DataW.weightsEach,List.mem_append]
     exact .inl hb'))
   obtain⟨d2,r2⟩:=ihb (o+a.size) fs h4 ys (by simpa using hl) (fun i g hg=>hx (i+1) g hg) (fun b hb'=>hb b (by
     simp only[List.map_cons,DataW.weightsEach,List.mem_append]
     exact .inr hb'))
   refine⟨(d1,d2),(cs.drop o).take a.size,(cs.drop (o+a.size)).take b.size,?_,r1,r2⟩
   show (cs.drop o).take (a.size+b.size)=_
   rw[List.take_add,List.drop_drop]
 | int k=>intro o fs h;match fs,h with|[f],h=>exact lone _ o f (by simpa only[kR] using h)
 | bool=>intro o fs h;match fs,h with|[f],h=>exact lone _ o f (by simpa only[kR] using h)
 | str=>intro o fs h;match fs,h with|[f],h=>exact lone _ o f (by simpa only[kR] using h)
 | slice e _=>intro o fs h;match fs,h with|[f],h=>exact lone _ o f (by simpa only[kR] using h)
 | agg t _=>intro o fs h;match fs,h with|[f],h=>exact lone _ o f (by simpa only[kR] using h)
 | ref k=>intro o fs h;match fs,h with|[f],h=>exact lone _ o f (by simpa only[kR] using h)
theorem sX:∀(k:Nat) (ty:Ty) (t:TypeId),rd P k ty t=true→∀(n:Nat) (cs:List Value) (x:DataW H×List MemPlace),
  DataW.trod enc P w 0 spare held n t cs=some x→(∀b∈x.1.weights P t,b≤reachBytes)→∃d:ty.den,Bj w (fun _=>False) ty cs d:=by
 intro k
 induction k with
 | zero=>intro ty t h;simp[rd]at h
 | succ k ih =>
  intro ty t h n cs x hx hb
  cases ty with
  | int q =>
   have hu:=Wc (by simpa only[rd] using h)
   obtain⟨m,rfl,rfl,hw⟩:=DataW.trod_int hu hx
   simp only[Lit.wf,Bool.and_eq_true,decide_eq_true_eq]at hw
   exact⟨m,rfl,hw⟩
  | bool =>
   obtain⟨b,rfl,rfl⟩:=DataW.trod_bool (kS h) hx
   exact⟨b,rfl⟩
  | str =>
   obtain⟨b,rfl,rfl,_⟩:=DataW.trod_string (sV h) hx
   refine⟨b,rfl,?_⟩
   have:=hb b.data.toList.length (by simp only[DataW.weights];exact List.mem_cons_self)
   have h2:b.data.toList.length=b.size:=Array.length_toList
   simp only[reachBytes]at this
   simp only[AO]
   omega
  | slice e =>
   obtain⟨et,hu,hb0,hce,he⟩:=Yt h
   rcases DataW.trod_slice hu hx with ⟨rfl,rfl⟩|⟨a,len,cap,elems,rest,m,rfl,rfl,rfl,-,hlc,-,hlen,helems,-,-⟩
   ·exact⟨[],none,0,rfl,Nat.le_refl _,Nat.zero_le _,.inl rfl⟩
   ·have hsz:len≤AO:=by
     have h1:=hb ((elems.length+rest.length)*P.bytesOf et) (by simp only[DataW.weights,hu,List.length_map];exact List.mem_cons_self)
     have h2:elems.length+rest.length≤(elems.length+rest.length)*P.bytesOf et:=Nat.le_mul_of_pos_right _ hb0
     simp only[reachBytes]at h1
     simp only[AO]
     omega
    have hel:∀i,i<len→∃d:e.den,∃es:List Value,es.length=e.size∧(∀(j:Nat) (v:Value),es[j]?=some v→w.cell? (a.add (i*e.size+j))=some v)∧Bj w (fun _=>False) e es d:=by
     intro i hi
     have h1:=helems i hi
     obtain⟨x,hx⟩:∃x,elems[i]?=some x:=⟨_,List.getElem?_eq_getElem (by omega)⟩
     rw[hx]at h1
     obtain⟨es,h2,h3⟩:=Option.bind_eq_some_iff.1 h1
     obtain⟨h4,h5⟩:=nY h2
     obtain⟨d,hd⟩:=ih e et he m es x h3 (fun b hb'=>hb b (by
      simp only[DataW.weights,hu]
      exact List.mem_cons_of_mem _ (List.mem_append_left _ (Yu (List.mem_map.2 ⟨x,List.mem_of_getElem? hx,rfl⟩) b hb'))))
     refine⟨d,es,by rw[h4,hce],fun j v hj=>?_,hd⟩
     have:=h5 j v hj
     rwa [Cn,hce]at this
    have hall:∃ds:List e.den,ds.length=len∧∀(i:Nat) (d:e.den),ds[i]?=some d→∃es:List Value,es.length=e.size∧(∀(j:Nat) (v:Value),es[j]?=some v→w.cell? (a.add (i*e.size+j))=some v)∧Bj w (fun _=>False) e es d:=by
     refine⟨(List.range len).pmap (fun i hi=>Classical.choose (hel i hi)) (fun i hi=>List.mem_range.1 hi),by simp,fun i d hd=>?_⟩
     rw[List.getElem?_pmap]at hd
     simp only[Option.pmap_eq_some_iff]at hd
     obtain⟨j,h1,h2,rfl⟩:=hd
     have hij:j=i:=by
      obtain⟨hlt,he⟩:=List.getElem?_eq_some_iff.1 h2
      simpa using he.symm
     subst hij
     exact Classical.choose_spec (hel j h1)
    obtain⟨ds,hdl,hds⟩:=hall
    exact⟨ds,some a,cap,by rw[hdl],by omega,by omega,.inr ⟨a,rfl,fun h=>h,hds⟩⟩
  | agg s =>
   rcases sW h with ⟨fs,hu,hcs,hf⟩|⟨q,e,hu,hcs,hf⟩
   ·obtain⟨xs,m,rfl,rfl,hl,hxl,hxs⟩:=DataW.trod_struct hu hx
    obtain⟨d,hd⟩:=QW (fun ty t hrd cs x hx hb=>ih ty t hrd m cs x hx hb) cs s 0 fs.toList hf xs (by simpa using hxl) (fun i f hi=>hxs i f (by simpa using hi)) (by
     simpa[DataW.weights,hu] using hb)
    refine⟨d,?_⟩
    show Bj w _ s cs d
    rwa [List.drop_zero,List.take_of_length_le (by omega)]at hd
   ·obtain⟨xs,m,rfl,rfl,hl,hxl,hxs⟩:=DataW.trod_array hu hx
    obtain⟨d,hd⟩:=QW (fun ty t hrd cs x hx hb=>ih ty t hrd m cs x hx hb) cs s 0 (nX P q e) hf xs (by simp[nX,hxl]) (fun i f hi=>by
     unfold nX at hi
     rw[List.getElem?_map]at hi
     by_cases hiq:i<q
     ·rw[List.getElem?_range hiq]at hi
      have hi:({ (default:Field) with offset:=i*P.cellsOf e,type:=e }:Field)=f:=by simpa using hi
      rw[←hi]
      exact hxs i hiq
     ·rw[List.getElem?_eq_none (by simp;omega)]at hi
      cases hi) (fun b hb'=>hb b (by
     simp only[DataW.weights,hu]
     unfold nX at hb'
     rw[List.range_eq_range']at hb'
     exact VC b hb'))
    refine⟨d,?_⟩
    show Bj w _ s cs d
    rwa [List.drop_zero,List.take_of_length_le (by omega)]at hd
  | prod a b=>simp[rd]at h
  | ref j=>simp[rd]at h
theorem z9 {k:Nat} {ty:Ty} {t:TypeId} {v:Value} {r:Reach} {base:Nat} (h:rd P k ty t=true) (hv:Value.okWide P w r base t v):v=ty.wrap v.cells.toList:=by
 cases k with
 | zero=>simp[rd]at h
 | succ k =>
  cases ty with
  | int q =>
   obtain⟨n,rfl⟩:=okWide_int (Wc (by simpa only[rd] using h)) hv
   rfl
  | bool =>
   obtain⟨n,rfl⟩:=okWide_bool (kS h) hv
   rfl
  | str =>
   obtain⟨n,rfl⟩:=okWide_string (sV h) hv
   rfl
  | slice e =>
   obtain⟨et,hu,_⟩:=Yt h
   obtain⟨a,l,c,rfl⟩:=okWide_slice hu hv
   rfl
  | agg s =>
   rcases sW h with ⟨fs,hu,_⟩|⟨q,e,hu,_⟩
   ·obtain⟨cs,rfl,_⟩:=okWide_struct hu hv
    simp[Ty.wrap,Value.cells]
   ·simp only[Value.okWide,hu]at hv
    obtain⟨cs,rfl,_⟩:=hv
    simp[Ty.wrap,Value.cells]
  | prod a b=>simp[rd]at h
  | ref j=>simp[rd]at h
def L4 (P:Program):List Ty→List TypeId→Bool
 | [],[]=>true
 | ty :: tys,t :: ts=>rd P 50 ty t&&P.readableRec t&&decide (t<P.types.size)&&L4 P tys ts
 | _,_=>false
theorem Yv {r:Reach} {base:Nat}:∀(tys:List Ty) (ts:List TypeId) (vs:List Value) (ds:List (DataW H)) (p:List MemPlace),L4 P tys ts=true→DataW.TrodAll enc P w 0 spare held ts vs ds p →
  (∀(j:Nat) (t:TypeId) (v:Value),ts[j]?=some t→vs[j]?=some v→Value.okWide P w r base t v)→(∀b∈DataW.weightsEach P ts ds,b≤reachBytes)→∃xs:J0 tys,QJ w (fun _=>False) tys vs xs
 | [],[],vs,ds,p,_,h,_,_=>by
  obtain⟨rfl,_,_⟩:=trodAll_nil h
  exact⟨(),rfl⟩
 | ty :: tys,t :: ts,vs,ds,p,hrd,h,hv,hb=>by
  simp only[L4,Bool.and_eq_true]at hrd
  obtain⟨⟨⟨h1,_⟩,_⟩,h2⟩:=hrd
  obtain⟨v,vs',d,ds',p1,q1,rfl,rfl,rfl,⟨n,hd⟩,hrest⟩:=trodAll_cons h
  simp only[DataW.weightsEach,List.mem_append]at hb
  obtain⟨x,hx⟩:=sX 50 ty t h1 n _ _ hd (fun b hb'=>hb b (.inl hb'))
  obtain⟨xs,hxs⟩:=Yv tys ts vs' ds' q1 h2 hrest (fun j t' v' ht hv'=>hv (j+1) t' v' ht hv') (fun b hb'=>hb b (.inr hb'))
  exact⟨(x,xs),v,vs',rfl,⟨_,hx,z9 h1 (hv 0 t v rfl rfl)⟩,hxs⟩
 | [],_ :: _,_,_,_,h,_,_,_=>by simp[L4]at h
 | _ :: _,[],_,_,_,h,_,_,_=>by simp[L4]at h
theorem VD (hl:laidOutB P=true) {W W':World} (hb:Below W.heap.size W W'):∀(tys:List Ty) (ts:List TypeId) (vs:List Value) (ds:List (DataW H)) (p:List MemPlace),L4 P tys ts=true →
  DataW.TrodAll enc P W 0 (fun _=>true) true ts vs ds p→(∀x∈p,x.block<W.heap.size)→DataW.TrodAll enc P W' 0 (fun b=>decide (b<W.heap.size)) true ts vs ds p
 | [],[],vs,ds,p,_,h,_=>by
  obtain⟨rfl,rfl,rfl⟩:=trodAll_nil h
  rfl
 | ty :: tys,t :: ts,vs,ds,p,hrd,h,hlt=>by
  simp only[L4,Bool.and_eq_true,decide_eq_true_eq]at hrd
  obtain⟨⟨⟨_,h1⟩,h2⟩,h3⟩:=hrd
  obtain⟨v,vs',d,ds',p1,q1,rfl,rfl,rfl,hd,hrest⟩:=trodAll_cons h
  exact⟨p1,q1,Below.trod hl h1 h2 hd hb (fun x hx=>hlt x (List.mem_append_left _ hx)),VD hl hb tys ts vs' ds' q1 h3 hrest (fun x hx=>hlt x (List.mem_append_right _ hx)),rfl⟩
 | [],_ :: _,_,_,_,h,_,_=>by simp[L4]at h
 | _ :: _,[],_,_,_,h,_,_=>by simp[L4]at h
end
theorem sY {w:World} {O:Nat→Prop} {u:Value} {w':World} (h:qW w O [.p .bool true] u w'):u=.bool true∧Below w.heap.size w w':=by
 obtain⟨ρ',hq⟩:=h 0
 refine⟨?_,hq.below⟩
 obtain⟨cs,h1,h2⟩:Bh _ _ .bool u true:=hq.av
 have h1:cs=[.bool true]:=h1
 rw[h2,h1]
 rfl
theorem KW {P:Program} {f:FuncId} {fn:Func} {sp:Ac} {s:ChangeSpec} {tb:TypeId} (hok:Ai P f sp) (hpre:∀ds,sp.pre ds) (hout:∀ds,sp.out ds=[.p .bool true])
  (hl:laidOutB P=true) (hrd:L4 P sp.ins fn.params.toList=true) (hres:fn.resultTypes=#[tb]) (hbool:P.underlying tb=some .bool) (hvars:s.vars=[])
  (hs:∀(H:Type) (ds:List (DataW H)),ds.length=fn.params.size→(s.fn H ds).results=[.lit (.bool true)]∧(s.fn H ds).args=ds∧(s.fn H ds).vars=[])
  {H:Type} {enc:TypeId×Value→H} {W:World} {base:Nat} {args:Array Value} {ds gs:List (DataW H)} {before:List MemPlace} {us:List TypeId}
  (hval:∀(j:Nat) t v,fn.params[j]?=some t→args[j]?=some v→Value.okWide P W .any base t v)
  (hW:DataW.Whole enc P fn.params.toList s.vars false W args.toList ds gs before)
  (hsz:(DataW.weightsEach P (fn.params.toList++us) (ds++gs)).all (·≤reachBytes)=true) :
  Calls P f args W fun e W'=>∃v,e=.returned v∧s.post enc P fn false true false false W args v W':=by
 have hW':=hW
 obtain⟨p,q,hA,hV,rfl,hfz,hnd⟩:=hW
 rw[hvars]at hV
 obtain⟨rfl,rfl⟩:=trodVars_none hV
 obtain⟨xs,hxs⟩:=Yv sp.ins fn.params.toList args.toList ds p hrd hA (fun j t v ht hv=>hval j t v (by simpa using ht) (by simpa using hv))
  (fun b hb=>by simpa using List.all_eq_true.1 hsz b (VB b hb))
 have hlt:∀x∈p,x.block<W.heap.size:=fun x hx=>by simpa using hW'.lt x (List.mem_append_left _ hx)
 have hlen:ds.length=fn.params.size:=by
  have:∀(ts:List TypeId) (vs:List Value) (ds:List (DataW H)) (p:List MemPlace),DataW.TrodAll enc P W 0 (fun _=>true) true ts vs ds p→ds.length=ts.length:=by
   intro ts
   induction ts with
   | nil=>intro vs ds p h;obtain⟨_,rfl,_⟩:=trodAll_nil h;rfl
   | cons t ts ih=>intro vs ds p h;obtain⟨v,vs',d,ds',p1,q1,rfl,rfl,rfl,_,hr⟩:=trodAll_cons h;simp[ih _ _ _ hr]
  simpa using this _ _ _ _ hA
 have hc:=hok.2 W (fun _=>False) args.toList xs (fun _ h=>h.elim) hxs (hpre xs)
 rw[hout]at hc
 have ea:args.toList.toArray=args:=by simp
 rw[ea]at hc
 refine hc.mono fun e W' ⟨u,he,hu⟩=>?_
 obtain⟨rfl,hb⟩:=sY hu
 obtain⟨e1,e2,e3⟩:=hs H (ds++[]) (by simpa using hlen)
 refine⟨_,he,_,_,_,[],p,[],hW',?_,?_,?_,hb.frame _,fun h=>by cases h⟩
 ·rw[e1,hres]
  exact trodAll_mk1 (shut_bool hbool _)
 ·rw[e2,List.append_nil]
  exact VD hl hb sp.ins _ _ _ _ hrd hA hlt
 ·rw[e3,hvars]
  rfl
end
end Go.Proofs.YtmejfnhmgbhkmabGreat.Fw

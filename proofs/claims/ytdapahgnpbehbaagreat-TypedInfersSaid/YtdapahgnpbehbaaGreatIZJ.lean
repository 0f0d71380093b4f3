/- This program's types; a slice compared with nil; from a contract to the given statement. -/
import Derived.Test.YtdapahgnpbehbaaGreatIZI
import Derived.Test.YtdapahgnpbehbaaGreatChecked
import Derived.Laws.Cover3
import Derived.Carry
import Derived.SizedLaws
import Derived.OpenShut
set_option linter.unusedVariables false
set_option linter.unusedSimpArgs false
namespace Go.Proofs.YtdapahgnpbehbaaGreat.Fw
section
open Go
abbrev T1:Ty:=.ref 1
abbrev T2:Ty:=.int .i64
abbrev T3:Ty:=.int .i64
abbrev T4:Ty:=.bool
abbrev T5:Ty:=.int .u8
abbrev T9:Ty:=.str
abbrev T12:Ty:=.int .u64
abbrev T21:Ty:=.int .i32
abbrev T26:Ty:=.ref 1
abbrev T27:Ty:=.ref 1
abbrev T32:Ty:=.ref 1
abbrev TU:Ty:=.int .i64
abbrev T34:Ty:=.ref 1
abbrev T35:Ty:=.ref 1
abbrev T36:Ty:=.ref 1
abbrev T38:Ty:=.ref 1
abbrev T39:Ty:=.ref 1
abbrev T41:Ty:=.ref 1
abbrev T42:Ty:=.ref 1
abbrev T43:Ty:=.ref 1
abbrev T44:Ty:=.ref 1
abbrev T46:Ty:=.ref 1
abbrev T51:Ty:=.ref 1
abbrev T52:Ty:=.agg (.prod T3 (T3))
abbrev BD:Ty:=.agg (.prod T3 (T3))
abbrev T54:Ty:=.ref 1
abbrev T56:Ty:=.ref 1
abbrev T57:Ty:=.ref 1
abbrev T59:Ty:=.ref 1
abbrev IJ:Ty:=.slice T3
abbrev T63:Ty:=.ref 1
abbrev T64:Ty:=.ref 1
abbrev T65:Ty:=.ref 1
abbrev T66:Ty:=.ref 1
abbrev T67:Ty:=.ref 1
abbrev T69:Ty:=.ref 1
abbrev T70:Ty:=.ref 1
abbrev T71:Ty:=.ref 1
abbrev T72:Ty:=.ref 0
abbrev T75:Ty:=.ref 1
abbrev T76:Ty:=.ref 1
abbrev T77:Ty:=.ref 1
abbrev T78:Ty:=.ref 1
abbrev T79:Ty:=.ref 1
abbrev T85:Ty:=.ref 1
abbrev T86:Ty:=.agg (.prod T3 (T3))
abbrev T87:Ty:=.agg (.prod T3 (T3))
abbrev T88:Ty:=.ref 1
abbrev T89:Ty:=.ref 1
abbrev T90:Ty:=.ref 1
abbrev T91:Ty:=.ref 1
abbrev T92:Ty:=.ref 1
abbrev T94:Ty:=.ref 1
abbrev T95:Ty:=.ref 2
abbrev T96:Ty:=.ref 1
abbrev T97:Ty:=.ref 1
abbrev T99:Ty:=.ref 1
abbrev A1s:Ty:=.ref 1
abbrev A1t:Ty:=.ref 1
abbrev A1u:Ty:=.ref 1
abbrev Bt:Ty:=.slice T9
abbrev A1v:Ty:=.ref 1
abbrev A1w:Ty:=.ref 1
abbrev A1x:Ty:=.ref 1
abbrev A1y:Ty:=.agg (.prod T9 (T3))
abbrev p7:Ty:=.agg (.prod T9 (T3))
abbrev A1z:Ty:=.ref 1
abbrev A1A:Ty:=.ref 1
abbrev A1B:Ty:=.ref 1
abbrev A1C:Ty:=.slice T4
abbrev A1D:Ty:=.ref 0
abbrev A1E:Ty:=.ref 1
abbrev A1F:Ty:=.ref 1
abbrev A1G:Ty:=.ref 1
abbrev A1H:Ty:=.ref 0
abbrev A1I:Ty:=.ref 1
abbrev A1J:Ty:=.ref 1
abbrev A1K:Ty:=.ref 1
abbrev A1L:Ty:=.ref 1
abbrev A1M:Ty:=.ref 1
abbrev A1N:Ty:=.ref 1
abbrev A1O:Ty:=.ref 1
abbrev A1P:Ty:=.ref 1
abbrev A1Q:Ty:=.ref 1
abbrev A1R:Ty:=.ref 1
abbrev A1S:Ty:=.ref 1
abbrev A1T:Ty:=.ref 1
abbrev A1U:Ty:=.ref 1
abbrev A1V:Ty:=.ref 1
abbrev A1W:Ty:=.ref 1
abbrev A1X:Ty:=.ref 1
abbrev A1Y:Ty:=.ref 1
abbrev A1Z:Ty:=.ref 1
abbrev A20:Ty:=.ref 1
abbrev A21:Ty:=.agg (.prod T9 (T9))
abbrev Zu:Ty:=.agg (.prod T9 (T9))
abbrev NN:Ty:=.int .u64
abbrev A22:Ty:=.ref 1
abbrev A23:Ty:=.ref 1
abbrev A24:Ty:=.ref 1
abbrev A25:Ty:=.ref 1
abbrev A26:Ty:=.ref 2
abbrev A27:Ty:=.ref 1
abbrev A28:Ty:=.ref 1
abbrev A29:Ty:=.ref 1
abbrev A2a:Ty:=.ref 1
abbrev A2b:Ty:=.ref 1
abbrev A0y:Ty:=.agg (.prod T3 (T3))
abbrev A2c:Ty:=.slice A0y
abbrev A2d:Ty:=.ref 1
abbrev A2e:Ty:=.ref 1
abbrev A2f:Ty:=.ref 1
abbrev A2g:Ty:=.ref 1
abbrev A2h:Ty:=.ref 1
abbrev A2i:Ty:=.ref 1
abbrev A2j:Ty:=.ref 1
abbrev A2k:Ty:=.ref 1
abbrev A2l:Ty:=.ref 1
abbrev A2m:Ty:=.ref 1
abbrev A2n:Ty:=.ref 1
abbrev A2o:Ty:=.ref 1
abbrev A2p:Ty:=.ref 1
abbrev A2q:Ty:=.ref 1
abbrev A2r:Ty:=.ref 1
abbrev A2s:Ty:=.ref 1
abbrev A2t:Ty:=.ref 1
abbrev A2u:Ty:=.ref 1
abbrev A2v:Ty:=.ref 1
abbrev A2w:Ty:=.ref 1
abbrev A2x:Ty:=.ref 1
abbrev A2y:Ty:=.ref 1
abbrev A2z:Ty:=.ref 1
abbrev A2A:Ty:=.int .u64
abbrev A2B:Ty:=.ref 1
abbrev A2C:Ty:=.ref 1
abbrev A2D:Ty:=.ref 1
abbrev A2E:Ty:=.ref 1
abbrev A2F:Ty:=.ref 1
abbrev A2G:Ty:=.ref 1
abbrev A2H:Ty:=.ref 1
abbrev A2I:Ty:=.ref 1
abbrev A2J:Ty:=.ref 1
abbrev A2K:Ty:=.int .i64
abbrev A2L:Ty:=.ref 1
abbrev A2M:Ty:=.ref 1
abbrev A2N:Ty:=.ref 1
abbrev A2O:Ty:=.ref 1
abbrev A2P:Ty:=.ref 1
abbrev A2Q:Ty:=.int .u32
abbrev A2R:Ty:=.ref 1
abbrev A2S:Ty:=.ref 1
abbrev A2T:Ty:=.ref 1
abbrev A2U:Ty:=.int .u64
abbrev A2V:Ty:=.ref 1
abbrev A2W:Ty:=.ref 1
abbrev A2X:Ty:=.ref 1
abbrev A2Y:Ty:=.ref 0
abbrev A2Z:Ty:=.ref 1
abbrev A30:Ty:=.ref 0
abbrev A31:Ty:=.ref 1
abbrev A32:Ty:=.ref 1
abbrev A33:Ty:=.ref 1
abbrev A34:Ty:=.ref 1
abbrev A35:Ty:=.ref 0
abbrev TV:Ty:=.slice p7
abbrev IT:Ty:=.slice BD
abbrev T48:Ty:=.agg (.prod T3 (IT))
abbrev Lr:Ty:=.agg (.prod T3 (IT))
abbrev T80:Ty:=.slice NN
abbrev Dh:Ty:=.slice NN
abbrev Xl:Ty:=.slice T87
abbrev T83:Ty:=.agg (.prod T9 (.prod Dh (.prod IJ (Xl))))
abbrev T84:Ty:=.agg (.prod T9 (.prod Dh (.prod IJ (Xl))))
abbrev A36:Ty:=.agg (.prod T9 (Dh))
abbrev V3:Ty:=.agg (.prod T9 (Dh))
abbrev Xm:Ty:=.slice Zu
abbrev A37:Ty:=.agg (.prod T9 (.prod Bt (Xm)))
abbrev lG:Ty:=.agg (.prod T9 (.prod Bt (Xm)))
abbrev vN:Ty:=.slice IT
abbrev Qc:Ty:=.slice Dh
abbrev Ef:Ty:=.slice lG
abbrev Fq:Ty:=.slice Lr
abbrev T24:Ty:=.agg (Fq)
abbrev Fs:Ty:=.agg (Fq)
abbrev Qy:Ty:=.slice T84
abbrev T30:Ty:=.agg (.prod Qy (TV))
abbrev Ls:Ty:=.agg (.prod Qy (TV))
abbrev z1:Ty:=.slice Xl
abbrev T55:Ty:=.agg (.prod Fs (.prod Fs (Fs)))
abbrev T58:Ty:=.slice Fs
abbrev T61:Ty:=.agg (.prod Fs (.prod IJ (Fs)))
abbrev T62:Ty:=.agg (.prod Fs (.prod IJ (Fs)))
abbrev T73:Ty:=.agg (.prod Ls (.prod IJ (IJ)))
abbrev T74:Ty:=.agg (.prod Ls (.prod IJ (IJ)))
abbrev Iu:Ty:=.slice V3
abbrev A38:Ty:=.agg (.prod Fs (.prod IJ (IJ)))
abbrev A39:Ty:=.agg (.prod Fs (.prod IJ (IJ)))
abbrev A3a:Ty:=.agg (.prod Ls (.prod IJ (.prod IJ (vN))))
abbrev A3b:Ty:=.agg (.prod Ls (.prod IJ (.prod IJ (vN))))
set_option maxRecDepth 100000
def AI:List (Nat×TI):=[(1,⟨T1,[],0,8⟩),
 (2,⟨T2,[],0,8⟩),
 (3,⟨T3,[],0,8⟩),
 (4,⟨T4,[],0,1⟩),
 (5,⟨T5,[],0,1⟩),
 (9,⟨T9,[],0,16⟩),
 (12,⟨T12,[],0,8⟩),
 (21,⟨T21,[],0,4⟩),
 (22,⟨Ef,[],111,24⟩),
 (23,⟨Fq,[],49,24⟩),
 (24,⟨T24,[(0,1)],0,24⟩),
 (25,⟨Fs,[(0,1)],0,24⟩),
 (26,⟨T26,[],0,8⟩),
 (27,⟨T27,[],0,8⟩),
 (28,⟨Qy,[],84,24⟩),
 (29,⟨TV,[],116,24⟩),
 (30,⟨T30,[(0,1),(1,1)],0,48⟩),
 (31,⟨Ls,[(0,1),(1,1)],0,48⟩),
 (32,⟨T32,[],0,8⟩),
 (33,⟨TU,[],0,8⟩),
 (34,⟨T34,[],0,8⟩),
 (35,⟨T35,[],0,8⟩),
 (36,⟨T36,[],0,8⟩),
 (38,⟨T38,[],0,8⟩),
 (39,⟨T39,[],0,8⟩),
 (41,⟨T41,[],0,8⟩),
 (42,⟨T42,[],0,8⟩),
 (43,⟨T43,[],0,8⟩),
 (44,⟨T44,[],0,8⟩),
 (45,⟨z1,[],82,24⟩),
 (46,⟨T46,[],0,8⟩),
 (47,⟨IT,[],53,24⟩),
 (48,⟨T48,[(0,1),(1,1)],0,32⟩),
 (49,⟨Lr,[(0,1),(1,1)],0,32⟩),
 (51,⟨T51,[],0,8⟩),
 (52,⟨T52,[(0,1),(1,1)],0,16⟩),
 (53,⟨BD,[(0,1),(1,1)],0,16⟩),
 (54,⟨T54,[],0,8⟩),
 (55,⟨T55,[(0,1),(1,1),(2,1)],25,72⟩),
 (56,⟨T56,[],0,8⟩),
 (57,⟨T57,[],0,8⟩),
 (58,⟨T58,[],25,24⟩),
 (59,⟨T59,[],0,8⟩),
 (60,⟨IJ,[],3,24⟩),
 (61,⟨T61,[(0,1),(1,1),(2,1)],0,72⟩),
 (62,⟨T62,[(0,1),(1,1),(2,1)],0,72⟩),
 (63,⟨T63,[],0,8⟩),
 (64,⟨T64,[],0,8⟩),
 (65,⟨T65,[],0,8⟩),
 (66,⟨T66,[],0,8⟩),
 (67,⟨T67,[],0,8⟩),
 (69,⟨T69,[],0,8⟩),
 (70,⟨T70,[],0,8⟩),
 (71,⟨T71,[],0,8⟩),
 (72,⟨T72,[],0,8⟩),
 (73,⟨T73,[(0,2),(2,1),(3,1)],0,96⟩),
 (74,⟨T74,[(0,2),(2,1),(3,1)],0,96⟩),
 (75,⟨T75,[],0,8⟩),
 (76,⟨T76,[],0,8⟩),
 (77,⟨T77,[],0,8⟩),
 (78,⟨T78,[],0,8⟩),
 (79,⟨T79,[],0,8⟩),
 (80,⟨T80,[],155,24⟩),
 (81,⟨Dh,[],155,24⟩),
 (82,⟨Xl,[],87,24⟩),
 (83,⟨T83,[(0,1),(1,1),(2,1),(3,1)],0,88⟩),
 (84,⟨T84,[(0,1),(1,1),(2,1),(3,1)],0,88⟩),
 (85,⟨T85,[],0,8⟩),
 (86,⟨T86,[(0,1),(1,1)],0,16⟩),
 (87,⟨T87,[(0,1),(1,1)],0,16⟩),
 (88,⟨T88,[],0,8⟩),
 (89,⟨T89,[],0,8⟩),
 (90,⟨T90,[],0,8⟩),
 (91,⟨T91,[],0,8⟩),
 (92,⟨T92,[],0,8⟩),
 (94,⟨T94,[],0,8⟩),
 (95,⟨T95,[(3,4)],0,8⟩),
 (96,⟨T96,[],0,8⟩),
 (97,⟨T97,[],0,8⟩),
 (99,⟨T99,[],0,8⟩),
 (100,⟨Iu,[],104,24⟩),
 (102,⟨A1s,[],0,8⟩),
 (103,⟨A36,[(0,1),(1,1)],0,40⟩),
 (104,⟨V3,[(0,1),(1,1)],0,40⟩),
 (105,⟨A1t,[],0,8⟩),
 (107,⟨A1u,[],0,8⟩),
 (108,⟨Bt,[],9,24⟩),
 (109,⟨Xm,[],154,24⟩),
 (110,⟨A37,[(0,1),(1,1),(2,1)],0,64⟩),
 (111,⟨lG,[(0,1),(1,1),(2,1)],0,64⟩),
 (112,⟨A1v,[],0,8⟩),
 (113,⟨A1w,[],0,8⟩),
 (114,⟨A1x,[],0,8⟩),
 (115,⟨A1y,[(0,1),(1,1)],0,24⟩),
 (116,⟨p7,[(0,1),(1,1)],0,24⟩),
 (117,⟨A1z,[],0,8⟩),
 (118,⟨A1A,[],0,8⟩),
 (119,⟨A1B,[],0,8⟩),
 (120,⟨A1C,[],4,24⟩),
 (121,⟨A1D,[],0,8⟩),
 (122,⟨A38,[(0,1),(1,1),(2,1)],0,72⟩),
 (123,⟨A39,[(0,1),(1,1),(2,1)],0,72⟩),
 (124,⟨A1E,[],0,8⟩),
 (125,⟨A1F,[],0,8⟩),
 (126,⟨A1G,[],0,8⟩),
 (127,⟨A1H,[],0,8⟩),
 (128,⟨vN,[],47,24⟩),
 (129,⟨A3a,[(0,2),(2,1),(3,1),(4,1)],0,120⟩),
 (130,⟨A3b,[(0,2),(2,1),(3,1),(4,1)],0,120⟩),
 (131,⟨A1I,[],0,8⟩),
 (132,⟨A1J,[],0,8⟩),
 (133,⟨A1K,[],0,8⟩),
 (134,⟨A1L,[],0,8⟩),
 (135,⟨A1M,[],0,8⟩),
 (136,⟨A1N,[],0,8⟩),
 (137,⟨A1O,[],0,8⟩),
 (138,⟨A1P,[],0,8⟩),
 (139,⟨A1Q,[],0,8⟩),
 (140,⟨A1R,[],0,8⟩),
 (142,⟨A1S,[],0,8⟩),
 (143,⟨A1T,[],0,8⟩),
 (144,⟨Qc,[],81,24⟩),
 (145,⟨A1U,[],0,8⟩),
 (146,⟨A1V,[],0,8⟩),
 (147,⟨A1W,[],0,8⟩),
 (148,⟨A1X,[],0,8⟩),
 (149,⟨A1Y,[],0,8⟩),
 (151,⟨A1Z,[],0,8⟩),
 (152,⟨A20,[],0,8⟩),
 (153,⟨A21,[(0,1),(1,1)],0,32⟩),
 (154,⟨Zu,[(0,1),(1,1)],0,32⟩),
 (155,⟨NN,[],0,8⟩),
 (156,⟨A22,[],0,8⟩),
 (157,⟨A23,[],0,8⟩),
 (158,⟨A24,[],0,8⟩),
 (159,⟨A25,[],0,8⟩),
 (160,⟨A26,[(3,3)],0,8⟩),
 (161,⟨A27,[],0,8⟩),
 (162,⟨A28,[],0,8⟩),
 (163,⟨A29,[],0,8⟩),
 (164,⟨A2a,[],0,8⟩),
 (165,⟨A2b,[],0,8⟩),
 (166,⟨A0y,[(0,1),(1,1)],3,16⟩),
 (167,⟨A2c,[],166,24⟩),
 (168,⟨A2d,[],0,8⟩),
 (169,⟨A2e,[],0,8⟩),
 (170,⟨A2f,[],0,8⟩),
 (171,⟨A2g,[],0,8⟩),
 (172,⟨A2h,[],0,8⟩),
 (173,⟨A2i,[],0,8⟩),
 (174,⟨A2j,[],0,8⟩),
 (176,⟨A2k,[],0,8⟩),
 (177,⟨A2l,[],0,8⟩),
 (178,⟨A2m,[],0,8⟩),
 (179,⟨A2n,[],0,8⟩),
 (180,⟨A2o,[],0,8⟩),
 (181,⟨A2p,[],0,8⟩),
 (182,⟨A2q,[],0,8⟩),
 (183,⟨A2r,[],0,8⟩),
 (184,⟨A2s,[],0,8⟩),
 (185,⟨A2t,[],0,8⟩),
 (186,⟨A2u,[],0,8⟩),
 (187,⟨A2v,[],0,8⟩),
 (188,⟨A2w,[],0,8⟩),
 (189,⟨A2x,[],0,8⟩),
 (190,⟨A2y,[],0,8⟩),
 (191,⟨A2z,[],0,8⟩),
 (192,⟨A2A,[],0,8⟩),
 (193,⟨A2B,[],0,8⟩),
 (194,⟨A2C,[],0,8⟩),
 (195,⟨A2D,[],0,8⟩),
 (196,⟨A2E,[],0,8⟩),
 (197,⟨A2F,[],0,8⟩),
 (198,⟨A2G,[],0,8⟩),
 (199,⟨A2H,[],0,8⟩),
 (200,⟨A2I,[],0,8⟩),
 (201,⟨A2J,[],0,8⟩),
 (202,⟨A2K,[],0,8⟩),
 (204,⟨A2L,[],0,8⟩),
 (205,⟨A2M,[],0,8⟩),
 (206,⟨A2N,[],0,8⟩),
 (207,⟨A2O,[],0,8⟩),
 (208,⟨A2P,[],0,8⟩),
 (209,⟨A2Q,[],0,4⟩),
 (210,⟨A2R,[],0,8⟩),
 (211,⟨A2S,[],0,8⟩),
 (212,⟨A2T,[],0,8⟩),
 (213,⟨A2U,[],0,8⟩),
 (214,⟨A2V,[],0,8⟩),
 (215,⟨A2W,[],0,8⟩),
 (216,⟨A2X,[],0,8⟩),
 (217,⟨A2Y,[],0,8⟩),
 (218,⟨A2Z,[],0,8⟩),
 (219,⟨A30,[],0,8⟩),
 (221,⟨A31,[],0,8⟩),
 (222,⟨A32,[],0,8⟩),
 (228,⟨A33,[],0,8⟩),
 (231,⟨A34,[],0,8⟩),
 (232,⟨A35,[],0,8⟩)]
theorem tyTab_ok (f) (a:List Nat) (b:List Nat:=[]) (ne:List (Nat×TypeId):=[]):Cg Tryz.prog ⟨AI,f,b,ne,a⟩:=uH (by kernel_rfl)
theorem drawsAny:Tryz.prog.follows .mixedOrders=true:=by kernel_rfl
theorem IU:lk 1 AI=some ⟨T1,[],0,8⟩:=rfl
theorem dD:lk 2 AI=some ⟨T2,[],0,8⟩:=rfl
theorem ty3:lk 3 AI=some ⟨T3,[],0,8⟩:=rfl
theorem ty4:lk 4 AI=some ⟨T4,[],0,1⟩:=rfl
theorem ty5:lk 5 AI=some ⟨T5,[],0,1⟩:=rfl
theorem ty9:lk 9 AI=some ⟨T9,[],0,16⟩:=rfl
theorem vO:lk 12 AI=some ⟨T12,[],0,8⟩:=rfl
theorem vP:lk 21 AI=some ⟨T21,[],0,4⟩:=rfl
theorem vQ:lk 22 AI=some ⟨Ef,[],111,24⟩:=rfl
theorem vR:lk 23 AI=some ⟨Fq,[],49,24⟩:=rfl
theorem vS:lk 24 AI=some ⟨T24,[(0,1)],0,24⟩:=rfl
theorem vT:lk 25 AI=some ⟨Fs,[(0,1)],0,24⟩:=rfl
theorem vU:lk 26 AI=some ⟨T26,[],0,8⟩:=rfl
theorem vV:lk 27 AI=some ⟨T27,[],0,8⟩:=rfl
theorem vW:lk 28 AI=some ⟨Qy,[],84,24⟩:=rfl
theorem vX:lk 29 AI=some ⟨TV,[],116,24⟩:=rfl
theorem vY:lk 30 AI=some ⟨T30,[(0,1),(1,1)],0,48⟩:=rfl
theorem vZ:lk 31 AI=some ⟨Ls,[(0,1),(1,1)],0,48⟩:=rfl
theorem v4:lk 32 AI=some ⟨T32,[],0,8⟩:=rfl
theorem v5:lk 33 AI=some ⟨TU,[],0,8⟩:=rfl
theorem v6:lk 34 AI=some ⟨T34,[],0,8⟩:=rfl
theorem v7:lk 35 AI=some ⟨T35,[],0,8⟩:=rfl
theorem v8:lk 36 AI=some ⟨T36,[],0,8⟩:=rfl
theorem v9:lk 38 AI=some ⟨T38,[],0,8⟩:=rfl
theorem wA:lk 39 AI=some ⟨T39,[],0,8⟩:=rfl
theorem wB:lk 41 AI=some ⟨T41,[],0,8⟩:=rfl
theorem wC:lk 42 AI=some ⟨T42,[],0,8⟩:=rfl
theorem wD:lk 43 AI=some ⟨T43,[],0,8⟩:=rfl
theorem wE:lk 44 AI=some ⟨T44,[],0,8⟩:=rfl
theorem wF:lk 45 AI=some ⟨z1,[],82,24⟩:=rfl
theorem wG:lk 46 AI=some ⟨T46,[],0,8⟩:=rfl
theorem wH:lk 47 AI=some ⟨IT,[],53,24⟩:=rfl
theorem wI:lk 48 AI=some ⟨T48,[(0,1),(1,1)],0,32⟩:=rfl
theorem wJ:lk 49 AI=some ⟨Lr,[(0,1),(1,1)],0,32⟩:=rfl
theorem wK:lk 51 AI=some ⟨T51,[],0,8⟩:=rfl
theorem wL:lk 52 AI=some ⟨T52,[(0,1),(1,1)],0,16⟩:=rfl
theorem wM:lk 53 AI=some ⟨BD,[(0,1),(1,1)],0,16⟩:=rfl
theorem wN:lk 54 AI=some ⟨T54,[],0,8⟩:=rfl
theorem wO:lk 55 AI=some ⟨T55,[(0,1),(1,1),(2,1)],25,72⟩:=rfl
theorem wP:lk 56 AI=some ⟨T56,[],0,8⟩:=rfl
theorem wQ:lk 57 AI=some ⟨T57,[],0,8⟩:=rfl
theorem wR:lk 58 AI=some ⟨T58,[],25,24⟩:=rfl
theorem wS:lk 59 AI=some ⟨T59,[],0,8⟩:=rfl
theorem wT:lk 60 AI=some ⟨IJ,[],3,24⟩:=rfl
theorem wU:lk 61 AI=some ⟨T61,[(0,1),(1,1),(2,1)],0,72⟩:=rfl
theorem wV:lk 62 AI=some ⟨T62,[(0,1),(1,1),(2,1)],0,72⟩:=rfl
theorem wW:lk 63 AI=some ⟨T63,[],0,8⟩:=rfl
theorem wX:lk 64 AI=some ⟨T64,[],0,8⟩:=rfl
theorem wY:lk 65 AI=some ⟨T65,[],0,8⟩:=rfl
theorem wZ:lk 66 AI=some ⟨T66,[],0,8⟩:=rfl
theorem w3:lk 67 AI=some ⟨T67,[],0,8⟩:=rfl
theorem w4:lk 69 AI=some ⟨T69,[],0,8⟩:=rfl
theorem w5:lk 70 AI=some ⟨T70,[],0,8⟩:=rfl
theorem w7:lk 71 AI=some ⟨T71,[],0,8⟩:=rfl
theorem w8:lk 72 AI=some ⟨T72,[],0,8⟩:=rfl
theorem w9:lk 73 AI=some ⟨T73,[(0,2),(2,1),(3,1)],0,96⟩:=rfl
theorem xA:lk 74 AI=some ⟨T74,[(0,2),(2,1),(3,1)],0,96⟩:=rfl
theorem xB:lk 75 AI=some ⟨T75,[],0,8⟩:=rfl
theorem xC:lk 76 AI=some ⟨T76,[],0,8⟩:=rfl
theorem xD:lk 77 AI=some ⟨T77,[],0,8⟩:=rfl
theorem xE:lk 78 AI=some ⟨T78,[],0,8⟩:=rfl
theorem xF:lk 79 AI=some ⟨T79,[],0,8⟩:=rfl
theorem xG:lk 80 AI=some ⟨T80,[],155,24⟩:=rfl
theorem xH:lk 81 AI=some ⟨Dh,[],155,24⟩:=rfl
theorem xI:lk 82 AI=some ⟨Xl,[],87,24⟩:=rfl
theorem xJ:lk 83 AI=some ⟨T83,[(0,1),(1,1),(2,1),(3,1)],0,88⟩:=rfl
theorem xK:lk 84 AI=some ⟨T84,[(0,1),(1,1),(2,1),(3,1)],0,88⟩:=rfl
theorem xL:lk 85 AI=some ⟨T85,[],0,8⟩:=rfl
theorem xM:lk 86 AI=some ⟨T86,[(0,1),(1,1)],0,16⟩:=rfl
theorem xN:lk 87 AI=some ⟨T87,[(0,1),(1,1)],0,16⟩:=rfl
theorem xO:lk 88 AI=some ⟨T88,[],0,8⟩:=rfl
theorem xP:lk 89 AI=some ⟨T89,[],0,8⟩:=rfl
theorem xQ:lk 90 AI=some ⟨T90,[],0,8⟩:=rfl
theorem xR:lk 91 AI=some ⟨T91,[],0,8⟩:=rfl
theorem xS:lk 92 AI=some ⟨T92,[],0,8⟩:=rfl
theorem xT:lk 94 AI=some ⟨T94,[],0,8⟩:=rfl
theorem xU:lk 95 AI=some ⟨T95,[(3,4)],0,8⟩:=rfl
theorem xV:lk 96 AI=some ⟨T96,[],0,8⟩:=rfl
theorem xW:lk 97 AI=some ⟨T97,[],0,8⟩:=rfl
theorem xX:lk 99 AI=some ⟨T99,[],0,8⟩:=rfl
theorem dE:lk 100 AI=some ⟨Iu,[],104,24⟩:=rfl
theorem dF:lk 102 AI=some ⟨A1s,[],0,8⟩:=rfl
theorem dG:lk 103 AI=some ⟨A36,[(0,1),(1,1)],0,40⟩:=rfl
theorem dH:lk 104 AI=some ⟨V3,[(0,1),(1,1)],0,40⟩:=rfl
theorem dI:lk 105 AI=some ⟨A1t,[],0,8⟩:=rfl
theorem dJ:lk 107 AI=some ⟨A1u,[],0,8⟩:=rfl
theorem dK:lk 108 AI=some ⟨Bt,[],9,24⟩:=rfl
theorem dL:lk 109 AI=some ⟨Xm,[],154,24⟩:=rfl
theorem dM:lk 110 AI=some ⟨A37,[(0,1),(1,1),(2,1)],0,64⟩:=rfl
theorem dN:lk 111 AI=some ⟨lG,[(0,1),(1,1),(2,1)],0,64⟩:=rfl
theorem dP:lk 112 AI=some ⟨A1v,[],0,8⟩:=rfl
theorem dQ:lk 113 AI=some ⟨A1w,[],0,8⟩:=rfl
theorem dR:lk 114 AI=some ⟨A1x,[],0,8⟩:=rfl
theorem dS:lk 115 AI=some ⟨A1y,[(0,1),(1,1)],0,24⟩:=rfl
theorem dT:lk 116 AI=some ⟨p7,[(0,1),(1,1)],0,24⟩:=rfl
theorem dU:lk 117 AI=some ⟨A1z,[],0,8⟩:=rfl
theorem dV:lk 118 AI=some ⟨A1A,[],0,8⟩:=rfl
theorem dW:lk 119 AI=some ⟨A1B,[],0,8⟩:=rfl
theorem dX:lk 120 AI=some ⟨A1C,[],4,24⟩:=rfl
theorem dY:lk 121 AI=some ⟨A1D,[],0,8⟩:=rfl
theorem dZ:lk 122 AI=some ⟨A38,[(0,1),(1,1),(2,1)],0,72⟩:=rfl
theorem d3:lk 123 AI=some ⟨A39,[(0,1),(1,1),(2,1)],0,72⟩:=rfl
theorem d4:lk 124 AI=some ⟨A1E,[],0,8⟩:=rfl
theorem d5:lk 125 AI=some ⟨A1F,[],0,8⟩:=rfl
theorem d6:lk 126 AI=some ⟨A1G,[],0,8⟩:=rfl
theorem d7:lk 127 AI=some ⟨A1H,[],0,8⟩:=rfl
theorem d8:lk 128 AI=some ⟨vN,[],47,24⟩:=rfl
theorem d9:lk 129 AI=some ⟨A3a,[(0,2),(2,1),(3,1),(4,1)],0,120⟩:=rfl
theorem eA:lk 130 AI=some ⟨A3b,[(0,2),(2,1),(3,1),(4,1)],0,120⟩:=rfl
theorem eB:lk 131 AI=some ⟨A1I,[],0,8⟩:=rfl
theorem eC:lk 132 AI=some ⟨A1J,[],0,8⟩:=rfl
theorem eD:lk 133 AI=some ⟨A1K,[],0,8⟩:=rfl
theorem eE:lk 134 AI=some ⟨A1L,[],0,8⟩:=rfl
theorem eF:lk 135 AI=some ⟨A1M,[],0,8⟩:=rfl
theorem eG:lk 136 AI=some ⟨A1N,[],0,8⟩:=rfl
theorem eH:lk 137 AI=some ⟨A1O,[],0,8⟩:=rfl
theorem eI:lk 138 AI=some ⟨A1P,[],0,8⟩:=rfl
theorem eJ:lk 139 AI=some ⟨A1Q,[],0,8⟩:=rfl
theorem eK:lk 140 AI=some ⟨A1R,[],0,8⟩:=rfl
theorem eL:lk 142 AI=some ⟨A1S,[],0,8⟩:=rfl
theorem eO:lk 143 AI=some ⟨A1T,[],0,8⟩:=rfl
theorem eP:lk 144 AI=some ⟨Qc,[],81,24⟩:=rfl
theorem eQ:lk 145 AI=some ⟨A1U,[],0,8⟩:=rfl
theorem eU:lk 146 AI=some ⟨A1V,[],0,8⟩:=rfl
theorem eW:lk 147 AI=some ⟨A1W,[],0,8⟩:=rfl
theorem eX:lk 148 AI=some ⟨A1X,[],0,8⟩:=rfl
theorem eY:lk 149 AI=some ⟨A1Y,[],0,8⟩:=rfl
theorem eZ:lk 151 AI=some ⟨A1Z,[],0,8⟩:=rfl
theorem e7:lk 152 AI=some ⟨A20,[],0,8⟩:=rfl
theorem e9:lk 153 AI=some ⟨A21,[(0,1),(1,1)],0,32⟩:=rfl
theorem fA:lk 154 AI=some ⟨Zu,[(0,1),(1,1)],0,32⟩:=rfl
theorem fB:lk 155 AI=some ⟨NN,[],0,8⟩:=rfl
theorem fC:lk 156 AI=some ⟨A22,[],0,8⟩:=rfl
theorem fD:lk 157 AI=some ⟨A23,[],0,8⟩:=rfl
theorem fE:lk 158 AI=some ⟨A24,[],0,8⟩:=rfl
theorem fF:lk 159 AI=some ⟨A25,[],0,8⟩:=rfl
theorem fG:lk 160 AI=some ⟨A26,[(3,3)],0,8⟩:=rfl
theorem fH:lk 161 AI=some ⟨A27,[],0,8⟩:=rfl
theorem fJ:lk 162 AI=some ⟨A28,[],0,8⟩:=rfl
theorem fL:lk 163 AI=some ⟨A29,[],0,8⟩:=rfl
theorem fN:lk 164 AI=some ⟨A2a,[],0,8⟩:=rfl
theorem fO:lk 165 AI=some ⟨A2b,[],0,8⟩:=rfl
theorem fP:lk 166 AI=some ⟨A0y,[(0,1),(1,1)],3,16⟩:=rfl
theorem fQ:lk 167 AI=some ⟨A2c,[],166,24⟩:=rfl
theorem fR:lk 168 AI=some ⟨A2d,[],0,8⟩:=rfl
theorem fS:lk 169 AI=some ⟨A2e,[],0,8⟩:=rfl
theorem fT:lk 170 AI=some ⟨A2f,[],0,8⟩:=rfl
theorem fU:lk 171 AI=some ⟨A2g,[],0,8⟩:=rfl
theorem fV:lk 172 AI=some ⟨A2h,[],0,8⟩:=rfl
theorem fW:lk 173 AI=some ⟨A2i,[],0,8⟩:=rfl
theorem fX:lk 174 AI=some ⟨A2j,[],0,8⟩:=rfl
theorem fY:lk 176 AI=some ⟨A2k,[],0,8⟩:=rfl
theorem fZ:lk 177 AI=some ⟨A2l,[],0,8⟩:=rfl
theorem f2:lk 178 AI=some ⟨A2m,[],0,8⟩:=rfl
theorem f3:lk 179 AI=some ⟨A2n,[],0,8⟩:=rfl
theorem f5:lk 180 AI=some ⟨A2o,[],0,8⟩:=rfl
theorem f6:lk 181 AI=some ⟨A2p,[],0,8⟩:=rfl
theorem f7:lk 182 AI=some ⟨A2q,[],0,8⟩:=rfl
theorem f8:lk 183 AI=some ⟨A2r,[],0,8⟩:=rfl
theorem f9:lk 184 AI=some ⟨A2s,[],0,8⟩:=rfl
theorem gA:lk 185 AI=some ⟨A2t,[],0,8⟩:=rfl
theorem gB:lk 186 AI=some ⟨A2u,[],0,8⟩:=rfl
theorem gC:lk 187 AI=some ⟨A2v,[],0,8⟩:=rfl
theorem gD:lk 188 AI=some ⟨A2w,[],0,8⟩:=rfl
theorem gE:lk 189 AI=some ⟨A2x,[],0,8⟩:=rfl
theorem gF:lk 190 AI=some ⟨A2y,[],0,8⟩:=rfl
theorem gG:lk 191 AI=some ⟨A2z,[],0,8⟩:=rfl
theorem gH:lk 192 AI=some ⟨A2A,[],0,8⟩:=rfl
theorem gI:lk 193 AI=some ⟨A2B,[],0,8⟩:=rfl
theorem gJ:lk 194 AI=some ⟨A2C,[],0,8⟩:=rfl
theorem gK:lk 195 AI=some ⟨A2D,[],0,8⟩:=rfl
theorem gL:lk 196 AI=some ⟨A2E,[],0,8⟩:=rfl
theorem gM:lk 197 AI=some ⟨A2F,[],0,8⟩:=rfl
theorem gN:lk 198 AI=some ⟨A2G,[],0,8⟩:=rfl
theorem gP:lk 199 AI=some ⟨A2H,[],0,8⟩:=rfl
theorem gQ:lk 200 AI=some ⟨A2I,[],0,8⟩:=rfl
theorem gR:lk 201 AI=some ⟨A2J,[],0,8⟩:=rfl
theorem gS:lk 202 AI=some ⟨A2K,[],0,8⟩:=rfl
theorem gT:lk 204 AI=some ⟨A2L,[],0,8⟩:=rfl
theorem gU:lk 205 AI=some ⟨A2M,[],0,8⟩:=rfl
theorem gV:lk 206 AI=some ⟨A2N,[],0,8⟩:=rfl
theorem gW:lk 207 AI=some ⟨A2O,[],0,8⟩:=rfl
theorem gX:lk 208 AI=some ⟨A2P,[],0,8⟩:=rfl
theorem gY:lk 209 AI=some ⟨A2Q,[],0,4⟩:=rfl
theorem gZ:lk 210 AI=some ⟨A2R,[],0,8⟩:=rfl
theorem g8:lk 211 AI=some ⟨A2S,[],0,8⟩:=rfl
theorem g9:lk 212 AI=some ⟨A2T,[],0,8⟩:=rfl
theorem hC:lk 213 AI=some ⟨A2U,[],0,8⟩:=rfl
theorem hH:lk 214 AI=some ⟨A2V,[],0,8⟩:=rfl
theorem hU:lk 215 AI=some ⟨A2W,[],0,8⟩:=rfl
theorem hZ:lk 216 AI=some ⟨A2X,[],0,8⟩:=rfl
theorem iA:lk 217 AI=some ⟨A2Y,[],0,8⟩:=rfl
theorem iB:lk 218 AI=some ⟨A2Z,[],0,8⟩:=rfl
theorem iC:lk 219 AI=some ⟨A30,[],0,8⟩:=rfl
theorem iD:lk 221 AI=some ⟨A31,[],0,8⟩:=rfl
theorem iE:lk 222 AI=some ⟨A32,[],0,8⟩:=rfl
theorem iG:lk 228 AI=some ⟨A33,[],0,8⟩:=rfl
theorem iH:lk 231 AI=some ⟨A34,[],0,8⟩:=rfl
theorem iI:lk 232 AI=some ⟨A35,[],0,8⟩:=rfl
end
section
open Go Go.RowKit
section
variable {c:Cx} {R:Exit→Act→World→Prop} {k:List DG} {σ σ':St}
theorem lH {P:Program} {tb:Tb} {t:TypeId} {ti:TI} {e:Ty} (hT:Dd P tb t ti) (c:ti.ty=.slice e) (w:World) (a:Option Addr) (n m:Nat):(Op.equal t (.slice a n m) (.slice none 0 0)).run P w=.ok a.isNone w:=by
 have b:=hT.2;rw[c]at b;exact run_equal_slice_nil w t ti.el a n m b.1
def Xn:Option TI→Bool
 | some ⟨.slice _,_,_,_⟩=>true
 | _=>false
theorem UT (g:c.Ok) {ops:Array Oper} {rest:List Oper} {d:Nat} {t:TypeId} {x:Operand} {r ty:TypeId} {pos:String} {after:Array Edge} {e:Ty} {l:List e.den} (neg:Bool)
  (G:AZ σ x=some (.p (.slice e) l)) (i:Xn (lk t c.tb.ty)=true) (hk:∀b:Bool,(b=true→l=[])→GQ c R k ops rest (σ.add (.p .bool (if neg then !b else b)) [] (some d))) :
  GQ c R k ops (⟨some d,.binOp (if neg then .neq else .eql) t x (.const (.slice none 0 0)) r,ty,pos,after,none⟩ :: rest) σ:=by
 intro n z a w F;obtain⟨ρ,q⟩:=F;have y:FK (vw w c.O0 σ ρ) σ a.eval:=DU q.env;have H:=y x _ G;obtain⟨cs,⟨ad,m,rfl,h1,N,f⟩,j⟩:=H;have j:a.eval x=.slice ad (List.length l) m:=j;unfold Xn at i;split at i
 ·rename_i M offs el bytes A;have s:=g.T _ _ A;have heq:=lH s rfl w ad (List.length l) m;unfold wpListIn;rw[BY (by simp[Region.wanted])];have D:(execOp a.eval ⟨some d,.binOp (if neg then .neq else .eql) t x (.const (.slice none 0 0)) r,ty,pos,after,none⟩).run c.P w=.ok (.value (.bool (if neg then !ad.isNone else ad.isNone))) w:=by
   have I:a.eval (.const (.slice none 0 0))=.slice none 0 0:=rfl;cases neg<;>simp[execOp,j,I,eqGuard,binOp,heq]
  refine Ag D ?_ (fun cl h=>by cases neg<;>cases h);have u:ad.isNone=true→l=[]:=fun hn=>by
   rcases f with f|⟨J,rfl,_⟩
   ·exact f
   ·simp at hn
  have C:QS w c.O0 σ ρ (.p .bool (if neg then !ad.isNone else ad.isNone)) [] (.bool (if neg then !ad.isNone else ad.isNone)) ρ w:=QS.still (BT _);have E:=q.add g.K g.O (dst:=some d) (fun L v=>by cases v;exact Bd (n _ ABh) d rfl) rfl C;exact hk ad.isNone u (fun o B=>n o (by simp[B])) z _ _ ⟨ρ,E⟩
 ·cases i
end
end
section
open Go Go.RowKit Go.ChangeShapes Go.WideShapes
set_option maxRecDepth 100000
def iJ (r:Ty→TypeId→Bool) (P:Program):Ty→Nat→List Field→Bool
 | .prod a b,o,fs=>match fs with
  | f :: fs=>f.offset==o&&P.cellsOf f.type==a.size&&r a f.type&&iJ r P b (o+a.size) fs
  | []=>false
 | s,o,[f]=>f.offset==o&&P.cellsOf f.type==s.size&&r s f.type
 | _,_,_=>false
def lI (P:Program) (m:Nat) (e:TypeId):List Field:=(List.range m).map fun i=>{ (default:Field) with offset:=i*P.cellsOf e,type:=e }
def rd (P:Program):Nat→Ty→TypeId→Bool
 | 0,_,_=>false
 | _+1,.int k,t=>isI k (P.underlying t)
 | _+1,.bool,t=>match P.underlying t with|some .bool=>true|_=>false
 | _+1,.str,t=>match P.underlying t with|some .string=>true|_=>false
 | n+1,.slice e,t=>match P.underlying t with|some (.slice et)=>decide (0<P.bytesOf et)&&P.cellsOf et==e.size&&rd P n e et|_=>false
 | n+1,.agg s,t=>match P.underlying t with|some (.struct fs)=>P.cellsOf t==s.size&&iJ (rd P n) P s 0 fs.toList|some (.array m e)=>P.cellsOf t==s.size&&iJ (rd P n) P s 0 (lI P m e)|_=>false
 | _+1,_,_=>false
theorem iK {P:Program} {n:Nat} {t:TypeId} (h:rd P (n+1) .bool t=true):P.underlying t=some .bool:=by
 simp only[rd]at h;split at h
 ·assumption
 ·cases h
theorem p8 {P:Program} {n:Nat} {t:TypeId} (h:rd P (n+1) .str t=true):P.underlying t=some .string:=by
 simp only[rd]at h;split at h
 ·assumption
 ·cases h
theorem Xo {P:Program} {n:Nat} {e:Ty} {t:TypeId} (h:rd P (n+1) (.slice e) t=true):∃et,P.underlying t=some (.slice et)∧0<P.bytesOf et∧P.cellsOf et=e.size∧rd P n e et=true:=by
 simp only[rd]at h;split at h
 ·rename_i et a;simp only[An,GO,AA0]at h;exact⟨et,a,h.1.1,h.1.2,h.2⟩
 ·cases h
theorem p9 {P:Program} {n:Nat} {s:Ty} {t:TypeId} (h:rd P (n+1) (.agg s) t=true):(∃fs,P.underlying t=some (.struct fs)∧P.cellsOf t=s.size∧iJ (rd P n) P s 0 fs.toList=true)∨∃m e,P.underlying t=some (.array m e)∧P.cellsOf t=s.size∧iJ (rd P n) P s 0 (lI P m e)=true:=by
 simp only[rd]at h;split at h
 ·rename_i fs a;simp only[An,AA0]at h;exact .inl ⟨fs,a,h.1,h.2⟩
 ·rename_i m e a;simp only[An,AA0]at h;exact .inr ⟨m,e,a,h.1,h.2⟩
 ·cases h
theorem lJ {w:World} {base:Nat} {a:Addr} {n:Nat} {cs:List Value} (h:w.cells? base a n=some cs):cs.length=n∧∀(j:Nat) (v:Value),cs[j]?=some v→w.cell? (a.add j)=some v:=by
 unfold World.cells? at h;split at h
 ·have h1:=mapM_some_length h;simp only[List.length_range]at h1;refine⟨h1,fun j v b=>?_⟩;have c:j<n:=by
   obtain⟨c,_⟩:=No.1 b;omega
  rw[mapM_some_get h j j (by simp[c]),b]
 ·cases h
section
variable {H:Type} {enc:TypeId×Value→H} {P:Program} {w:World} {spare:Nat→Bool} {held:Bool}
theorem Xp {e:TypeId}:∀ {l:List (DataW H)} {d:DataW H},d∈l→∀n∈d.weights P e,n∈DataW.weightsAll P e l
 | a :: l,d,b,n,hn=>by
  simp only[DataW.weightsAll,ON];rcases Do.1 b with rfl|b
  ·exact .inl hn
  ·exact .inr (Xp b n hn)
 | [],_,b,_,_=>by cases b
theorem UU {b:List TypeId} {a:List (DataW H)}:∀ {ts:List TypeId} {ds:List (DataW H)},∀n∈DataW.weightsEach P ts ds,n∈DataW.weightsEach P (ts++b) (ds++a)
 | t :: ts,d :: ds,n,hn=>by
  simp only[DataW.weightsEach,ABe,ON]at hn ⊢;rcases hn with hn|hn
  ·exact .inl hn
  ·exact .inr (UU n hn)
 | [],_,n,hn=>by simp[DataW.weightsEach]at hn
 | _ :: _,[],n,hn=>by simp[DataW.weightsEach]at hn
theorem UV {e:TypeId}:∀ {m:Nat} {k:Nat} {ds:List (DataW H)},∀n∈DataW.weightsEach P (((List.range' k m).map fun i=>({ (default:Field) with offset:=i*P.cellsOf e,type:=e }:Field)).map (·.type)) ds,n∈DataW.weightsAll P e ds
 | 0,_,ds,n,hn=>by simp[DataW.weightsEach]at hn
 | m+1,k,[],n,hn=>by
  rw[ACs]at hn;simp[DataW.weightsEach]at hn
 | m+1,k,d :: ds,n,hn=>by
  rw[ACs]at hn;simp only[tO,DataW.weightsEach,ON]at hn;simp only[DataW.weightsAll,ON];rcases hn with hn|hn
  ·exact .inl hn
  ·exact .inr (UV n hn)
theorem QA {n:Nat} {r:Ty→TypeId→Bool}
  (A:∀ty t,r ty t=true→∀(cs:List Value) (x:DataW H×List MemPlace),DataW.trod enc P w 0 spare held n t cs=some x→(∀b∈x.1.weights P t,b≤reachBytes)→∃d:ty.den,Be w (fun _=>False) ty cs d) (cs:List Value) :
  ∀(s:Ty) (o:Nat) (fs:List Field),iJ r P s o fs=true→∀xs:List (DataW H×List MemPlace),xs.length=fs.length →
   (∀(i:Nat) (f:Field),fs[i]?=some f→DataW.trod enc P w 0 spare held n f.type ((cs.drop f.offset).take (P.cellsOf f.type))=xs[i]?) →
   (∀b∈DataW.weightsEach P (fs.map (·.type)) (xs.map (·.1)),b≤reachBytes)→∃d:s.den,Be w (fun _=>False) s ((cs.drop o).take s.size) d:=by
 have one:∀(s:Ty) (o:Nat) (f:Field),(f.offset==o&&P.cellsOf f.type==s.size&&r s f.type)=true→∀x:DataW H×List MemPlace,
   DataW.trod enc P w 0 spare held n f.type ((cs.drop f.offset).take (P.cellsOf f.type))=some x →
   (∀b∈x.1.weights P f.type,b≤reachBytes)→∃d:s.den,Be w (fun _=>False) s ((cs.drop o).take s.size) d:=by
  intro s o f h x j c;simp only[An,AA0]at h;obtain⟨⟨rfl,p⟩,q⟩:=h;rw[←p];exact A s f.type q _ x j c
 have lone:∀(s:Ty) (o:Nat) (f:Field),(f.offset==o&&P.cellsOf f.type==s.size&&r s f.type)=true→∀xs:List (DataW H×List MemPlace),xs.length=[f].length →
   (∀(i:Nat) (g:Field),[f][i]?=some g→DataW.trod enc P w 0 spare held n g.type ((cs.drop g.offset).take (P.cellsOf g.type))=xs[i]?) →
   (∀b∈DataW.weightsEach P ([f].map (·.type)) (xs.map (·.1)),b≤reachBytes)→∃d:s.den,Be w (fun _=>False) s ((cs.drop o).take s.size) d:=by
  intro s o f h xs m j c;obtain⟨x,rfl⟩:∃x,xs=[x]:=AAJ.1 (by simpa using m);exact one s o f h x (j 0 f rfl) (fun b l=>c b (by simp[DataW.weightsEach,l]))
 intro s;induction s with
 | prod a b E B =>
  intro o fs h xs m j c;cases fs with
  | nil=>simp[iJ]at h
  | cons f fs =>
   simp only[iJ,An]at h;obtain⟨⟨⟨h1,p⟩,q⟩,y⟩:=h;obtain⟨x,ys,rfl⟩:∃x ys,xs=x :: ys:=List.exists_cons_of_ne_nil (by intro h;subst h;simp at m);obtain⟨u,C⟩:=one a o f (by simp only[h1,p,q,Bool.and_self]) x (j 0 f rfl) (fun b l=>c b (by
     simp only[tO,DataW.weightsEach,ON];exact .inl l))
   obtain⟨v,D⟩:=B (o+a.size) fs y ys (by simpa using m) (fun i g z=>j (i+1) g z) (fun b l=>c b (by
     simp only[tO,DataW.weightsEach,ON];exact .inr l))
   refine⟨(u,v),(cs.drop o).take a.size,(cs.drop (o+a.size)).take b.size,?_,C,D⟩;show (cs.drop o).take (a.size+b.size)=_;rw[List.take_add,ABD]
 | int k=>intro o fs h;match fs,h with|[f],h=>exact lone _ o f (by simpa only[iJ] using h)
 | bool=>intro o fs h;match fs,h with|[f],h=>exact lone _ o f (by simpa only[iJ] using h)
 | str=>intro o fs h;match fs,h with|[f],h=>exact lone _ o f (by simpa only[iJ] using h)
 | slice e _=>intro o fs h;match fs,h with|[f],h=>exact lone _ o f (by simpa only[iJ] using h)
 | agg t _=>intro o fs h;match fs,h with|[f],h=>exact lone _ o f (by simpa only[iJ] using h)
 | ref k=>intro o fs h;match fs,h with|[f],h=>exact lone _ o f (by simpa only[iJ] using h)
theorem qA:∀(k:Nat) (ty:Ty) (t:TypeId),rd P k ty t=true→∀(n:Nat) (cs:List Value) (x:DataW H×List MemPlace),
  DataW.trod enc P w 0 spare held n t cs=some x→(∀b∈x.1.weights P t,b≤reachBytes)→∃d:ty.den,Be w (fun _=>False) ty cs d:=by
 intro k;induction k with
 | zero=>intro ty t h;simp[rd]at h
 | succ k C =>
  intro ty t h n cs x c o;cases ty with
  | int q =>
   have g:=Vg (by simpa only[rd] using h);obtain⟨m,rfl,rfl,G⟩:=DataW.trod_int g c;simp only[Lit.wf,An,GO]at G;exact⟨m,rfl,G⟩
  | bool =>
   obtain⟨b,rfl,rfl⟩:=DataW.trod_bool (iK h) c;exact⟨b,rfl⟩
  | str =>
   obtain⟨b,rfl,rfl,_⟩:=DataW.trod_string (p8 h) c;refine⟨b,rfl,?_⟩;have:=o b.data.toList.length (by simp only[DataW.weights];exact ABh);have r:b.data.toList.length=b.size:=ABb;simp only[reachBytes]at this;simp only[AO];omega
  | slice e =>
   obtain⟨et,g,M,D,y⟩:=Xo h;rcases DataW.trod_slice g c with ⟨rfl,rfl⟩|⟨a,len,cap,elems,rest,m,rfl,rfl,rfl,-,V,-,W,R,-,-⟩
   ·exact⟨[],none,0,rfl,If _,IS _,.inl rfl⟩
   ·have Y:len≤AO:=by
     have h1:=o ((elems.length+rest.length)*P.bytesOf et) (by simp only[DataW.weights,g,AA3];exact ABh);have r:elems.length+rest.length≤(elems.length+rest.length)*P.bytesOf et:=Nat.le_mul_of_pos_right _ M;simp only[reachBytes]at h1;simp only[AO];omega
    have E:∀i,i<len→∃d:e.den,∃l:List Value,l.length=e.size∧(∀(j:Nat) (v:Value),l[j]?=some v→w.cell? (a.add (i*e.size+j))=some v)∧Be w (fun _=>False) e l d:=by
     intro i hi;have h1:=R i hi;obtain⟨x,c⟩:∃x,elems[i]?=some x:=⟨_,AT (by omega)⟩;rw[c]at h1;obtain⟨l,r,I⟩:=Option.bind_eq_some_iff.1 h1;obtain⟨J,K⟩:=lJ r;obtain⟨d,p⟩:=C e et y m l x I (fun b u=>o b (by
      simp only[DataW.weights,g];exact bY _ (ABB _ (Xp (Of.2 ⟨x,AA9 c,rfl⟩) b u))))
     refine⟨d,l,by rw[J,D],fun j v T=>?_,p⟩;have:=K j v T
     rwa [Ct,D]at this
    have L:∃ds:List e.den,ds.length=len∧∀(i:Nat) (d:e.den),ds[i]?=some d→∃l:List Value,l.length=e.size∧(∀(j:Nat) (v:Value),l[j]?=some v→w.cell? (a.add (i*e.size+j))=some v)∧Be w (fun _=>False) e l d:=by
     refine⟨(List.range len).pmap (fun i hi=>Classical.choose (E i hi)) (fun i hi=>oN.1 hi),by simp,fun i d p=>?_⟩;rw[List.getElem?_pmap]at p;simp only[Option.pmap_eq_some_iff]at p;obtain⟨j,h1,r,rfl⟩:=p;have S:j=i:=by
      obtain⟨X,y⟩:=No.1 r;simpa using y.symm
     subst S;exact Classical.choose_spec (E j h1)
    obtain⟨ds,O,Q⟩:=L;exact⟨ds,some a,cap,by rw[O],by omega,by omega,.inr ⟨a,rfl,fun h=>h,Q⟩⟩
  | agg s =>
   rcases p9 h with ⟨fs,g,N,hf⟩|⟨q,e,g,N,hf⟩
   ·obtain⟨xs,m,rfl,rfl,U,A,B⟩:=DataW.trod_struct g c;obtain⟨d,p⟩:=QA (fun ty t z cs x c o=>C ty t z m cs x c o) cs s 0 fs.toList hf xs (by simpa using A) (fun i f hi=>B i f (by simpa using hi)) (by
     simpa[DataW.weights,g] using o)
    refine⟨d,?_⟩;show Be w _ s cs d
    rwa [AAm,As (by omega)]at p
   ·obtain⟨xs,m,rfl,rfl,U,A,B⟩:=DataW.trod_array g c;obtain⟨d,p⟩:=QA (fun ty t z cs x c o=>C ty t z m cs x c o) cs s 0 (lI P q e) hf xs (by simp[lI,A]) (fun i f hi=>by
     unfold lI at hi;rw[AAW]at hi;by_cases F:i<q
     ·rw[ABG F]at hi;have hi:({ (default:Field) with offset:=i*P.cellsOf e,type:=e }:Field)=f:=by simpa using hi
      rw[←hi];exact B i F
     ·rw[iS (by simp;omega)]at hi;cases hi) (fun b u=>o b (by
     simp only[DataW.weights,g];unfold lI at u;rw[List.range_eq_range']at u;exact UV b u))
    refine⟨d,?_⟩;show Be w _ s cs d
    rwa [AAm,As (by omega)]at p
  | prod a b=>simp[rd]at h
  | ref j=>simp[rd]at h
theorem xY {k:Nat} {ty:Ty} {t:TypeId} {v:Value} {r:Reach} {base:Nat} (h:rd P k ty t=true) (d:Value.okWide P w r base t v):v=ty.wrap v.cells.toList:=by
 cases k with
 | zero=>simp[rd]at h
 | succ k =>
  cases ty with
  | int q =>
   obtain⟨n,rfl⟩:=okWide_int (Vg (by simpa only[rd] using h)) d;rfl
  | bool =>
   obtain⟨n,rfl⟩:=okWide_bool (iK h) d;rfl
  | str =>
   obtain⟨n,rfl⟩:=okWide_string (p8 h) d;rfl
  | slice e =>
   obtain⟨et,f,_⟩:=Xo h;obtain⟨a,l,c,rfl⟩:=okWide_slice f d;rfl
  | agg s =>
   rcases p9 h with ⟨fs,f,_⟩|⟨q,e,f,_⟩
   ·obtain⟨cs,rfl,_⟩:=okWide_struct f d;simp[Ty.wrap,Value.cells]
   ·simp only[Value.okWide,f]at d;obtain⟨cs,rfl,_⟩:=d;simp[Ty.wrap,Value.cells]
  | prod a b=>simp[rd]at h
  | ref j=>simp[rd]at h
def L2 (P:Program):List Ty→List TypeId→Bool
 | [],[]=>true
 | ty :: a,t :: ts=>rd P 50 ty t&&P.readableRec t&&decide (t<P.types.size)&&L2 P a ts
 | _,_=>false
theorem Xq {r:Reach} {base:Nat}:∀(a:List Ty) (ts:List TypeId) (c:List Value) (ds:List (DataW H)) (p:List MemPlace),L2 P a ts=true→DataW.TrodAll enc P w 0 spare held ts c ds p →
  (∀(j:Nat) (t:TypeId) (v:Value),ts[j]?=some t→c[j]?=some v→Value.okWide P w r base t v)→(∀b∈DataW.weightsEach P ts ds,b≤reachBytes)→∃xs:JG a,Pp w (fun _=>False) a c xs
 | [],[],c,ds,p,_,h,_,_=>by
  obtain⟨rfl,_,_⟩:=trodAll_nil h;exact⟨(),rfl⟩
 | ty :: a,t :: ts,c,ds,p,g,h,i,e=>by
  simp only[L2,An]at g;obtain⟨⟨⟨h1,_⟩,_⟩,m⟩:=g;obtain⟨v,k,d,l,D,A,rfl,rfl,rfl,⟨n,o⟩,q⟩:=trodAll_cons h;simp only[DataW.weightsEach,ON]at e;obtain⟨x,y⟩:=qA 50 ty t h1 n _ _ o (fun b f=>e b (.inl f));obtain⟨xs,z⟩:=Xq a ts k l A m q (fun j B C s u=>i (j+1) B C s u) (fun b f=>e b (.inr f));exact⟨(x,xs),v,k,rfl,⟨_,y,xY h1 (i 0 t v rfl rfl)⟩,z⟩
 | [],_ :: _,_,_,_,h,_,_,_=>by simp[L2]at h
 | _ :: _,[],_,_,_,h,_,_,_=>by simp[L2]at h
theorem UW (i:laidOutB P=true) {W f:World} (g:Below W.heap.size W f):∀(e:List Ty) (ts:List TypeId) (a:List Value) (ds:List (DataW H)) (p:List MemPlace),L2 P e ts=true →
  DataW.TrodAll enc P W 0 (fun _=>true) true ts a ds p→(∀x∈p,x.block<W.heap.size)→DataW.TrodAll enc P f 0 (fun b=>decide (b<W.heap.size)) true ts a ds p
 | [],[],a,ds,p,_,h,_=>by
  obtain⟨rfl,rfl,rfl⟩:=trodAll_nil h;rfl
 | ty :: e,t :: ts,a,ds,p,k,h,j=>by
  simp only[L2,An,GO]at k;obtain⟨⟨⟨_,h1⟩,n⟩,o⟩:=k;obtain⟨v,u,d,m,s,l,rfl,rfl,rfl,q,r⟩:=trodAll_cons h;exact⟨s,l,Below.trod i h1 n q g (fun x c=>j x (ABB _ c)),UW i g e ts u m l o r (fun x c=>j x (List.mem_append_right _ c)),rfl⟩
 | [],_ :: _,_,_,_,h,_,_=>by simp[L2]at h
 | _ :: _,[],_,_,_,h,_,_=>by simp[L2]at h
end
theorem qB {w:World} {O:Nat→Prop} {u:Value} {w':World} (h:oL w O [.p .bool true] u w'):u=.bool true∧Below w.heap.size w w':=by
 obtain⟨ρ',a⟩:=h 0;refine⟨?_,a.below⟩;obtain⟨cs,h1,b⟩:BM _ _ .bool u true:=a.av;have h1:cs=[.bool true]:=h1;rw[b,h1];rfl
theorem qC {P:Program} {f:FuncId} {fn:Func} {a:Ad} {s:ChangeSpec} {tb:TypeId} (K:Aj P f a) (M:∀ds,a.pre ds) (L:∀ds,a.out ds=[.p .bool true])
  (G:laidOutB P=true) (w:L2 P a.ins fn.params.toList=true) (O:fn.resultTypes=#[tb]) (E:P.underlying tb=some .bool) (y:s.vars=[])
  (hs:∀(H:Type) (ds:List (DataW H)),ds.length=fn.params.size→(s.fn H ds).results=[.lit (.bool true)]∧(s.fn H ds).args=ds∧(s.fn H ds).vars=[])
  {H:Type} {enc:TypeId×Value→H} {W:World} {base:Nat} {args:Array Value} {ds m:List (DataW H)} {z:List MemPlace} {Z:List TypeId}
  (U:∀(j:Nat) t v,fn.params[j]?=some t→args[j]?=some v→Value.okWide P W .any base t v)
  (o:DataW.Whole enc P fn.params.toList s.vars false W args.toList ds m z)
  (Q:(DataW.weightsEach P (fn.params.toList++Z) (ds++m)).all (·≤reachBytes)=true) :
  Calls P f args W fun e l=>∃v,e=.returned v∧s.post enc P fn false true false false W args v l:=by
 have r:=o;obtain⟨p,q,g,n,rfl,ab,ad⟩:=o;rw[y]at n;obtain⟨rfl,rfl⟩:=trodVars_none n;obtain⟨xs,X⟩:=Xq a.ins fn.params.toList args.toList ds p w g (fun j t v R T=>U j t v (by simpa using R) (by simpa using T))
  (fun b c=>by simpa using DO.1 Q b (UU b c))
 have J:∀x∈p,x.block<W.heap.size:=fun x V=>by simpa using r.lt x (ABB _ V)
 have I:ds.length=fn.params.size:=by
  have:∀(ts:List TypeId) (k:List Value) (ds:List (DataW H)) (p:List MemPlace),DataW.TrodAll enc P W 0 (fun _=>true) true ts k ds p→ds.length=ts.length:=by
   intro ts;induction ts with
   | nil=>intro k ds p h;obtain⟨_,rfl,_⟩:=trodAll_nil h;rfl
   | cons t ts Y=>intro k ds p h;obtain⟨v,ag,d,aa,ae,af,rfl,rfl,rfl,_,N⟩:=trodAll_cons h;simp[Y _ _ _ N]
  simpa using this _ _ _ _ g
 have i:=K.2 W (fun _=>False) args.toList xs (fun _ h=>h.elim) X (M xs);rw[L]at i;have D:args.toList.toArray=args:=by simp
 rw[D]at i;refine i.mono fun e l ⟨u,F,S⟩=>?_;obtain⟨rfl,c⟩:=qB S;obtain⟨A,B,C⟩:=hs H (ds++[]) (by simpa using I);refine⟨_,F,_,_,_,[],p,[],r,?_,?_,?_,c.frame _,fun h=>by cases h⟩
 ·rw[A,O];exact trodAll_mk1 (shut_bool E _)
 ·rw[B,AAl];exact UW G c a.ins _ _ _ _ w g J
 ·rw[C,y];rfl
end
end Go.Proofs.YtdapahgnpbehbaaGreat.Fw

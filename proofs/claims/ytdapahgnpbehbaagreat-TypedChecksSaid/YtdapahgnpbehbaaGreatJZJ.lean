/- This program's types; a slice compared with nil; from a contract to the given statement. -/
/- The shapes of this program's types. -/
import Derived.Test.YtdapahgnpbehbaaGreatJZI
import Derived.Test.YtdapahgnpbehbaaGreatChecked
import Derived.Laws.Cover3
import Derived.Carry
import Derived.SizedLaws
import Derived.OpenShut
set_option linter.unusedVariables false
set_option linter.unusedSimpArgs false
namespace Go.Proofs.YtdapahgnpbehbaaGreat.Fw
section
open Go
abbrev T1:Ty:=.ref 1
abbrev T2:Ty:=.int .i64
abbrev T3:Ty:=.int .i64
abbrev T4:Ty:=.bool
abbrev T5:Ty:=.int .u8
abbrev T9:Ty:=.str
abbrev T12:Ty:=.int .u64
abbrev T21:Ty:=.int .i32
abbrev T26:Ty:=.ref 1
abbrev T27:Ty:=.ref 1
abbrev T32:Ty:=.ref 1
abbrev Rb:Ty:=.int .i64
abbrev T34:Ty:=.ref 1
abbrev T35:Ty:=.ref 1
abbrev T36:Ty:=.ref 1
abbrev T38:Ty:=.ref 1
abbrev T39:Ty:=.ref 1
abbrev T41:Ty:=.ref 1
abbrev T42:Ty:=.ref 1
abbrev T43:Ty:=.ref 1
abbrev T44:Ty:=.ref 1
abbrev T46:Ty:=.ref 1
abbrev T51:Ty:=.ref 1
abbrev T52:Ty:=.agg (.prod T3 (T3))
abbrev BC:Ty:=.agg (.prod T3 (T3))
abbrev T54:Ty:=.ref 1
abbrev T56:Ty:=.ref 1
abbrev T57:Ty:=.ref 1
abbrev T59:Ty:=.ref 1
abbrev Jj:Ty:=.slice T3
abbrev T63:Ty:=.ref 1
abbrev T64:Ty:=.ref 1
abbrev T65:Ty:=.ref 1
abbrev T66:Ty:=.ref 1
abbrev T67:Ty:=.ref 1
abbrev T69:Ty:=.ref 1
abbrev T70:Ty:=.ref 1
abbrev T71:Ty:=.ref 1
abbrev T72:Ty:=.ref 0
abbrev T75:Ty:=.ref 1
abbrev T76:Ty:=.ref 1
abbrev T77:Ty:=.ref 1
abbrev T78:Ty:=.ref 1
abbrev T79:Ty:=.ref 1
abbrev T85:Ty:=.ref 1
abbrev T86:Ty:=.agg (.prod T3 (T3))
abbrev x8:Ty:=.agg (.prod T3 (T3))
abbrev T88:Ty:=.ref 1
abbrev T89:Ty:=.ref 1
abbrev T90:Ty:=.ref 1
abbrev T91:Ty:=.ref 1
abbrev T92:Ty:=.ref 1
abbrev T94:Ty:=.ref 1
abbrev T95:Ty:=.ref 2
abbrev T96:Ty:=.ref 1
abbrev T97:Ty:=.ref 1
abbrev T99:Ty:=.ref 1
abbrev y4:Ty:=.ref 1
abbrev y5:Ty:=.ref 1
abbrev y6:Ty:=.ref 1
abbrev Br:Ty:=.slice T9
abbrev y7:Ty:=.ref 1
abbrev y8:Ty:=.ref 1
abbrev y9:Ty:=.ref 1
abbrev zA:Ty:=.agg (.prod T9 (T3))
abbrev mP:Ty:=.agg (.prod T9 (T3))
abbrev zB:Ty:=.ref 1
abbrev zC:Ty:=.ref 1
abbrev zD:Ty:=.ref 1
abbrev zE:Ty:=.slice T4
abbrev zF:Ty:=.ref 0
abbrev zG:Ty:=.ref 1
abbrev zH:Ty:=.ref 1
abbrev zI:Ty:=.ref 1
abbrev zJ:Ty:=.ref 0
abbrev zK:Ty:=.ref 1
abbrev zL:Ty:=.ref 1
abbrev zM:Ty:=.ref 1
abbrev zN:Ty:=.ref 1
abbrev zO:Ty:=.ref 1
abbrev zP:Ty:=.ref 1
abbrev zQ:Ty:=.ref 1
abbrev zR:Ty:=.ref 1
abbrev zS:Ty:=.ref 1
abbrev zT:Ty:=.ref 1
abbrev zU:Ty:=.ref 1
abbrev zV:Ty:=.ref 1
abbrev zW:Ty:=.ref 1
abbrev zX:Ty:=.ref 1
abbrev zY:Ty:=.ref 1
abbrev zZ:Ty:=.ref 1
abbrev z0:Ty:=.ref 1
abbrev z1:Ty:=.ref 1
abbrev z2:Ty:=.ref 1
abbrev z3:Ty:=.agg (.prod T9 (T9))
abbrev Yv:Ty:=.agg (.prod T9 (T9))
abbrev NE:Ty:=.int .u64
abbrev z4:Ty:=.ref 1
abbrev z5:Ty:=.ref 1
abbrev z6:Ty:=.ref 1
abbrev z7:Ty:=.ref 1
abbrev z8:Ty:=.ref 2
abbrev z9:Ty:=.ref 1
abbrev A00:Ty:=.ref 1
abbrev A01:Ty:=.ref 1
abbrev A02:Ty:=.ref 1
abbrev A03:Ty:=.ref 1
abbrev xG:Ty:=.agg (.prod T3 (T3))
abbrev A04:Ty:=.slice xG
abbrev A05:Ty:=.ref 1
abbrev A06:Ty:=.ref 1
abbrev A07:Ty:=.ref 1
abbrev A08:Ty:=.ref 1
abbrev A09:Ty:=.ref 1
abbrev A0a:Ty:=.ref 1
abbrev A0b:Ty:=.ref 1
abbrev A0c:Ty:=.ref 1
abbrev A0d:Ty:=.ref 1
abbrev A0e:Ty:=.ref 1
abbrev A0f:Ty:=.ref 1
abbrev A0g:Ty:=.ref 1
abbrev A0h:Ty:=.ref 1
abbrev A0i:Ty:=.ref 1
abbrev A0j:Ty:=.ref 1
abbrev A0k:Ty:=.ref 1
abbrev A0l:Ty:=.ref 1
abbrev A0m:Ty:=.ref 1
abbrev A0n:Ty:=.ref 1
abbrev A0o:Ty:=.ref 1
abbrev A0p:Ty:=.ref 1
abbrev A0q:Ty:=.ref 1
abbrev A0r:Ty:=.ref 1
abbrev A0s:Ty:=.int .u64
abbrev A0t:Ty:=.ref 1
abbrev A0u:Ty:=.ref 1
abbrev A0v:Ty:=.ref 1
abbrev A0w:Ty:=.ref 1
abbrev A0x:Ty:=.ref 1
abbrev A0y:Ty:=.ref 1
abbrev A0z:Ty:=.ref 1
abbrev A0A:Ty:=.ref 1
abbrev A0B:Ty:=.ref 1
abbrev A0C:Ty:=.int .i64
abbrev A0D:Ty:=.ref 1
abbrev A0E:Ty:=.ref 1
abbrev A0F:Ty:=.ref 1
abbrev A0G:Ty:=.ref 1
abbrev A0H:Ty:=.ref 1
abbrev A0I:Ty:=.int .u32
abbrev A0J:Ty:=.ref 1
abbrev A0K:Ty:=.ref 1
abbrev A0L:Ty:=.ref 1
abbrev A0M:Ty:=.int .u64
abbrev A0N:Ty:=.ref 1
abbrev A0O:Ty:=.ref 1
abbrev A0P:Ty:=.ref 1
abbrev A0Q:Ty:=.ref 0
abbrev A0R:Ty:=.ref 1
abbrev A0S:Ty:=.ref 0
abbrev A0T:Ty:=.ref 1
abbrev A0U:Ty:=.ref 1
abbrev A0V:Ty:=.ref 1
abbrev A0W:Ty:=.ref 1
abbrev A0X:Ty:=.ref 0
abbrev Vp:Ty:=.slice mP
abbrev Iw:Ty:=.slice BC
abbrev T48:Ty:=.agg (.prod T3 (Iw))
abbrev Rc:Ty:=.agg (.prod T3 (Iw))
abbrev T80:Ty:=.slice NE
abbrev EC:Ty:=.slice NE
abbrev Wg:Ty:=.slice x8
abbrev T83:Ty:=.agg (.prod T9 (.prod EC (.prod Jj (Wg))))
abbrev x9:Ty:=.agg (.prod T9 (.prod EC (.prod Jj (Wg))))
abbrev A0Y:Ty:=.agg (.prod T9 (EC))
abbrev VF:Ty:=.agg (.prod T9 (EC))
abbrev Wh:Ty:=.slice Yv
abbrev A0Z:Ty:=.agg (.prod T9 (.prod Br (Wh)))
abbrev iK:Ty:=.agg (.prod T9 (.prod Br (Wh)))
abbrev rJ:Ty:=.slice Iw
abbrev QC:Ty:=.slice EC
abbrev Es:Ty:=.slice iK
abbrev HR:Ty:=.slice Rc
abbrev T24:Ty:=.agg (HR)
abbrev Gr:Ty:=.agg (HR)
abbrev Tf:Ty:=.slice x9
abbrev T30:Ty:=.agg (.prod Tf (Vp))
abbrev Ml:Ty:=.agg (.prod Tf (Vp))
abbrev v9:Ty:=.slice Wg
abbrev T55:Ty:=.agg (.prod Gr (.prod Gr (Gr)))
abbrev T58:Ty:=.slice Gr
abbrev T61:Ty:=.agg (.prod Gr (.prod Jj (Gr)))
abbrev T62:Ty:=.agg (.prod Gr (.prod Jj (Gr)))
abbrev T73:Ty:=.agg (.prod Ml (.prod Jj (Jj)))
abbrev T74:Ty:=.agg (.prod Ml (.prod Jj (Jj)))
abbrev JF:Ty:=.slice VF
abbrev A10:Ty:=.agg (.prod Gr (.prod Jj (Jj)))
abbrev A11:Ty:=.agg (.prod Gr (.prod Jj (Jj)))
abbrev A12:Ty:=.agg (.prod Ml (.prod Jj (.prod Jj (rJ))))
abbrev A13:Ty:=.agg (.prod Ml (.prod Jj (.prod Jj (rJ))))
set_option maxRecDepth 100000
def AK:List (Nat×TI):=[(1,⟨T1,[],0,8⟩),
 (2,⟨T2,[],0,8⟩),
 (3,⟨T3,[],0,8⟩),
 (4,⟨T4,[],0,1⟩),
 (5,⟨T5,[],0,1⟩),
 (9,⟨T9,[],0,16⟩),
 (12,⟨T12,[],0,8⟩),
 (21,⟨T21,[],0,4⟩),
 (22,⟨Es,[],111,24⟩),
 (23,⟨HR,[],49,24⟩),
 (24,⟨T24,[(0,1)],0,24⟩),
 (25,⟨Gr,[(0,1)],0,24⟩),
 (26,⟨T26,[],0,8⟩),
 (27,⟨T27,[],0,8⟩),
 (28,⟨Tf,[],84,24⟩),
 (29,⟨Vp,[],116,24⟩),
 (30,⟨T30,[(0,1),(1,1)],0,48⟩),
 (31,⟨Ml,[(0,1),(1,1)],0,48⟩),
 (32,⟨T32,[],0,8⟩),
 (33,⟨Rb,[],0,8⟩),
 (34,⟨T34,[],0,8⟩),
 (35,⟨T35,[],0,8⟩),
 (36,⟨T36,[],0,8⟩),
 (38,⟨T38,[],0,8⟩),
 (39,⟨T39,[],0,8⟩),
 (41,⟨T41,[],0,8⟩),
 (42,⟨T42,[],0,8⟩),
 (43,⟨T43,[],0,8⟩),
 (44,⟨T44,[],0,8⟩),
 (45,⟨v9,[],82,24⟩),
 (46,⟨T46,[],0,8⟩),
 (47,⟨Iw,[],53,24⟩),
 (48,⟨T48,[(0,1),(1,1)],0,32⟩),
 (49,⟨Rc,[(0,1),(1,1)],0,32⟩),
 (51,⟨T51,[],0,8⟩),
 (52,⟨T52,[(0,1),(1,1)],0,16⟩),
 (53,⟨BC,[(0,1),(1,1)],0,16⟩),
 (54,⟨T54,[],0,8⟩),
 (55,⟨T55,[(0,1),(1,1),(2,1)],25,72⟩),
 (56,⟨T56,[],0,8⟩),
 (57,⟨T57,[],0,8⟩),
 (58,⟨T58,[],25,24⟩),
 (59,⟨T59,[],0,8⟩),
 (60,⟨Jj,[],3,24⟩),
 (61,⟨T61,[(0,1),(1,1),(2,1)],0,72⟩),
 (62,⟨T62,[(0,1),(1,1),(2,1)],0,72⟩),
 (63,⟨T63,[],0,8⟩),
 (64,⟨T64,[],0,8⟩),
 (65,⟨T65,[],0,8⟩),
 (66,⟨T66,[],0,8⟩),
 (67,⟨T67,[],0,8⟩),
 (69,⟨T69,[],0,8⟩),
 (70,⟨T70,[],0,8⟩),
 (71,⟨T71,[],0,8⟩),
 (72,⟨T72,[],0,8⟩),
 (73,⟨T73,[(0,2),(2,1),(3,1)],0,96⟩),
 (74,⟨T74,[(0,2),(2,1),(3,1)],0,96⟩),
 (75,⟨T75,[],0,8⟩),
 (76,⟨T76,[],0,8⟩),
 (77,⟨T77,[],0,8⟩),
 (78,⟨T78,[],0,8⟩),
 (79,⟨T79,[],0,8⟩),
 (80,⟨T80,[],155,24⟩),
 (81,⟨EC,[],155,24⟩),
 (82,⟨Wg,[],87,24⟩),
 (83,⟨T83,[(0,1),(1,1),(2,1),(3,1)],0,88⟩),
 (84,⟨x9,[(0,1),(1,1),(2,1),(3,1)],0,88⟩),
 (85,⟨T85,[],0,8⟩),
 (86,⟨T86,[(0,1),(1,1)],0,16⟩),
 (87,⟨x8,[(0,1),(1,1)],0,16⟩),
 (88,⟨T88,[],0,8⟩),
 (89,⟨T89,[],0,8⟩),
 (90,⟨T90,[],0,8⟩),
 (91,⟨T91,[],0,8⟩),
 (92,⟨T92,[],0,8⟩),
 (94,⟨T94,[],0,8⟩),
 (95,⟨T95,[(3,4)],0,8⟩),
 (96,⟨T96,[],0,8⟩),
 (97,⟨T97,[],0,8⟩),
 (99,⟨T99,[],0,8⟩),
 (100,⟨JF,[],104,24⟩),
 (102,⟨y4,[],0,8⟩),
 (103,⟨A0Y,[(0,1),(1,1)],0,40⟩),
 (104,⟨VF,[(0,1),(1,1)],0,40⟩),
 (105,⟨y5,[],0,8⟩),
 (107,⟨y6,[],0,8⟩),
 (108,⟨Br,[],9,24⟩),
 (109,⟨Wh,[],154,24⟩),
 (110,⟨A0Z,[(0,1),(1,1),(2,1)],0,64⟩),
 (111,⟨iK,[(0,1),(1,1),(2,1)],0,64⟩),
 (112,⟨y7,[],0,8⟩),
 (113,⟨y8,[],0,8⟩),
 (114,⟨y9,[],0,8⟩),
 (115,⟨zA,[(0,1),(1,1)],0,24⟩),
 (116,⟨mP,[(0,1),(1,1)],0,24⟩),
 (117,⟨zB,[],0,8⟩),
 (118,⟨zC,[],0,8⟩),
 (119,⟨zD,[],0,8⟩),
 (120,⟨zE,[],4,24⟩),
 (121,⟨zF,[],0,8⟩),
 (122,⟨A10,[(0,1),(1,1),(2,1)],0,72⟩),
 (123,⟨A11,[(0,1),(1,1),(2,1)],0,72⟩),
 (124,⟨zG,[],0,8⟩),
 (125,⟨zH,[],0,8⟩),
 (126,⟨zI,[],0,8⟩),
 (127,⟨zJ,[],0,8⟩),
 (128,⟨rJ,[],47,24⟩),
 (129,⟨A12,[(0,2),(2,1),(3,1),(4,1)],0,120⟩),
 (130,⟨A13,[(0,2),(2,1),(3,1),(4,1)],0,120⟩),
 (131,⟨zK,[],0,8⟩),
 (132,⟨zL,[],0,8⟩),
 (133,⟨zM,[],0,8⟩),
 (134,⟨zN,[],0,8⟩),
 (135,⟨zO,[],0,8⟩),
 (136,⟨zP,[],0,8⟩),
 (137,⟨zQ,[],0,8⟩),
 (138,⟨zR,[],0,8⟩),
 (139,⟨zS,[],0,8⟩),
 (140,⟨zT,[],0,8⟩),
 (142,⟨zU,[],0,8⟩),
 (143,⟨zV,[],0,8⟩),
 (144,⟨QC,[],81,24⟩),
 (145,⟨zW,[],0,8⟩),
 (146,⟨zX,[],0,8⟩),
 (147,⟨zY,[],0,8⟩),
 (148,⟨zZ,[],0,8⟩),
 (149,⟨z0,[],0,8⟩),
 (151,⟨z1,[],0,8⟩),
 (152,⟨z2,[],0,8⟩),
 (153,⟨z3,[(0,1),(1,1)],0,32⟩),
 (154,⟨Yv,[(0,1),(1,1)],0,32⟩),
 (155,⟨NE,[],0,8⟩),
 (156,⟨z4,[],0,8⟩),
 (157,⟨z5,[],0,8⟩),
 (158,⟨z6,[],0,8⟩),
 (159,⟨z7,[],0,8⟩),
 (160,⟨z8,[(3,3)],0,8⟩),
 (161,⟨z9,[],0,8⟩),
 (162,⟨A00,[],0,8⟩),
 (163,⟨A01,[],0,8⟩),
 (164,⟨A02,[],0,8⟩),
 (165,⟨A03,[],0,8⟩),
 (166,⟨xG,[(0,1),(1,1)],3,16⟩),
 (167,⟨A04,[],166,24⟩),
 (168,⟨A05,[],0,8⟩),
 (169,⟨A06,[],0,8⟩),
 (170,⟨A07,[],0,8⟩),
 (171,⟨A08,[],0,8⟩),
 (172,⟨A09,[],0,8⟩),
 (173,⟨A0a,[],0,8⟩),
 (174,⟨A0b,[],0,8⟩),
 (176,⟨A0c,[],0,8⟩),
 (177,⟨A0d,[],0,8⟩),
 (178,⟨A0e,[],0,8⟩),
 (179,⟨A0f,[],0,8⟩),
 (180,⟨A0g,[],0,8⟩),
 (181,⟨A0h,[],0,8⟩),
 (182,⟨A0i,[],0,8⟩),
 (183,⟨A0j,[],0,8⟩),
 (184,⟨A0k,[],0,8⟩),
 (185,⟨A0l,[],0,8⟩),
 (186,⟨A0m,[],0,8⟩),
 (187,⟨A0n,[],0,8⟩),
 (188,⟨A0o,[],0,8⟩),
 (189,⟨A0p,[],0,8⟩),
 (190,⟨A0q,[],0,8⟩),
 (191,⟨A0r,[],0,8⟩),
 (192,⟨A0s,[],0,8⟩),
 (193,⟨A0t,[],0,8⟩),
 (194,⟨A0u,[],0,8⟩),
 (195,⟨A0v,[],0,8⟩),
 (196,⟨A0w,[],0,8⟩),
 (197,⟨A0x,[],0,8⟩),
 (198,⟨A0y,[],0,8⟩),
 (199,⟨A0z,[],0,8⟩),
 (200,⟨A0A,[],0,8⟩),
 (201,⟨A0B,[],0,8⟩),
 (202,⟨A0C,[],0,8⟩),
 (204,⟨A0D,[],0,8⟩),
 (205,⟨A0E,[],0,8⟩),
 (206,⟨A0F,[],0,8⟩),
 (207,⟨A0G,[],0,8⟩),
 (208,⟨A0H,[],0,8⟩),
 (209,⟨A0I,[],0,4⟩),
 (210,⟨A0J,[],0,8⟩),
 (211,⟨A0K,[],0,8⟩),
 (212,⟨A0L,[],0,8⟩),
 (213,⟨A0M,[],0,8⟩),
 (214,⟨A0N,[],0,8⟩),
 (215,⟨A0O,[],0,8⟩),
 (216,⟨A0P,[],0,8⟩),
 (217,⟨A0Q,[],0,8⟩),
 (218,⟨A0R,[],0,8⟩),
 (219,⟨A0S,[],0,8⟩),
 (221,⟨A0T,[],0,8⟩),
 (222,⟨A0U,[],0,8⟩),
 (228,⟨A0V,[],0,8⟩),
 (231,⟨A0W,[],0,8⟩),
 (232,⟨A0X,[],0,8⟩)]
theorem AF (f) (pu:List Nat:=[]) (ne:List (Nat×TypeId):=[]):DT Tryz.prog ⟨AK,f,pu,ne⟩:=p7 (by kernel_rfl)
theorem drawsAny:Tryz.prog.follows .mixedOrders=true:=by kernel_rfl
theorem xH:lk 1 AK=some ⟨T1,[],0,8⟩:=rfl
theorem ty2:lk 2 AK=some ⟨T2,[],0,8⟩:=rfl
theorem ty3:lk 3 AK=some ⟨T3,[],0,8⟩:=rfl
theorem ty4:lk 4 AK=some ⟨T4,[],0,1⟩:=rfl
theorem ty5:lk 5 AK=some ⟨T5,[],0,1⟩:=rfl
theorem ty9:lk 9 AK=some ⟨T9,[],0,16⟩:=rfl
theorem rK:lk 12 AK=some ⟨T12,[],0,8⟩:=rfl
theorem rO:lk 21 AK=some ⟨T21,[],0,4⟩:=rfl
theorem rQ:lk 22 AK=some ⟨Es,[],111,24⟩:=rfl
theorem rR:lk 23 AK=some ⟨HR,[],49,24⟩:=rfl
theorem rS:lk 24 AK=some ⟨T24,[(0,1)],0,24⟩:=rfl
theorem rT:lk 25 AK=some ⟨Gr,[(0,1)],0,24⟩:=rfl
theorem rU:lk 26 AK=some ⟨T26,[],0,8⟩:=rfl
theorem rV:lk 27 AK=some ⟨T27,[],0,8⟩:=rfl
theorem rW:lk 28 AK=some ⟨Tf,[],84,24⟩:=rfl
theorem rZ:lk 29 AK=some ⟨Vp,[],116,24⟩:=rfl
theorem r8:lk 30 AK=some ⟨T30,[(0,1),(1,1)],0,48⟩:=rfl
theorem r9:lk 31 AK=some ⟨Ml,[(0,1),(1,1)],0,48⟩:=rfl
theorem sA:lk 32 AK=some ⟨T32,[],0,8⟩:=rfl
theorem sB:lk 33 AK=some ⟨Rb,[],0,8⟩:=rfl
theorem sC:lk 34 AK=some ⟨T34,[],0,8⟩:=rfl
theorem sD:lk 35 AK=some ⟨T35,[],0,8⟩:=rfl
theorem sE:lk 36 AK=some ⟨T36,[],0,8⟩:=rfl
theorem sF:lk 38 AK=some ⟨T38,[],0,8⟩:=rfl
theorem sG:lk 39 AK=some ⟨T39,[],0,8⟩:=rfl
theorem sH:lk 41 AK=some ⟨T41,[],0,8⟩:=rfl
theorem sI:lk 42 AK=some ⟨T42,[],0,8⟩:=rfl
theorem sJ:lk 43 AK=some ⟨T43,[],0,8⟩:=rfl
theorem sK:lk 44 AK=some ⟨T44,[],0,8⟩:=rfl
theorem sL:lk 45 AK=some ⟨v9,[],82,24⟩:=rfl
theorem sM:lk 46 AK=some ⟨T46,[],0,8⟩:=rfl
theorem sN:lk 47 AK=some ⟨Iw,[],53,24⟩:=rfl
theorem sO:lk 48 AK=some ⟨T48,[(0,1),(1,1)],0,32⟩:=rfl
theorem sP:lk 49 AK=some ⟨Rc,[(0,1),(1,1)],0,32⟩:=rfl
theorem sQ:lk 51 AK=some ⟨T51,[],0,8⟩:=rfl
theorem sR:lk 52 AK=some ⟨T52,[(0,1),(1,1)],0,16⟩:=rfl
theorem sS:lk 53 AK=some ⟨BC,[(0,1),(1,1)],0,16⟩:=rfl
theorem sT:lk 54 AK=some ⟨T54,[],0,8⟩:=rfl
theorem sU:lk 55 AK=some ⟨T55,[(0,1),(1,1),(2,1)],25,72⟩:=rfl
theorem sV:lk 56 AK=some ⟨T56,[],0,8⟩:=rfl
theorem sW:lk 57 AK=some ⟨T57,[],0,8⟩:=rfl
theorem sX:lk 58 AK=some ⟨T58,[],25,24⟩:=rfl
theorem sY:lk 59 AK=some ⟨T59,[],0,8⟩:=rfl
theorem sZ:lk 60 AK=some ⟨Jj,[],3,24⟩:=rfl
theorem s0:lk 61 AK=some ⟨T61,[(0,1),(1,1),(2,1)],0,72⟩:=rfl
theorem s5:lk 62 AK=some ⟨T62,[(0,1),(1,1),(2,1)],0,72⟩:=rfl
theorem s6:lk 63 AK=some ⟨T63,[],0,8⟩:=rfl
theorem s7:lk 64 AK=some ⟨T64,[],0,8⟩:=rfl
theorem s8:lk 65 AK=some ⟨T65,[],0,8⟩:=rfl
theorem s9:lk 66 AK=some ⟨T66,[],0,8⟩:=rfl
theorem tA:lk 67 AK=some ⟨T67,[],0,8⟩:=rfl
theorem tB:lk 69 AK=some ⟨T69,[],0,8⟩:=rfl
theorem tC:lk 70 AK=some ⟨T70,[],0,8⟩:=rfl
theorem tD:lk 71 AK=some ⟨T71,[],0,8⟩:=rfl
theorem tE:lk 72 AK=some ⟨T72,[],0,8⟩:=rfl
theorem tF:lk 73 AK=some ⟨T73,[(0,2),(2,1),(3,1)],0,96⟩:=rfl
theorem tG:lk 74 AK=some ⟨T74,[(0,2),(2,1),(3,1)],0,96⟩:=rfl
theorem tH:lk 75 AK=some ⟨T75,[],0,8⟩:=rfl
theorem tI:lk 76 AK=some ⟨T76,[],0,8⟩:=rfl
theorem tJ:lk 77 AK=some ⟨T77,[],0,8⟩:=rfl
theorem tK:lk 78 AK=some ⟨T78,[],0,8⟩:=rfl
theorem tL:lk 79 AK=some ⟨T79,[],0,8⟩:=rfl
theorem tM:lk 80 AK=some ⟨T80,[],155,24⟩:=rfl
theorem tN:lk 81 AK=some ⟨EC,[],155,24⟩:=rfl
theorem tP:lk 82 AK=some ⟨Wg,[],87,24⟩:=rfl
theorem tQ:lk 83 AK=some ⟨T83,[(0,1),(1,1),(2,1),(3,1)],0,88⟩:=rfl
theorem tR:lk 84 AK=some ⟨x9,[(0,1),(1,1),(2,1),(3,1)],0,88⟩:=rfl
theorem tS:lk 85 AK=some ⟨T85,[],0,8⟩:=rfl
theorem tT:lk 86 AK=some ⟨T86,[(0,1),(1,1)],0,16⟩:=rfl
theorem tU:lk 87 AK=some ⟨x8,[(0,1),(1,1)],0,16⟩:=rfl
theorem tV:lk 88 AK=some ⟨T88,[],0,8⟩:=rfl
theorem tW:lk 89 AK=some ⟨T89,[],0,8⟩:=rfl
theorem tX:lk 90 AK=some ⟨T90,[],0,8⟩:=rfl
theorem tY:lk 91 AK=some ⟨T91,[],0,8⟩:=rfl
theorem tZ:lk 92 AK=some ⟨T92,[],0,8⟩:=rfl
theorem t5:lk 94 AK=some ⟨T94,[],0,8⟩:=rfl
theorem t6:lk 95 AK=some ⟨T95,[(3,4)],0,8⟩:=rfl
theorem t7:lk 96 AK=some ⟨T96,[],0,8⟩:=rfl
theorem t8:lk 97 AK=some ⟨T97,[],0,8⟩:=rfl
theorem t9:lk 99 AK=some ⟨T99,[],0,8⟩:=rfl
theorem aN:lk 100 AK=some ⟨JF,[],104,24⟩:=rfl
theorem aO:lk 102 AK=some ⟨y4,[],0,8⟩:=rfl
theorem aP:lk 103 AK=some ⟨A0Y,[(0,1),(1,1)],0,40⟩:=rfl
theorem aQ:lk 104 AK=some ⟨VF,[(0,1),(1,1)],0,40⟩:=rfl
theorem aR:lk 105 AK=some ⟨y5,[],0,8⟩:=rfl
theorem aU:lk 107 AK=some ⟨y6,[],0,8⟩:=rfl
theorem aV:lk 108 AK=some ⟨Br,[],9,24⟩:=rfl
theorem aW:lk 109 AK=some ⟨Wh,[],154,24⟩:=rfl
theorem aX:lk 110 AK=some ⟨A0Z,[(0,1),(1,1),(2,1)],0,64⟩:=rfl
theorem aY:lk 111 AK=some ⟨iK,[(0,1),(1,1),(2,1)],0,64⟩:=rfl
theorem aZ:lk 112 AK=some ⟨y7,[],0,8⟩:=rfl
theorem a9:lk 113 AK=some ⟨y8,[],0,8⟩:=rfl
theorem bA:lk 114 AK=some ⟨y9,[],0,8⟩:=rfl
theorem bB:lk 115 AK=some ⟨zA,[(0,1),(1,1)],0,24⟩:=rfl
theorem bC:lk 116 AK=some ⟨mP,[(0,1),(1,1)],0,24⟩:=rfl
theorem bD:lk 117 AK=some ⟨zB,[],0,8⟩:=rfl
theorem bE:lk 118 AK=some ⟨zC,[],0,8⟩:=rfl
theorem bF:lk 119 AK=some ⟨zD,[],0,8⟩:=rfl
theorem bG:lk 120 AK=some ⟨zE,[],4,24⟩:=rfl
theorem bH:lk 121 AK=some ⟨zF,[],0,8⟩:=rfl
theorem bI:lk 122 AK=some ⟨A10,[(0,1),(1,1),(2,1)],0,72⟩:=rfl
theorem bJ:lk 123 AK=some ⟨A11,[(0,1),(1,1),(2,1)],0,72⟩:=rfl
theorem bK:lk 124 AK=some ⟨zG,[],0,8⟩:=rfl
theorem bL:lk 125 AK=some ⟨zH,[],0,8⟩:=rfl
theorem bM:lk 126 AK=some ⟨zI,[],0,8⟩:=rfl
theorem bN:lk 127 AK=some ⟨zJ,[],0,8⟩:=rfl
theorem bO:lk 128 AK=some ⟨rJ,[],47,24⟩:=rfl
theorem bP:lk 129 AK=some ⟨A12,[(0,2),(2,1),(3,1),(4,1)],0,120⟩:=rfl
theorem bQ:lk 130 AK=some ⟨A13,[(0,2),(2,1),(3,1),(4,1)],0,120⟩:=rfl
theorem bR:lk 131 AK=some ⟨zK,[],0,8⟩:=rfl
theorem bS:lk 132 AK=some ⟨zL,[],0,8⟩:=rfl
theorem bT:lk 133 AK=some ⟨zM,[],0,8⟩:=rfl
theorem bU:lk 134 AK=some ⟨zN,[],0,8⟩:=rfl
theorem bV:lk 135 AK=some ⟨zO,[],0,8⟩:=rfl
theorem bW:lk 136 AK=some ⟨zP,[],0,8⟩:=rfl
theorem bX:lk 137 AK=some ⟨zQ,[],0,8⟩:=rfl
theorem bZ:lk 138 AK=some ⟨zR,[],0,8⟩:=rfl
theorem b4:lk 139 AK=some ⟨zS,[],0,8⟩:=rfl
theorem b5:lk 140 AK=some ⟨zT,[],0,8⟩:=rfl
theorem b6:lk 142 AK=some ⟨zU,[],0,8⟩:=rfl
theorem b7:lk 143 AK=some ⟨zV,[],0,8⟩:=rfl
theorem b8:lk 144 AK=some ⟨QC,[],81,24⟩:=rfl
theorem b9:lk 145 AK=some ⟨zW,[],0,8⟩:=rfl
theorem cA:lk 146 AK=some ⟨zX,[],0,8⟩:=rfl
theorem cB:lk 147 AK=some ⟨zY,[],0,8⟩:=rfl
theorem cC:lk 148 AK=some ⟨zZ,[],0,8⟩:=rfl
theorem cE:lk 149 AK=some ⟨z0,[],0,8⟩:=rfl
theorem cF:lk 151 AK=some ⟨z1,[],0,8⟩:=rfl
theorem cG:lk 152 AK=some ⟨z2,[],0,8⟩:=rfl
theorem cH:lk 153 AK=some ⟨z3,[(0,1),(1,1)],0,32⟩:=rfl
theorem cI:lk 154 AK=some ⟨Yv,[(0,1),(1,1)],0,32⟩:=rfl
theorem cJ:lk 155 AK=some ⟨NE,[],0,8⟩:=rfl
theorem cK:lk 156 AK=some ⟨z4,[],0,8⟩:=rfl
theorem cL:lk 157 AK=some ⟨z5,[],0,8⟩:=rfl
theorem cM:lk 158 AK=some ⟨z6,[],0,8⟩:=rfl
theorem cN:lk 159 AK=some ⟨z7,[],0,8⟩:=rfl
theorem cO:lk 160 AK=some ⟨z8,[(3,3)],0,8⟩:=rfl
theorem cQ:lk 161 AK=some ⟨z9,[],0,8⟩:=rfl
theorem cR:lk 162 AK=some ⟨A00,[],0,8⟩:=rfl
theorem cS:lk 163 AK=some ⟨A01,[],0,8⟩:=rfl
theorem cU:lk 164 AK=some ⟨A02,[],0,8⟩:=rfl
theorem cV:lk 165 AK=some ⟨A03,[],0,8⟩:=rfl
theorem cW:lk 166 AK=some ⟨xG,[(0,1),(1,1)],3,16⟩:=rfl
theorem cX:lk 167 AK=some ⟨A04,[],166,24⟩:=rfl
theorem cZ:lk 168 AK=some ⟨A05,[],0,8⟩:=rfl
theorem c6:lk 169 AK=some ⟨A06,[],0,8⟩:=rfl
theorem c7:lk 170 AK=some ⟨A07,[],0,8⟩:=rfl
theorem c8:lk 171 AK=some ⟨A08,[],0,8⟩:=rfl
theorem c9:lk 172 AK=some ⟨A09,[],0,8⟩:=rfl
theorem dA:lk 173 AK=some ⟨A0a,[],0,8⟩:=rfl
theorem dB:lk 174 AK=some ⟨A0b,[],0,8⟩:=rfl
theorem dC:lk 176 AK=some ⟨A0c,[],0,8⟩:=rfl
theorem dD:lk 177 AK=some ⟨A0d,[],0,8⟩:=rfl
theorem dE:lk 178 AK=some ⟨A0e,[],0,8⟩:=rfl
theorem dF:lk 179 AK=some ⟨A0f,[],0,8⟩:=rfl
theorem dG:lk 180 AK=some ⟨A0g,[],0,8⟩:=rfl
theorem dH:lk 181 AK=some ⟨A0h,[],0,8⟩:=rfl
theorem dI:lk 182 AK=some ⟨A0i,[],0,8⟩:=rfl
theorem dJ:lk 183 AK=some ⟨A0j,[],0,8⟩:=rfl
theorem dK:lk 184 AK=some ⟨A0k,[],0,8⟩:=rfl
theorem dL:lk 185 AK=some ⟨A0l,[],0,8⟩:=rfl
theorem dM:lk 186 AK=some ⟨A0m,[],0,8⟩:=rfl
theorem dN:lk 187 AK=some ⟨A0n,[],0,8⟩:=rfl
theorem dP:lk 188 AK=some ⟨A0o,[],0,8⟩:=rfl
theorem dQ:lk 189 AK=some ⟨A0p,[],0,8⟩:=rfl
theorem dR:lk 190 AK=some ⟨A0q,[],0,8⟩:=rfl
theorem dS:lk 191 AK=some ⟨A0r,[],0,8⟩:=rfl
theorem dT:lk 192 AK=some ⟨A0s,[],0,8⟩:=rfl
theorem dU:lk 193 AK=some ⟨A0t,[],0,8⟩:=rfl
theorem dV:lk 194 AK=some ⟨A0u,[],0,8⟩:=rfl
theorem dW:lk 195 AK=some ⟨A0v,[],0,8⟩:=rfl
theorem dX:lk 196 AK=some ⟨A0w,[],0,8⟩:=rfl
theorem dY:lk 197 AK=some ⟨A0x,[],0,8⟩:=rfl
theorem dZ:lk 198 AK=some ⟨A0y,[],0,8⟩:=rfl
theorem d3:lk 199 AK=some ⟨A0z,[],0,8⟩:=rfl
theorem d4:lk 200 AK=some ⟨A0A,[],0,8⟩:=rfl
theorem d5:lk 201 AK=some ⟨A0B,[],0,8⟩:=rfl
theorem d6:lk 202 AK=some ⟨A0C,[],0,8⟩:=rfl
theorem d7:lk 204 AK=some ⟨A0D,[],0,8⟩:=rfl
theorem d8:lk 205 AK=some ⟨A0E,[],0,8⟩:=rfl
theorem d9:lk 206 AK=some ⟨A0F,[],0,8⟩:=rfl
theorem eA:lk 207 AK=some ⟨A0G,[],0,8⟩:=rfl
theorem eB:lk 208 AK=some ⟨A0H,[],0,8⟩:=rfl
theorem eC:lk 209 AK=some ⟨A0I,[],0,4⟩:=rfl
theorem eD:lk 210 AK=some ⟨A0J,[],0,8⟩:=rfl
theorem eE:lk 211 AK=some ⟨A0K,[],0,8⟩:=rfl
theorem eF:lk 212 AK=some ⟨A0L,[],0,8⟩:=rfl
theorem eG:lk 213 AK=some ⟨A0M,[],0,8⟩:=rfl
theorem eH:lk 214 AK=some ⟨A0N,[],0,8⟩:=rfl
theorem eI:lk 215 AK=some ⟨A0O,[],0,8⟩:=rfl
theorem eJ:lk 216 AK=some ⟨A0P,[],0,8⟩:=rfl
theorem eK:lk 217 AK=some ⟨A0Q,[],0,8⟩:=rfl
theorem eL:lk 218 AK=some ⟨A0R,[],0,8⟩:=rfl
theorem eO:lk 219 AK=some ⟨A0S,[],0,8⟩:=rfl
theorem eP:lk 221 AK=some ⟨A0T,[],0,8⟩:=rfl
theorem eQ:lk 222 AK=some ⟨A0U,[],0,8⟩:=rfl
theorem eU:lk 228 AK=some ⟨A0V,[],0,8⟩:=rfl
theorem eW:lk 231 AK=some ⟨A0W,[],0,8⟩:=rfl
theorem eX:lk 232 AK=some ⟨A0X,[],0,8⟩:=rfl
end
/- A slice held against nil: the answer is open, but where there is an element it is no. -/
section
open Go Go.RowKit
section
variable {c:Cx} {R:Exit→Act→World→Prop} {k:List DU} {σ σ':St}
theorem iL {P:Program} {tb:Tb} {t:TypeId} {ti:TI} {e:Ty} (hT:Dt P tb t ti) (hti:ti.ty=.slice e) (w:World) (a:Option Addr) (n m:Nat):(Op.equal t (.slice a n m) (.slice none 0 0)).run P w=.ok a.isNone w:=by
 have h2:=hT.2
 rw[hti]at h2
 exact run_equal_slice_nil w t ti.el a n m h2.1
def Wi:Option TI→Bool
 | some ⟨.slice _,_,_,_⟩=>true
 | _=>false
theorem Tg (hc:c.Ok) {ops:Array Oper} {rest:List Oper} {d:Nat} {t:TypeId} {x:Operand} {tt ty:TypeId} {pos:String} {after:Array Edge} {e:Ty} {l:List e.den} (neg:Bool)
  (hx:Ae σ x=some (.p (.slice e) l)) (ht:Wi (lk t c.tb.ty)=true) (hk:∀b:Bool,(b=true→l=[])→HB c R k ops rest (σ.add (.p .bool (if neg then !b else b)) [] (some d))) :
  HB c R k ops (⟨some d,.binOp (if neg then .neq else .eql) t x (.const (.slice none 0 0)) tt,ty,pos,after,none⟩ :: rest) σ:=by
 intro hd hko a w hsat
 obtain⟨ρ,hsr⟩:=hsat
 have hev:Fy (vw w c.O0 σ ρ) σ a.eval:=Df hsr.env
 have hxv:=hev x _ hx
 obtain⟨cs,⟨ad,m,rfl,h1,h2,h3⟩,hv⟩:=hxv
 have hv:a.eval x=.slice ad (List.length l) m:=hv
 unfold Wi at ht
 split at ht
 ·rename_i e' offs el bytes hlk
  have hTI:=hc.T _ _ hlk
  have heq:=iL hTI rfl w ad (List.length l) m
  unfold wpListIn
  rw[if_pos (by simp[Region.wanted])]
  have hrun:(execOp a.eval ⟨some d,.binOp (if neg then .neq else .eql) t x (.const (.slice none 0 0)) tt,ty,pos,after,none⟩).run c.P w=.ok (.value (.bool (if neg then !ad.isNone else ad.isNone))) w:=by
   have hz:a.eval (.const (.slice none 0 0))=.slice none 0 0:=rfl
   cases neg<;>simp[execOp,hv,hz,eqGuard,binOp,heq]
  refine Ai hrun ?_ (fun cl h=>by cases neg<;>cases h)
  have hb:ad.isNone=true→l=[]:=fun hn=>by
   rcases h3 with h3|⟨ad',rfl,_⟩
   ·exact h3
   ·simp at hn
  have hq:QS w c.O0 σ ρ (.p .bool (if neg then !ad.isNone else ad.isNone)) [] (.bool (if neg then !ad.isNone else ad.isNone)) ρ w:=QS.still (BW _)
  have hs2:=hsr.add hc.K hc.O (dst:=some d) (fun d' hd'=>by cases hd';exact Bh (hd _ List.mem_cons_self) d rfl) rfl hq
  exact hk ad.isNone hb (fun o ho=>hd o (by simp[ho])) hko _ _ ⟨ρ,hs2⟩
 ·cases ht
end
end
/- From a law function's contract to the given statement: the arguments, read as data, are the contract's pure values; the end of the call in the statement's words. -/
section
open Go Go.RowKit Go.ChangeShapes Go.WideShapes
set_option maxRecDepth 100000
def eY (r:Ty→TypeId→Bool) (P:Program):Ty→Nat→List Field→Bool
 | .prod a b,o,fs=>match fs with
  | f :: fs=>f.offset==o&&P.cellsOf f.type==a.size&&r a f.type&&eY r P b (o+a.size) fs
  | []=>false
 | s,o,[f]=>f.offset==o&&P.cellsOf f.type==s.size&&r s f.type
 | _,_,_=>false
def iM (P:Program) (m:Nat) (e:TypeId):List Field:=(List.range m).map fun i=>{ (default:Field) with offset:=i*P.cellsOf e,type:=e }
def rd (P:Program):Nat→Ty→TypeId→Bool
 | 0,_,_=>false
 | _+1,.int k,t=>yC k (P.underlying t)
 | _+1,.bool,t=>match P.underlying t with|some .bool=>true|_=>false
 | _+1,.str,t=>match P.underlying t with|some .string=>true|_=>false
 | n+1,.slice e,t=>match P.underlying t with|some (.slice et)=>decide (0<P.bytesOf et)&&P.cellsOf et==e.size&&rd P n e et|_=>false
 | n+1,.agg s,t=>match P.underlying t with|some (.struct fs)=>P.cellsOf t==s.size&&eY (rd P n) P s 0 fs.toList|some (.array m e)=>P.cellsOf t==s.size&&eY (rd P n) P s 0 (iM P m e)|_=>false
 | _+1,_,_=>false
theorem eZ {P:Program} {n:Nat} {t:TypeId} (h:rd P (n+1) .bool t=true):P.underlying t=some .bool:=by
 simp only[rd]at h
 split at h
 ·assumption
 ·cases h
theorem mQ {P:Program} {n:Nat} {t:TypeId} (h:rd P (n+1) .str t=true):P.underlying t=some .string:=by
 simp only[rd]at h
 split at h
 ·assumption
 ·cases h
theorem Wj {P:Program} {n:Nat} {e:Ty} {t:TypeId} (h:rd P (n+1) (.slice e) t=true):∃et,P.underlying t=some (.slice et)∧0<P.bytesOf et∧P.cellsOf et=e.size∧rd P n e et=true:=by
 simp only[rd]at h
 split at h
 ·rename_i et hu
  simp only[Bool.and_eq_true,decide_eq_true_eq,beq_iff_eq]at h
  exact⟨et,hu,h.1.1,h.1.2,h.2⟩
 ·cases h
theorem mR {P:Program} {n:Nat} {s:Ty} {t:TypeId} (h:rd P (n+1) (.agg s) t=true):(∃fs,P.underlying t=some (.struct fs)∧P.cellsOf t=s.size∧eY (rd P n) P s 0 fs.toList=true)∨∃m e,P.underlying t=some (.array m e)∧P.cellsOf t=s.size∧eY (rd P n) P s 0 (iM P m e)=true:=by
 simp only[rd]at h
 split at h
 ·rename_i fs hu
  simp only[Bool.and_eq_true,beq_iff_eq]at h
  exact .inl ⟨fs,hu,h.1,h.2⟩
 ·rename_i m e hu
  simp only[Bool.and_eq_true,beq_iff_eq]at h
  exact .inr ⟨m,e,hu,h.1,h.2⟩
 ·cases h
theorem iO {w:World} {base:Nat} {a:Addr} {n:Nat} {cs:List Value} (h:w.cells? base a n=some cs):cs.length=n∧∀(j:Nat) (v:Value),cs[j]?=some v→w.cell? (a.add j)=some v:=by
 unfold World.cells? at h
 split at h
 ·have h1:=mapM_some_length h
  simp only[List.length_range]at h1
  refine⟨h1,fun j v hj=>?_⟩
  have hlt:j<n:=by
   obtain⟨hlt,_⟩:=List.getElem?_eq_some_iff.1 hj
   omega
  rw[mapM_some_get h j j (by simp[hlt]),hj]
 ·cases h
section
variable {H:Type} {enc:TypeId×Value→H} {P:Program} {w:World} {spare:Nat→Bool} {held:Bool}
theorem Wk {e:TypeId}:∀ {l:List (DataW H)} {d:DataW H},d∈l→∀n∈d.weights P e,n∈DataW.weightsAll P e l
 | a :: l,d,hd,n,hn=>by
  simp only[DataW.weightsAll,List.mem_append]
  rcases List.mem_cons.1 hd with rfl|hd
  ·exact .inl hn
  ·exact .inr (Wk hd n hn)
 | [],_,hd,_,_=>by cases hd
theorem Th {us:List TypeId} {gs:List (DataW H)}:∀ {ts:List TypeId} {ds:List (DataW H)},∀n∈DataW.weightsEach P ts ds,n∈DataW.weightsEach P (ts++us) (ds++gs)
 | t :: ts,d :: ds,n,hn=>by
  simp only[DataW.weightsEach,List.cons_append,List.mem_append]at hn ⊢
  rcases hn with hn|hn
  ·exact .inl hn
  ·exact .inr (Th n hn)
 | [],_,n,hn=>by simp[DataW.weightsEach]at hn
 | _ :: _,[],n,hn=>by simp[DataW.weightsEach]at hn
theorem Ti {e:TypeId}:∀ {m:Nat} {k:Nat} {ds:List (DataW H)},∀n∈DataW.weightsEach P (((List.range' k m).map fun i=>({ (default:Field) with offset:=i*P.cellsOf e,type:=e }:Field)).map (·.type)) ds,n∈DataW.weightsAll P e ds
 | 0,_,ds,n,hn=>by simp[DataW.weightsEach]at hn
 | m+1,k,[],n,hn=>by
  rw[List.range'_succ]at hn
  simp[DataW.weightsEach]at hn
 | m+1,k,d :: ds,n,hn=>by
  rw[List.range'_succ]at hn
  simp only[List.map_cons,DataW.weightsEach,List.mem_append]at hn
  simp only[DataW.weightsAll,List.mem_append]
  rcases hn with hn|hn
  ·exact .inl hn
  ·exact .inr (Ti n hn)
theorem PX {n:Nat} {r:Ty→TypeId→Bool}
  (hr:∀ty t,r ty t=true→∀(cs:List Value) (x:DataW H×List MemPlace),DataW.trod enc P w 0 spare held n t cs=some x→(∀b∈x.1.weights P t,b≤reachBytes)→∃d:ty.den,Bi w (fun _=>False) ty cs d) (cs:List Value) :
  ∀(s:Ty) (o:Nat) (fs:List Field),eY r P s o fs=true→∀xs:List (DataW H×List MemPlace),xs.length=fs.length →
   (∀(i:Nat) (f:Field),fs[i]?=some f→DataW.trod enc P w 0 spare held n f.type ((cs.drop f.offset).take (P.cellsOf f.type))=xs[i]?) →
   (∀b∈DataW.weightsEach P (fs.map (·.type)) (xs.map (·.1)),b≤reachBytes)→∃d:s.den,Bi w (fun _=>False) s ((cs.drop o).take s.size) d:=by
 have one:∀(s:Ty) (o:Nat) (f:Field),(f.offset==o&&P.cellsOf f.type==s.size&&r s f.type)=true→∀x:DataW H×List MemPlace,
   DataW.trod enc P w 0 spare held n f.type ((cs.drop f.offset).take (P.cellsOf f.type))=some x →
   (∀b∈x.1.weights P f.type,b≤reachBytes)→∃d:s.den,Bi w (fun _=>False) s ((cs.drop o).take s.size) d:=by
  intro s o f h x hx hb
  simp only[Bool.and_eq_true,beq_iff_eq]at h
  obtain⟨⟨rfl,h2⟩,h3⟩:=h
  rw[←h2]
  exact hr s f.type h3 _ x hx hb
 have lone:∀(s:Ty) (o:Nat) (f:Field),(f.offset==o&&P.cellsOf f.type==s.size&&r s f.type)=true→∀xs:List (DataW H×List MemPlace),xs.length=[f].length →
   (∀(i:Nat) (g:Field),[f][i]?=some g→DataW.trod enc P w 0 spare held n g.type ((cs.drop g.offset).take (P.cellsOf g.type))=xs[i]?) →
   (∀b∈DataW.weightsEach P ([f].map (·.type)) (xs.map (·.1)),b≤reachBytes)→∃d:s.den,Bi w (fun _=>False) s ((cs.drop o).take s.size) d:=by
  intro s o f h xs hl hx hb
  obtain⟨x,rfl⟩:∃x,xs=[x]:=List.length_eq_one_iff.1 (by simpa using hl)
  exact one s o f h x (hx 0 f rfl) (fun b hb'=>hb b (by simp[DataW.weightsEach,hb']))
 intro s
 induction s with
 | prod a b iha ihb =>
  intro o fs h xs hl hx hb
  cases fs with
  | nil=>simp[eY]at h
  | cons f fs =>
   simp only[eY,Bool.and_eq_true]at h
   obtain⟨⟨⟨h1,h2⟩,h3⟩,h4⟩:=h
   obtain⟨x,ys,rfl⟩:∃x ys,xs=x :: ys:=List.exists_cons_of_ne_nil (by intro h;subst h;simp at hl)
   obtain⟨d1,r1⟩:=one a o f (by simp only[h1,h2,h3,Bool.and_self]) x (hx 0 f rfl) (fun b hb'=>hb b (by
     simp only[List.map_cons,DataW.weightsEach,List.mem_append]
     exact .inl hb'))
   obtain⟨d2,r2⟩:=ihb (o+a.size) fs h4 ys (by simpa using hl) (fun i g hg=>hx (i+1) g hg) (fun b hb'=>hb b (by
     simp only[List.map_cons,DataW.weightsEach,List.mem_append]
     exact .inr hb'))
   refine⟨(d1,d2),(cs.drop o).take a.size,(cs.drop (o+a.size)).take b.size,?_,r1,r2⟩
   show (cs.drop o).take (a.size+b.size)=_
   rw[List.take_add,List.drop_drop]
 | int k=>intro o fs h;match fs,h with|[f],h=>exact lone _ o f (by simpa only[eY] using h)
 | bool=>intro o fs h;match fs,h with|[f],h=>exact lone _ o f (by simpa only[eY] using h)
 | str=>intro o fs h;match fs,h with|[f],h=>exact lone _ o f (by simpa only[eY] using h)
 | slice e _=>intro o fs h;match fs,h with|[f],h=>exact lone _ o f (by simpa only[eY] using h)
 | agg t _=>intro o fs h;match fs,h with|[f],h=>exact lone _ o f (by simpa only[eY] using h)
 | ref k=>intro o fs h;match fs,h with|[f],h=>exact lone _ o f (by simpa only[eY] using h)
theorem mS:∀(k:Nat) (ty:Ty) (t:TypeId),rd P k ty t=true→∀(n:Nat) (cs:List Value) (x:DataW H×List MemPlace),
  DataW.trod enc P w 0 spare held n t cs=some x→(∀b∈x.1.weights P t,b≤reachBytes)→∃d:ty.den,Bi w (fun _=>False) ty cs d:=by
 intro k
 induction k with
 | zero=>intro ty t h;simp[rd]at h
 | succ k ih =>
  intro ty t h n cs x hx hb
  cases ty with
  | int q =>
   have hu:=Uq (by simpa only[rd] using h)
   obtain⟨m,rfl,rfl,hw⟩:=DataW.trod_int hu hx
   simp only[Lit.wf,Bool.and_eq_true,decide_eq_true_eq]at hw
   exact⟨m,rfl,hw⟩
  | bool =>
   obtain⟨b,rfl,rfl⟩:=DataW.trod_bool (eZ h) hx
   exact⟨b,rfl⟩
  | str =>
   obtain⟨b,rfl,rfl,_⟩:=DataW.trod_string (mQ h) hx
   refine⟨b,rfl,?_⟩
   have:=hb b.data.toList.length (by simp only[DataW.weights];exact List.mem_cons_self)
   have h2:b.data.toList.length=b.size:=Array.length_toList
   simp only[reachBytes]at this
   simp only[AO]
   omega
  | slice e =>
   obtain⟨et,hu,hb0,hce,he⟩:=Wj h
   rcases DataW.trod_slice hu hx with ⟨rfl,rfl⟩|⟨a,len,cap,elems,rest,m,rfl,rfl,rfl,-,hlc,-,hlen,helems,-,-⟩
   ·exact⟨[],none,0,rfl,Nat.le_refl _,Nat.zero_le _,.inl rfl⟩
   ·have hsz:len≤AO:=by
     have h1:=hb ((elems.length+rest.length)*P.bytesOf et) (by simp only[DataW.weights,hu,List.length_map];exact List.mem_cons_self)
     have h2:elems.length+rest.length≤(elems.length+rest.length)*P.bytesOf et:=Nat.le_mul_of_pos_right _ hb0
     simp only[reachBytes]at h1
     simp only[AO]
     omega
    have hel:∀i,i<len→∃d:e.den,∃es:List Value,es.length=e.size∧(∀(j:Nat) (v:Value),es[j]?=some v→w.cell? (a.add (i*e.size+j))=some v)∧Bi w (fun _=>False) e es d:=by
     intro i hi
     have h1:=helems i hi
     obtain⟨x,hx⟩:∃x,elems[i]?=some x:=⟨_,List.getElem?_eq_getElem (by omega)⟩
     rw[hx]at h1
     obtain⟨es,h2,h3⟩:=Option.bind_eq_some_iff.1 h1
     obtain⟨h4,h5⟩:=iO h2
     obtain⟨d,hd⟩:=ih e et he m es x h3 (fun b hb'=>hb b (by
      simp only[DataW.weights,hu]
      exact List.mem_cons_of_mem _ (List.mem_append_left _ (Wk (List.mem_map.2 ⟨x,List.mem_of_getElem? hx,rfl⟩) b hb'))))
     refine⟨d,es,by rw[h4,hce],fun j v hj=>?_,hd⟩
     have:=h5 j v hj
     rwa [DD,hce]at this
    have hall:∃ds:List e.den,ds.length=len∧∀(i:Nat) (d:e.den),ds[i]?=some d→∃es:List Value,es.length=e.size∧(∀(j:Nat) (v:Value),es[j]?=some v→w.cell? (a.add (i*e.size+j))=some v)∧Bi w (fun _=>False) e es d:=by
     refine⟨(List.range len).pmap (fun i hi=>Classical.choose (hel i hi)) (fun i hi=>List.mem_range.1 hi),by simp,fun i d hd=>?_⟩
     rw[List.getElem?_pmap]at hd
     simp only[Option.pmap_eq_some_iff]at hd
     obtain⟨j,h1,h2,rfl⟩:=hd
     have hij:j=i:=by
      obtain⟨hlt,he⟩:=List.getElem?_eq_some_iff.1 h2
      simpa using he.symm
     subst hij
     exact Classical.choose_spec (hel j h1)
    obtain⟨ds,hdl,hds⟩:=hall
    exact⟨ds,some a,cap,by rw[hdl],by omega,by omega,.inr ⟨a,rfl,fun h=>h,hds⟩⟩
  | agg s =>
   rcases mR h with ⟨fs,hu,hcs,hf⟩|⟨q,e,hu,hcs,hf⟩
   ·obtain⟨xs,m,rfl,rfl,hl,hxl,hxs⟩:=DataW.trod_struct hu hx
    obtain⟨d,hd⟩:=PX (fun ty t hrd cs x hx hb=>ih ty t hrd m cs x hx hb) cs s 0 fs.toList hf xs (by simpa using hxl) (fun i f hi=>hxs i f (by simpa using hi)) (by
     simpa[DataW.weights,hu] using hb)
    refine⟨d,?_⟩
    show Bi w _ s cs d
    rwa [List.drop_zero,List.take_of_length_le (by omega)]at hd
   ·obtain⟨xs,m,rfl,rfl,hl,hxl,hxs⟩:=DataW.trod_array hu hx
    obtain⟨d,hd⟩:=PX (fun ty t hrd cs x hx hb=>ih ty t hrd m cs x hx hb) cs s 0 (iM P q e) hf xs (by simp[iM,hxl]) (fun i f hi=>by
     unfold iM at hi
     rw[List.getElem?_map]at hi
     by_cases hiq:i<q
     ·rw[List.getElem?_range hiq]at hi
      have hi:({ (default:Field) with offset:=i*P.cellsOf e,type:=e }:Field)=f:=by simpa using hi
      rw[←hi]
      exact hxs i hiq
     ·rw[List.getElem?_eq_none (by simp;omega)]at hi
      cases hi) (fun b hb'=>hb b (by
     simp only[DataW.weights,hu]
     unfold iM at hb'
     rw[List.range_eq_range']at hb'
     exact Ti b hb'))
    refine⟨d,?_⟩
    show Bi w _ s cs d
    rwa [List.drop_zero,List.take_of_length_le (by omega)]at hd
  | prod a b=>simp[rd]at h
  | ref j=>simp[rd]at h
theorem uA {k:Nat} {ty:Ty} {t:TypeId} {v:Value} {r:Reach} {base:Nat} (h:rd P k ty t=true) (hv:Value.okWide P w r base t v):v=ty.wrap v.cells.toList:=by
 cases k with
 | zero=>simp[rd]at h
 | succ k =>
  cases ty with
  | int q =>
   obtain⟨n,rfl⟩:=okWide_int (Uq (by simpa only[rd] using h)) hv
   rfl
  | bool =>
   obtain⟨n,rfl⟩:=okWide_bool (eZ h) hv
   rfl
  | str =>
   obtain⟨n,rfl⟩:=okWide_string (mQ h) hv
   rfl
  | slice e =>
   obtain⟨et,hu,_⟩:=Wj h
   obtain⟨a,l,c,rfl⟩:=okWide_slice hu hv
   rfl
  | agg s =>
   rcases mR h with ⟨fs,hu,_⟩|⟨q,e,hu,_⟩
   ·obtain⟨cs,rfl,_⟩:=okWide_struct hu hv
    simp[Ty.wrap,Value.cells]
   ·simp only[Value.okWide,hu]at hv
    obtain⟨cs,rfl,_⟩:=hv
    simp[Ty.wrap,Value.cells]
  | prod a b=>simp[rd]at h
  | ref j=>simp[rd]at h
def Lu (P:Program):List Ty→List TypeId→Bool
 | [],[]=>true
 | ty :: tys,t :: ts=>rd P 50 ty t&&P.readableRec t&&decide (t<P.types.size)&&Lu P tys ts
 | _,_=>false
theorem Wl {r:Reach} {base:Nat}:∀(tys:List Ty) (ts:List TypeId) (vs:List Value) (ds:List (DataW H)) (p:List MemPlace),Lu P tys ts=true→DataW.TrodAll enc P w 0 spare held ts vs ds p →
  (∀(j:Nat) (t:TypeId) (v:Value),ts[j]?=some t→vs[j]?=some v→Value.okWide P w r base t v)→(∀b∈DataW.weightsEach P ts ds,b≤reachBytes)→∃xs:KU tys,O6 w (fun _=>False) tys vs xs
 | [],[],vs,ds,p,_,h,_,_=>by
  obtain⟨rfl,_,_⟩:=trodAll_nil h
  exact⟨(),rfl⟩
 | ty :: tys,t :: ts,vs,ds,p,hrd,h,hv,hb=>by
  simp only[Lu,Bool.and_eq_true]at hrd
  obtain⟨⟨⟨h1,_⟩,_⟩,h2⟩:=hrd
  obtain⟨v,vs',d,ds',p1,q1,rfl,rfl,rfl,⟨n,hd⟩,hrest⟩:=trodAll_cons h
  simp only[DataW.weightsEach,List.mem_append]at hb
  obtain⟨x,hx⟩:=mS 50 ty t h1 n _ _ hd (fun b hb'=>hb b (.inl hb'))
  obtain⟨xs,hxs⟩:=Wl tys ts vs' ds' q1 h2 hrest (fun j t' v' ht hv'=>hv (j+1) t' v' ht hv') (fun b hb'=>hb b (.inr hb'))
  exact⟨(x,xs),v,vs',rfl,⟨_,hx,uA h1 (hv 0 t v rfl rfl)⟩,hxs⟩
 | [],_ :: _,_,_,_,h,_,_,_=>by simp[Lu]at h
 | _ :: _,[],_,_,_,h,_,_,_=>by simp[Lu]at h
theorem Tj (hl:laidOutB P=true) {W W':World} (hb:Below W.heap.size W W'):∀(tys:List Ty) (ts:List TypeId) (vs:List Value) (ds:List (DataW H)) (p:List MemPlace),Lu P tys ts=true →
  DataW.TrodAll enc P W 0 (fun _=>true) true ts vs ds p→(∀x∈p,x.block<W.heap.size)→DataW.TrodAll enc P W' 0 (fun b=>decide (b<W.heap.size)) true ts vs ds p
 | [],[],vs,ds,p,_,h,_=>by
  obtain⟨rfl,rfl,rfl⟩:=trodAll_nil h
  rfl
 | ty :: tys,t :: ts,vs,ds,p,hrd,h,hlt=>by
  simp only[Lu,Bool.and_eq_true,decide_eq_true_eq]at hrd
  obtain⟨⟨⟨_,h1⟩,h2⟩,h3⟩:=hrd
  obtain⟨v,vs',d,ds',p1,q1,rfl,rfl,rfl,hd,hrest⟩:=trodAll_cons h
  exact⟨p1,q1,Below.trod hl h1 h2 hd hb (fun x hx=>hlt x (List.mem_append_left _ hx)),Tj hl hb tys ts vs' ds' q1 h3 hrest (fun x hx=>hlt x (List.mem_append_right _ hx)),rfl⟩
 | [],_ :: _,_,_,_,h,_,_=>by simp[Lu]at h
 | _ :: _,[],_,_,_,h,_,_=>by simp[Lu]at h
end
theorem mT {w:World} {O:Nat→Prop} {u:Value} {w':World} (h:lE w O [.p .bool true] u w'):u=.bool true∧Below w.heap.size w w':=by
 obtain⟨ρ',hq⟩:=h 0
 refine⟨?_,hq.below⟩
 obtain⟨cs,h1,h2⟩:BR _ _ .bool u true:=hq.av
 have h1:cs=[.bool true]:=h1
 rw[h2,h1]
 rfl
theorem mU {P:Program} {f:FuncId} {fn:Func} {sp:Ah} {s:ChangeSpec} {tb:TypeId} (hok:Ao P f sp) (hpre:∀ds,sp.pre ds) (hout:∀ds,sp.out ds=[.p .bool true])
  (hl:laidOutB P=true) (hrd:Lu P sp.ins fn.params.toList=true) (hres:fn.resultTypes=#[tb]) (hbool:P.underlying tb=some .bool) (hvars:s.vars=[])
  (hs:∀(H:Type) (ds:List (DataW H)),ds.length=fn.params.size→(s.fn H ds).results=[.lit (.bool true)]∧(s.fn H ds).args=ds∧(s.fn H ds).vars=[])
  {H:Type} {enc:TypeId×Value→H} {W:World} {base:Nat} {args:Array Value} {ds gs:List (DataW H)} {before:List MemPlace} {us:List TypeId}
  (hval:∀(j:Nat) t v,fn.params[j]?=some t→args[j]?=some v→Value.okWide P W .any base t v)
  (hW:DataW.Whole enc P fn.params.toList s.vars false W args.toList ds gs before)
  (hsz:(DataW.weightsEach P (fn.params.toList++us) (ds++gs)).all (·≤reachBytes)=true) :
  Calls P f args W fun e W'=>∃v,e=.returned v∧s.post enc P fn false true false false W args v W':=by
 have hW':=hW
 obtain⟨p,q,hA,hV,rfl,hfz,hnd⟩:=hW
 rw[hvars]at hV
 obtain⟨rfl,rfl⟩:=trodVars_none hV
 obtain⟨xs,hxs⟩:=Wl sp.ins fn.params.toList args.toList ds p hrd hA (fun j t v ht hv=>hval j t v (by simpa using ht) (by simpa using hv))
  (fun b hb=>by simpa using List.all_eq_true.1 hsz b (Th b hb))
 have hlt:∀x∈p,x.block<W.heap.size:=fun x hx=>by simpa using hW'.lt x (List.mem_append_left _ hx)
 have hlen:ds.length=fn.params.size:=by
  have:∀(ts:List TypeId) (vs:List Value) (ds:List (DataW H)) (p:List MemPlace),DataW.TrodAll enc P W 0 (fun _=>true) true ts vs ds p→ds.length=ts.length:=by
   intro ts
   induction ts with
   | nil=>intro vs ds p h;obtain⟨_,rfl,_⟩:=trodAll_nil h;rfl
   | cons t ts ih=>intro vs ds p h;obtain⟨v,vs',d,ds',p1,q1,rfl,rfl,rfl,_,hr⟩:=trodAll_cons h;simp[ih _ _ _ hr]
  simpa using this _ _ _ _ hA
 have hc:=hok.2 W (fun _=>False) args.toList xs (fun _ h=>h.elim) hxs (hpre xs)
 rw[hout]at hc
 have ea:args.toList.toArray=args:=by simp
 rw[ea]at hc
 refine hc.mono fun e W' ⟨u,he,hu⟩=>?_
 obtain⟨rfl,hb⟩:=mT hu
 obtain⟨e1,e2,e3⟩:=hs H (ds++[]) (by simpa using hlen)
 refine⟨_,he,_,_,_,[],p,[],hW',?_,?_,?_,hb.frame _,fun h=>by cases h⟩
 ·rw[e1,hres]
  exact trodAll_mk1 (shut_bool hbool _)
 ·rw[e2,List.append_nil]
  exact Tj hl hb sp.ins _ _ _ _ hrd hA hlt
 ·rw[e3,hvars]
  rfl
end
end Go.Proofs.YtdapahgnpbehbaaGreat.Fw

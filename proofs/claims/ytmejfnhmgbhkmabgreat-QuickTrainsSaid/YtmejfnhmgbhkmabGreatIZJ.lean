/- This program's types; a slice compared with nil; from a contract to the given statement. -/
/- The shapes of this program's types. -/
import Derived.Test.YtmejfnhmgbhkmabGreatIZI
import Derived.Test.YtmejfnhmgbhkmabGreatChecked
import Derived.Laws.Cover3
import Derived.Carry
import Derived.SizedLaws
import Derived.OpenShut
set_option linter.unusedVariables false
set_option linter.unusedSimpArgs false
namespace Go.Proofs.YtmejfnhmgbhkmabGreat.Fw
section
open Go
abbrev T1:Ty:=.ref 1
abbrev T2:Ty:=.int .i64
abbrev T3:Ty:=.int .i64
abbrev T4:Ty:=.bool
abbrev T5:Ty:=.int .u8
abbrev T9:Ty:=.str
abbrev T12:Ty:=.int .u64
abbrev T21:Ty:=.int .i32
abbrev T26:Ty:=.ref 1
abbrev T27:Ty:=.ref 1
abbrev T28:Ty:=.ref 1
abbrev T29:Ty:=.ref 1
abbrev Bz:Ty:=.slice T3
abbrev T31:Ty:=.ref 1
abbrev T32:Ty:=.ref 1
abbrev T38:Ty:=.ref 1
abbrev T39:Ty:=.ref 1
abbrev T40:Ty:=.ref 1
abbrev T41:Ty:=.ref 1
abbrev T42:Ty:=.ref 1
abbrev T43:Ty:=.ref 1
abbrev T44:Ty:=.ref 1
abbrev T45:Ty:=.ref 1
abbrev T47:Ty:=.ref 1
abbrev T48:Ty:=.ref 1
abbrev T49:Ty:=.ref 1
abbrev T51:Ty:=.ref 1
abbrev T52:Ty:=.ref 1
abbrev T55:Ty:=.ref 1
abbrev T57:Ty:=.ref 1
abbrev T58:Ty:=.ref 1
abbrev T62:Ty:=.agg (.prod T3 (T3))
abbrev sX:Ty:=.agg (.prod T3 (T3))
abbrev XZ:Ty:=.int .i64
abbrev T66:Ty:=.ref 1
abbrev T67:Ty:=.ref 1
abbrev T69:Ty:=.ref 1
abbrev T71:Ty:=.ref 1
abbrev T72:Ty:=.ref 1
abbrev T73:Ty:=.ref 1
abbrev T74:Ty:=.ref 1
abbrev T75:Ty:=.ref 1
abbrev T76:Ty:=.ref 1
abbrev T77:Ty:=.ref 1
abbrev T78:Ty:=.ref 1
abbrev T79:Ty:=.ref 2
abbrev T80:Ty:=.ref 1
abbrev T81:Ty:=.agg (.prod Bz (T3))
abbrev Bi:Ty:=.agg (.prod Bz (T3))
abbrev T83:Ty:=.slice Bi
abbrev T84:Ty:=.ref 1
abbrev T85:Ty:=.ref 1
abbrev T86:Ty:=.ref 1
abbrev T88:Ty:=.ref 1
abbrev T89:Ty:=.slice T4
abbrev T90:Ty:=.ref 0
abbrev T94:Ty:=.ref 1
abbrev T95:Ty:=.ref 1
abbrev T96:Ty:=.ref 1
abbrev T97:Ty:=.ref 1
abbrev T98:Ty:=.ref 1
abbrev T99:Ty:=.ref 1
abbrev A0J:Ty:=.ref 1
abbrev A0K:Ty:=.ref 1
abbrev A0L:Ty:=.ref 1
abbrev A0M:Ty:=.ref 1
abbrev Bl:Ty:=.slice T9
abbrev A0N:Ty:=.ref 1
abbrev A0O:Ty:=.ref 1
abbrev A0P:Ty:=.ref 1
abbrev A0Q:Ty:=.ref 1
abbrev A0R:Ty:=.ref 1
abbrev A0S:Ty:=.ref 1
abbrev A0T:Ty:=.ref 1
abbrev A0U:Ty:=.ref 1
abbrev A0V:Ty:=.ref 1
abbrev A0W:Ty:=.ref 1
abbrev A0X:Ty:=.int .u64
abbrev A0Y:Ty:=.slice T5
abbrev A0Z:Ty:=.ref 1
abbrev A10:Ty:=.ref 1
abbrev z7:Ty:=.agg (.prod T3 (T3))
abbrev A11:Ty:=.slice z7
abbrev A12:Ty:=.ref 1
abbrev A13:Ty:=.ref 1
abbrev A14:Ty:=.ref 0
abbrev A15:Ty:=.ref 1
abbrev A16:Ty:=.ref 1
abbrev A17:Ty:=.ref 1
abbrev A18:Ty:=.ref 1
abbrev A19:Ty:=.ref 1
abbrev A1a:Ty:=.ref 1
abbrev A1b:Ty:=.ref 1
abbrev A1c:Ty:=.ref 1
abbrev A1d:Ty:=.agg (.prod T3 (T3))
abbrev oX:Ty:=.agg (.prod T3 (T3))
abbrev A1e:Ty:=.ref 1
abbrev A1f:Ty:=.ref 1
abbrev A1g:Ty:=.ref 1
abbrev A1h:Ty:=.ref 1
abbrev A1i:Ty:=.ref 1
abbrev A1j:Ty:=.ref 1
abbrev A1k:Ty:=.ref 1
abbrev A1l:Ty:=.agg (.prod T9 (T3))
abbrev oY:Ty:=.agg (.prod T9 (T3))
abbrev A1m:Ty:=.agg (.prod T9 (T9))
abbrev Zb:Ty:=.agg (.prod T9 (T9))
abbrev NC:Ty:=.int .u64
abbrev A1n:Ty:=.ref 1
abbrev A1o:Ty:=.ref 1
abbrev A1p:Ty:=.ref 1
abbrev A1q:Ty:=.ref 1
abbrev A1r:Ty:=.ref 1
abbrev A1s:Ty:=.int .i64
abbrev A1t:Ty:=.ref 1
abbrev A1u:Ty:=.ref 1
abbrev A1v:Ty:=.ref 1
abbrev A1w:Ty:=.ref 1
abbrev A1x:Ty:=.ref 1
abbrev A1y:Ty:=.int .u32
abbrev A1z:Ty:=.ref 1
abbrev A1A:Ty:=.ref 1
abbrev A1B:Ty:=.ref 1
abbrev A1C:Ty:=.ref 1
abbrev A1D:Ty:=.ref 1
abbrev A1E:Ty:=.ref 1
abbrev A1F:Ty:=.ref 1
abbrev A1G:Ty:=.ref 1
abbrev A1H:Ty:=.ref 1
abbrev A1I:Ty:=.ref 1
abbrev A1J:Ty:=.ref 1
abbrev A1K:Ty:=.ref 1
abbrev A1L:Ty:=.ref 1
abbrev A1M:Ty:=.ref 1
abbrev A1N:Ty:=.ref 1
abbrev A1O:Ty:=.ref 1
abbrev A1P:Ty:=.int .u64
abbrev A1Q:Ty:=.ref 1
abbrev A1R:Ty:=.ref 1
abbrev A1S:Ty:=.ref 1
abbrev A1T:Ty:=.ref 0
abbrev A1U:Ty:=.ref 1
abbrev A1V:Ty:=.ref 1
abbrev A1W:Ty:=.ref 1
abbrev A1X:Ty:=.ref 1
abbrev A1Y:Ty:=.ref 1
abbrev A1Z:Ty:=.ref 1
abbrev A20:Ty:=.ref 1
abbrev A21:Ty:=.ref 0
abbrev A22:Ty:=.ref 1
abbrev A23:Ty:=.ref 1
abbrev A24:Ty:=.ref 1
abbrev A25:Ty:=.ref 1
abbrev A26:Ty:=.ref 1
abbrev A27:Ty:=.ref 1
abbrev A28:Ty:=.ref 1
abbrev A29:Ty:=.ref 1
abbrev A2a:Ty:=.ref 0
abbrev IJ:Ty:=.slice Bz
abbrev Xa:Ty:=.slice oY
abbrev Vg:Ty:=.slice sX
abbrev T60:Ty:=.agg (.prod T3 (Vg))
abbrev z8:Ty:=.agg (.prod T3 (Vg))
abbrev T87:Ty:=.slice IJ
abbrev T91:Ty:=.slice Vg
abbrev A2b:Ty:=.slice NC
abbrev A7:Ty:=.slice NC
abbrev A2c:Ty:=.agg (.prod T9 (A7))
abbrev Vh:Ty:=.agg (.prod T9 (A7))
abbrev Vi:Ty:=.slice oX
abbrev A2d:Ty:=.agg (.prod T9 (.prod A7 (.prod Bz (Vi))))
abbrev kE:Ty:=.agg (.prod T9 (.prod A7 (.prod Bz (Vi))))
abbrev Xb:Ty:=.slice Zb
abbrev A2e:Ty:=.agg (.prod T9 (.prod Bl (Xb)))
abbrev kF:Ty:=.agg (.prod T9 (.prod Bl (Xb)))
abbrev QF:Ty:=.slice A7
abbrev MZ:Ty:=.slice z8
abbrev T23:Ty:=.agg (MZ)
abbrev HS:Ty:=.agg (MZ)
abbrev EH:Ty:=.slice kF
abbrev WZ:Ty:=.slice kE
abbrev T36:Ty:=.agg (.prod WZ (Xa))
abbrev TH:Ty:=.agg (.prod WZ (Xa))
abbrev T50:Ty:=.agg (.prod HS (HS))
abbrev T53:Ty:=.agg (.prod EH (.prod HS (.prod HS (IJ))))
abbrev T54:Ty:=.agg (.prod EH (.prod HS (.prod HS (IJ))))
abbrev T92:Ty:=.agg (.prod TH (.prod Bz (.prod Bz (T91))))
abbrev T93:Ty:=.agg (.prod TH (.prod Bz (.prod Bz (T91))))
abbrev uI:Ty:=.slice Vi
abbrev IK:Ty:=.slice Vh
abbrev A2g:Ty:=.agg (.prod HS (.prod Bz (Bz)))
abbrev A2h:Ty:=.agg (.prod HS (.prod Bz (Bz)))
abbrev kG:Ty:=.slice T50
set_option maxRecDepth 100000
def AM:List (Nat×TI):=[(1,⟨T1,[],0,8⟩),
 (2,⟨T2,[],0,8⟩),
 (3,⟨T3,[],0,8⟩),
 (4,⟨T4,[],0,1⟩),
 (5,⟨T5,[],0,1⟩),
 (9,⟨T9,[],0,16⟩),
 (12,⟨T12,[],0,8⟩),
 (21,⟨T21,[],0,4⟩),
 (22,⟨MZ,[],61,24⟩),
 (23,⟨T23,[(0,1)],0,24⟩),
 (24,⟨HS,[(0,1)],0,24⟩),
 (25,⟨IJ,[],30,24⟩),
 (26,⟨T26,[],0,8⟩),
 (27,⟨T27,[],0,8⟩),
 (28,⟨T28,[],0,8⟩),
 (29,⟨T29,[],0,8⟩),
 (30,⟨Bz,[],3,24⟩),
 (31,⟨T31,[],0,8⟩),
 (32,⟨T32,[],0,8⟩),
 (33,⟨EH,[],119,24⟩),
 (34,⟨WZ,[],113,24⟩),
 (35,⟨Xa,[],162,24⟩),
 (36,⟨T36,[(0,1),(1,1)],0,48⟩),
 (37,⟨TH,[(0,1),(1,1)],0,48⟩),
 (38,⟨T38,[],0,8⟩),
 (39,⟨T39,[],0,8⟩),
 (40,⟨T40,[],0,8⟩),
 (41,⟨T41,[],0,8⟩),
 (42,⟨T42,[],0,8⟩),
 (43,⟨T43,[],0,8⟩),
 (44,⟨T44,[],0,8⟩),
 (45,⟨T45,[],0,8⟩),
 (46,⟨kG,[],50,24⟩),
 (47,⟨T47,[],0,8⟩),
 (48,⟨T48,[],0,8⟩),
 (49,⟨T49,[],0,8⟩),
 (50,⟨T50,[(0,1),(1,1)],24,48⟩),
 (51,⟨T51,[],0,8⟩),
 (52,⟨T52,[],0,8⟩),
 (53,⟨T53,[(0,1),(1,1),(2,1),(3,1)],0,96⟩),
 (54,⟨T54,[(0,1),(1,1),(2,1),(3,1)],0,96⟩),
 (55,⟨T55,[],0,8⟩),
 (57,⟨T57,[],0,8⟩),
 (58,⟨T58,[],0,8⟩),
 (59,⟨Vg,[],63,24⟩),
 (60,⟨T60,[(0,1),(1,1)],0,32⟩),
 (61,⟨z8,[(0,1),(1,1)],0,32⟩),
 (62,⟨T62,[(0,1),(1,1)],0,16⟩),
 (63,⟨sX,[(0,1),(1,1)],0,16⟩),
 (64,⟨XZ,[],0,8⟩),
 (66,⟨T66,[],0,8⟩),
 (67,⟨T67,[],0,8⟩),
 (69,⟨T69,[],0,8⟩),
 (71,⟨T71,[],0,8⟩),
 (72,⟨T72,[],0,8⟩),
 (73,⟨T73,[],0,8⟩),
 (74,⟨T74,[],0,8⟩),
 (75,⟨T75,[],0,8⟩),
 (76,⟨T76,[],0,8⟩),
 (77,⟨T77,[],0,8⟩),
 (78,⟨T78,[],0,8⟩),
 (79,⟨T79,[(9,82)],0,8⟩),
 (80,⟨T80,[],0,8⟩),
 (81,⟨T81,[(0,1),(1,1)],0,32⟩),
 (82,⟨Bi,[(0,1),(1,1)],0,32⟩),
 (83,⟨T83,[],82,24⟩),
 (84,⟨T84,[],0,8⟩),
 (85,⟨T85,[],0,8⟩),
 (86,⟨T86,[],0,8⟩),
 (87,⟨T87,[],25,24⟩),
 (88,⟨T88,[],0,8⟩),
 (89,⟨T89,[],4,24⟩),
 (90,⟨T90,[],0,8⟩),
 (91,⟨T91,[],59,24⟩),
 (92,⟨T92,[(0,2),(2,1),(3,1),(4,1)],0,120⟩),
 (93,⟨T93,[(0,2),(2,1),(3,1),(4,1)],0,120⟩),
 (94,⟨T94,[],0,8⟩),
 (95,⟨T95,[],0,8⟩),
 (96,⟨T96,[],0,8⟩),
 (97,⟨T97,[],0,8⟩),
 (98,⟨T98,[],0,8⟩),
 (99,⟨T99,[],0,8⟩),
 (100,⟨uI,[],111,24⟩),
 (102,⟨A0J,[],0,8⟩),
 (103,⟨IK,[],109,24⟩),
 (105,⟨A0K,[],0,8⟩),
 (106,⟨A2b,[],165,24⟩),
 (107,⟨A7,[],165,24⟩),
 (108,⟨A2c,[(0,1),(1,1)],0,40⟩),
 (109,⟨Vh,[(0,1),(1,1)],0,40⟩),
 (110,⟨A0L,[],0,8⟩),
 (111,⟨Vi,[],151,24⟩),
 (112,⟨A2d,[(0,1),(1,1),(2,1),(3,1)],0,88⟩),
 (113,⟨kE,[(0,1),(1,1),(2,1),(3,1)],0,88⟩),
 (115,⟨A0M,[],0,8⟩),
 (116,⟨Bl,[],9,24⟩),
 (117,⟨Xb,[],164,24⟩),
 (118,⟨A2e,[(0,1),(1,1),(2,1)],0,64⟩),
 (119,⟨kF,[(0,1),(1,1),(2,1)],0,64⟩),
 (120,⟨A0N,[],0,8⟩),
 (121,⟨A0O,[],0,8⟩),
 (122,⟨A0P,[],0,8⟩),
 (123,⟨A0Q,[],0,8⟩),
 (124,⟨A0R,[],0,8⟩),
 (125,⟨A0S,[],0,8⟩),
 (126,⟨A0T,[],0,8⟩),
 (127,⟨A0U,[],0,8⟩),
 (128,⟨A0V,[],0,8⟩),
 (129,⟨A0W,[],0,8⟩),
 (130,⟨A0X,[],0,8⟩),
 (131,⟨A0Y,[],5,24⟩),
 (132,⟨A0Z,[],0,8⟩),
 (133,⟨A10,[],0,8⟩),
 (134,⟨z7,[(0,1),(1,1)],3,16⟩),
 (135,⟨A11,[],134,24⟩),
 (136,⟨A12,[],0,8⟩),
 (137,⟨A13,[],0,8⟩),
 (138,⟨A14,[],0,8⟩),
 (139,⟨A2g,[(0,1),(1,1),(2,1)],0,72⟩),
 (140,⟨A2h,[(0,1),(1,1),(2,1)],0,72⟩),
 (141,⟨A15,[],0,8⟩),
 (142,⟨A16,[],0,8⟩),
 (143,⟨A17,[],0,8⟩),
 (144,⟨A18,[],0,8⟩),
 (145,⟨A19,[],0,8⟩),
 (146,⟨A1a,[],0,8⟩),
 (148,⟨A1b,[],0,8⟩),
 (149,⟨A1c,[],0,8⟩),
 (150,⟨A1d,[(0,1),(1,1)],0,16⟩),
 (151,⟨oX,[(0,1),(1,1)],0,16⟩),
 (152,⟨QF,[],107,24⟩),
 (153,⟨A1e,[],0,8⟩),
 (154,⟨A1f,[],0,8⟩),
 (155,⟨A1g,[],0,8⟩),
 (156,⟨A1h,[],0,8⟩),
 (157,⟨A1i,[],0,8⟩),
 (159,⟨A1j,[],0,8⟩),
 (160,⟨A1k,[],0,8⟩),
 (161,⟨A1l,[(0,1),(1,1)],0,24⟩),
 (162,⟨oY,[(0,1),(1,1)],0,24⟩),
 (163,⟨A1m,[(0,1),(1,1)],0,32⟩),
 (164,⟨Zb,[(0,1),(1,1)],0,32⟩),
 (165,⟨NC,[],0,8⟩),
 (166,⟨A1n,[],0,8⟩),
 (167,⟨A1o,[],0,8⟩),
 (168,⟨A1p,[],0,8⟩),
 (169,⟨A1q,[],0,8⟩),
 (170,⟨A1r,[],0,8⟩),
 (171,⟨A1s,[],0,8⟩),
 (173,⟨A1t,[],0,8⟩),
 (174,⟨A1u,[],0,8⟩),
 (175,⟨A1v,[],0,8⟩),
 (176,⟨A1w,[],0,8⟩),
 (177,⟨A1x,[],0,8⟩),
 (178,⟨A1y,[],0,4⟩),
 (179,⟨A1z,[],0,8⟩),
 (180,⟨A1A,[],0,8⟩),
 (181,⟨A1B,[],0,8⟩),
 (182,⟨A1C,[],0,8⟩),
 (183,⟨A1D,[],0,8⟩),
 (184,⟨A1E,[],0,8⟩),
 (185,⟨A1F,[],0,8⟩),
 (186,⟨A1G,[],0,8⟩),
 (187,⟨A1H,[],0,8⟩),
 (188,⟨A1I,[],0,8⟩),
 (190,⟨A1J,[],0,8⟩),
 (191,⟨A1K,[],0,8⟩),
 (192,⟨A1L,[],0,8⟩),
 (193,⟨A1M,[],0,8⟩),
 (194,⟨A1N,[],0,8⟩),
 (195,⟨A1O,[],0,8⟩),
 (196,⟨A1P,[],0,8⟩),
 (197,⟨A1Q,[],0,8⟩),
 (198,⟨A1R,[],0,8⟩),
 (199,⟨A1S,[],0,8⟩),
 (200,⟨A1T,[],0,8⟩),
 (201,⟨A1U,[],0,8⟩),
 (202,⟨A1V,[],0,8⟩),
 (203,⟨A1W,[],0,8⟩),
 (204,⟨A1X,[],0,8⟩),
 (205,⟨A1Y,[],0,8⟩),
 (206,⟨A1Z,[],0,8⟩),
 (207,⟨A20,[],0,8⟩),
 (208,⟨A21,[],0,8⟩),
 (210,⟨A22,[],0,8⟩),
 (211,⟨A23,[],0,8⟩),
 (212,⟨A24,[],0,8⟩),
 (213,⟨A25,[],0,8⟩),
 (214,⟨A26,[],0,8⟩),
 (215,⟨A27,[],0,8⟩),
 (221,⟨A28,[],0,8⟩),
 (224,⟨A29,[],0,8⟩),
 (225,⟨A2a,[],0,8⟩)]
theorem AF (f) (pu:List Nat:=[]) (ne:List (Nat×TypeId):=[]):DG Tryz.prog ⟨AM,f,pu,ne⟩:=tB (by kernel_rfl)
theorem drawsAny:Tryz.prog.follows .mixedOrders=true:=by kernel_rfl
theorem ty1:lk 1 AM=some ⟨T1,[],0,8⟩:=rfl
theorem ty2:lk 2 AM=some ⟨T2,[],0,8⟩:=rfl
theorem ty3:lk 3 AM=some ⟨T3,[],0,8⟩:=rfl
theorem ty4:lk 4 AM=some ⟨T4,[],0,1⟩:=rfl
theorem ty5:lk 5 AM=some ⟨T5,[],0,1⟩:=rfl
theorem ty9:lk 9 AM=some ⟨T9,[],0,16⟩:=rfl
theorem uJ:lk 12 AM=some ⟨T12,[],0,8⟩:=rfl
theorem uK:lk 21 AM=some ⟨T21,[],0,4⟩:=rfl
theorem uL:lk 22 AM=some ⟨MZ,[],61,24⟩:=rfl
theorem uM:lk 23 AM=some ⟨T23,[(0,1)],0,24⟩:=rfl
theorem uN:lk 24 AM=some ⟨HS,[(0,1)],0,24⟩:=rfl
theorem uO:lk 25 AM=some ⟨IJ,[],30,24⟩:=rfl
theorem uP:lk 26 AM=some ⟨T26,[],0,8⟩:=rfl
theorem uQ:lk 27 AM=some ⟨T27,[],0,8⟩:=rfl
theorem uR:lk 28 AM=some ⟨T28,[],0,8⟩:=rfl
theorem uS:lk 29 AM=some ⟨T29,[],0,8⟩:=rfl
theorem uT:lk 30 AM=some ⟨Bz,[],3,24⟩:=rfl
theorem uU:lk 31 AM=some ⟨T31,[],0,8⟩:=rfl
theorem uV:lk 32 AM=some ⟨T32,[],0,8⟩:=rfl
theorem uW:lk 33 AM=some ⟨EH,[],119,24⟩:=rfl
theorem uX:lk 34 AM=some ⟨WZ,[],113,24⟩:=rfl
theorem uY:lk 35 AM=some ⟨Xa,[],162,24⟩:=rfl
theorem uZ:lk 36 AM=some ⟨T36,[(0,1),(1,1)],0,48⟩:=rfl
theorem u3:lk 37 AM=some ⟨TH,[(0,1),(1,1)],0,48⟩:=rfl
theorem u4:lk 38 AM=some ⟨T38,[],0,8⟩:=rfl
theorem u5:lk 39 AM=some ⟨T39,[],0,8⟩:=rfl
theorem u6:lk 40 AM=some ⟨T40,[],0,8⟩:=rfl
theorem u7:lk 41 AM=some ⟨T41,[],0,8⟩:=rfl
theorem u9:lk 42 AM=some ⟨T42,[],0,8⟩:=rfl
theorem vA:lk 43 AM=some ⟨T43,[],0,8⟩:=rfl
theorem vB:lk 44 AM=some ⟨T44,[],0,8⟩:=rfl
theorem vC:lk 45 AM=some ⟨T45,[],0,8⟩:=rfl
theorem vD:lk 46 AM=some ⟨kG,[],50,24⟩:=rfl
theorem vE:lk 47 AM=some ⟨T47,[],0,8⟩:=rfl
theorem vF:lk 48 AM=some ⟨T48,[],0,8⟩:=rfl
theorem vG:lk 49 AM=some ⟨T49,[],0,8⟩:=rfl
theorem vH:lk 50 AM=some ⟨T50,[(0,1),(1,1)],24,48⟩:=rfl
theorem vI:lk 51 AM=some ⟨T51,[],0,8⟩:=rfl
theorem vJ:lk 52 AM=some ⟨T52,[],0,8⟩:=rfl
theorem vK:lk 53 AM=some ⟨T53,[(0,1),(1,1),(2,1),(3,1)],0,96⟩:=rfl
theorem vL:lk 54 AM=some ⟨T54,[(0,1),(1,1),(2,1),(3,1)],0,96⟩:=rfl
theorem vM:lk 55 AM=some ⟨T55,[],0,8⟩:=rfl
theorem vN:lk 57 AM=some ⟨T57,[],0,8⟩:=rfl
theorem vO:lk 58 AM=some ⟨T58,[],0,8⟩:=rfl
theorem vP:lk 59 AM=some ⟨Vg,[],63,24⟩:=rfl
theorem vQ:lk 60 AM=some ⟨T60,[(0,1),(1,1)],0,32⟩:=rfl
theorem vR:lk 61 AM=some ⟨z8,[(0,1),(1,1)],0,32⟩:=rfl
theorem vS:lk 62 AM=some ⟨T62,[(0,1),(1,1)],0,16⟩:=rfl
theorem vT:lk 63 AM=some ⟨sX,[(0,1),(1,1)],0,16⟩:=rfl
theorem vU:lk 64 AM=some ⟨XZ,[],0,8⟩:=rfl
theorem vV:lk 66 AM=some ⟨T66,[],0,8⟩:=rfl
theorem vW:lk 67 AM=some ⟨T67,[],0,8⟩:=rfl
theorem vX:lk 69 AM=some ⟨T69,[],0,8⟩:=rfl
theorem vY:lk 71 AM=some ⟨T71,[],0,8⟩:=rfl
theorem vZ:lk 72 AM=some ⟨T72,[],0,8⟩:=rfl
theorem v4:lk 73 AM=some ⟨T73,[],0,8⟩:=rfl
theorem v5:lk 74 AM=some ⟨T74,[],0,8⟩:=rfl
theorem v6:lk 75 AM=some ⟨T75,[],0,8⟩:=rfl
theorem v7:lk 76 AM=some ⟨T76,[],0,8⟩:=rfl
theorem v8:lk 77 AM=some ⟨T77,[],0,8⟩:=rfl
theorem v9:lk 78 AM=some ⟨T78,[],0,8⟩:=rfl
theorem wA:lk 79 AM=some ⟨T79,[(9,82)],0,8⟩:=rfl
theorem wB:lk 80 AM=some ⟨T80,[],0,8⟩:=rfl
theorem wC:lk 81 AM=some ⟨T81,[(0,1),(1,1)],0,32⟩:=rfl
theorem wD:lk 82 AM=some ⟨Bi,[(0,1),(1,1)],0,32⟩:=rfl
theorem wE:lk 83 AM=some ⟨T83,[],82,24⟩:=rfl
theorem wF:lk 84 AM=some ⟨T84,[],0,8⟩:=rfl
theorem wG:lk 85 AM=some ⟨T85,[],0,8⟩:=rfl
theorem wH:lk 86 AM=some ⟨T86,[],0,8⟩:=rfl
theorem wI:lk 87 AM=some ⟨T87,[],25,24⟩:=rfl
theorem wJ:lk 88 AM=some ⟨T88,[],0,8⟩:=rfl
theorem wK:lk 89 AM=some ⟨T89,[],4,24⟩:=rfl
theorem wL:lk 90 AM=some ⟨T90,[],0,8⟩:=rfl
theorem wM:lk 91 AM=some ⟨T91,[],59,24⟩:=rfl
theorem wN:lk 92 AM=some ⟨T92,[(0,2),(2,1),(3,1),(4,1)],0,120⟩:=rfl
theorem wO:lk 93 AM=some ⟨T93,[(0,2),(2,1),(3,1),(4,1)],0,120⟩:=rfl
theorem wP:lk 94 AM=some ⟨T94,[],0,8⟩:=rfl
theorem wQ:lk 95 AM=some ⟨T95,[],0,8⟩:=rfl
theorem wR:lk 96 AM=some ⟨T96,[],0,8⟩:=rfl
theorem wS:lk 97 AM=some ⟨T97,[],0,8⟩:=rfl
theorem wT:lk 98 AM=some ⟨T98,[],0,8⟩:=rfl
theorem wU:lk 99 AM=some ⟨T99,[],0,8⟩:=rfl
theorem cH:lk 100 AM=some ⟨uI,[],111,24⟩:=rfl
theorem cI:lk 102 AM=some ⟨A0J,[],0,8⟩:=rfl
theorem cJ:lk 103 AM=some ⟨IK,[],109,24⟩:=rfl
theorem cK:lk 105 AM=some ⟨A0K,[],0,8⟩:=rfl
theorem cL:lk 106 AM=some ⟨A2b,[],165,24⟩:=rfl
theorem cM:lk 107 AM=some ⟨A7,[],165,24⟩:=rfl
theorem cN:lk 108 AM=some ⟨A2c,[(0,1),(1,1)],0,40⟩:=rfl
theorem cO:lk 109 AM=some ⟨Vh,[(0,1),(1,1)],0,40⟩:=rfl
theorem cQ:lk 110 AM=some ⟨A0L,[],0,8⟩:=rfl
theorem cR:lk 111 AM=some ⟨Vi,[],151,24⟩:=rfl
theorem cS:lk 112 AM=some ⟨A2d,[(0,1),(1,1),(2,1),(3,1)],0,88⟩:=rfl
theorem cU:lk 113 AM=some ⟨kE,[(0,1),(1,1),(2,1),(3,1)],0,88⟩:=rfl
theorem cV:lk 115 AM=some ⟨A0M,[],0,8⟩:=rfl
theorem cW:lk 116 AM=some ⟨Bl,[],9,24⟩:=rfl
theorem cX:lk 117 AM=some ⟨Xb,[],164,24⟩:=rfl
theorem cZ:lk 118 AM=some ⟨A2e,[(0,1),(1,1),(2,1)],0,64⟩:=rfl
theorem c6:lk 119 AM=some ⟨kF,[(0,1),(1,1),(2,1)],0,64⟩:=rfl
theorem c7:lk 120 AM=some ⟨A0N,[],0,8⟩:=rfl
theorem c8:lk 121 AM=some ⟨A0O,[],0,8⟩:=rfl
theorem c9:lk 122 AM=some ⟨A0P,[],0,8⟩:=rfl
theorem dA:lk 123 AM=some ⟨A0Q,[],0,8⟩:=rfl
theorem dB:lk 124 AM=some ⟨A0R,[],0,8⟩:=rfl
theorem dC:lk 125 AM=some ⟨A0S,[],0,8⟩:=rfl
theorem dD:lk 126 AM=some ⟨A0T,[],0,8⟩:=rfl
theorem dE:lk 127 AM=some ⟨A0U,[],0,8⟩:=rfl
theorem dF:lk 128 AM=some ⟨A0V,[],0,8⟩:=rfl
theorem dG:lk 129 AM=some ⟨A0W,[],0,8⟩:=rfl
theorem dH:lk 130 AM=some ⟨A0X,[],0,8⟩:=rfl
theorem dI:lk 131 AM=some ⟨A0Y,[],5,24⟩:=rfl
theorem dJ:lk 132 AM=some ⟨A0Z,[],0,8⟩:=rfl
theorem dK:lk 133 AM=some ⟨A10,[],0,8⟩:=rfl
theorem dL:lk 134 AM=some ⟨z7,[(0,1),(1,1)],3,16⟩:=rfl
theorem dM:lk 135 AM=some ⟨A11,[],134,24⟩:=rfl
theorem dN:lk 136 AM=some ⟨A12,[],0,8⟩:=rfl
theorem dP:lk 137 AM=some ⟨A13,[],0,8⟩:=rfl
theorem dQ:lk 138 AM=some ⟨A14,[],0,8⟩:=rfl
theorem dR:lk 139 AM=some ⟨A2g,[(0,1),(1,1),(2,1)],0,72⟩:=rfl
theorem dS:lk 140 AM=some ⟨A2h,[(0,1),(1,1),(2,1)],0,72⟩:=rfl
theorem dT:lk 141 AM=some ⟨A15,[],0,8⟩:=rfl
theorem dU:lk 142 AM=some ⟨A16,[],0,8⟩:=rfl
theorem dV:lk 143 AM=some ⟨A17,[],0,8⟩:=rfl
theorem dW:lk 144 AM=some ⟨A18,[],0,8⟩:=rfl
theorem dX:lk 145 AM=some ⟨A19,[],0,8⟩:=rfl
theorem dY:lk 146 AM=some ⟨A1a,[],0,8⟩:=rfl
theorem dZ:lk 148 AM=some ⟨A1b,[],0,8⟩:=rfl
theorem d3:lk 149 AM=some ⟨A1c,[],0,8⟩:=rfl
theorem d4:lk 150 AM=some ⟨A1d,[(0,1),(1,1)],0,16⟩:=rfl
theorem d5:lk 151 AM=some ⟨oX,[(0,1),(1,1)],0,16⟩:=rfl
theorem d6:lk 152 AM=some ⟨QF,[],107,24⟩:=rfl
theorem d7:lk 153 AM=some ⟨A1e,[],0,8⟩:=rfl
theorem d8:lk 154 AM=some ⟨A1f,[],0,8⟩:=rfl
theorem d9:lk 155 AM=some ⟨A1g,[],0,8⟩:=rfl
theorem eA:lk 156 AM=some ⟨A1h,[],0,8⟩:=rfl
theorem eB:lk 157 AM=some ⟨A1i,[],0,8⟩:=rfl
theorem eC:lk 159 AM=some ⟨A1j,[],0,8⟩:=rfl
theorem eD:lk 160 AM=some ⟨A1k,[],0,8⟩:=rfl
theorem eE:lk 161 AM=some ⟨A1l,[(0,1),(1,1)],0,24⟩:=rfl
theorem eF:lk 162 AM=some ⟨oY,[(0,1),(1,1)],0,24⟩:=rfl
theorem eG:lk 163 AM=some ⟨A1m,[(0,1),(1,1)],0,32⟩:=rfl
theorem eH:lk 164 AM=some ⟨Zb,[(0,1),(1,1)],0,32⟩:=rfl
theorem eI:lk 165 AM=some ⟨NC,[],0,8⟩:=rfl
theorem eJ:lk 166 AM=some ⟨A1n,[],0,8⟩:=rfl
theorem eK:lk 167 AM=some ⟨A1o,[],0,8⟩:=rfl
theorem eL:lk 168 AM=some ⟨A1p,[],0,8⟩:=rfl
theorem eO:lk 169 AM=some ⟨A1q,[],0,8⟩:=rfl
theorem eP:lk 170 AM=some ⟨A1r,[],0,8⟩:=rfl
theorem eQ:lk 171 AM=some ⟨A1s,[],0,8⟩:=rfl
theorem eU:lk 173 AM=some ⟨A1t,[],0,8⟩:=rfl
theorem eW:lk 174 AM=some ⟨A1u,[],0,8⟩:=rfl
theorem eX:lk 175 AM=some ⟨A1v,[],0,8⟩:=rfl
theorem eY:lk 176 AM=some ⟨A1w,[],0,8⟩:=rfl
theorem eZ:lk 177 AM=some ⟨A1x,[],0,8⟩:=rfl
theorem e7:lk 178 AM=some ⟨A1y,[],0,4⟩:=rfl
theorem e9:lk 179 AM=some ⟨A1z,[],0,8⟩:=rfl
theorem fA:lk 180 AM=some ⟨A1A,[],0,8⟩:=rfl
theorem fB:lk 181 AM=some ⟨A1B,[],0,8⟩:=rfl
theorem fC:lk 182 AM=some ⟨A1C,[],0,8⟩:=rfl
theorem fD:lk 183 AM=some ⟨A1D,[],0,8⟩:=rfl
theorem fE:lk 184 AM=some ⟨A1E,[],0,8⟩:=rfl
theorem fF:lk 185 AM=some ⟨A1F,[],0,8⟩:=rfl
theorem fG:lk 186 AM=some ⟨A1G,[],0,8⟩:=rfl
theorem fH:lk 187 AM=some ⟨A1H,[],0,8⟩:=rfl
theorem fI:lk 188 AM=some ⟨A1I,[],0,8⟩:=rfl
theorem fJ:lk 190 AM=some ⟨A1J,[],0,8⟩:=rfl
theorem fK:lk 191 AM=some ⟨A1K,[],0,8⟩:=rfl
theorem fL:lk 192 AM=some ⟨A1L,[],0,8⟩:=rfl
theorem fM:lk 193 AM=some ⟨A1M,[],0,8⟩:=rfl
theorem fN:lk 194 AM=some ⟨A1N,[],0,8⟩:=rfl
theorem fO:lk 195 AM=some ⟨A1O,[],0,8⟩:=rfl
theorem fP:lk 196 AM=some ⟨A1P,[],0,8⟩:=rfl
theorem fQ:lk 197 AM=some ⟨A1Q,[],0,8⟩:=rfl
theorem fR:lk 198 AM=some ⟨A1R,[],0,8⟩:=rfl
theorem fS:lk 199 AM=some ⟨A1S,[],0,8⟩:=rfl
theorem fT:lk 200 AM=some ⟨A1T,[],0,8⟩:=rfl
theorem fU:lk 201 AM=some ⟨A1U,[],0,8⟩:=rfl
theorem fV:lk 202 AM=some ⟨A1V,[],0,8⟩:=rfl
theorem fW:lk 203 AM=some ⟨A1W,[],0,8⟩:=rfl
theorem fX:lk 204 AM=some ⟨A1X,[],0,8⟩:=rfl
theorem fY:lk 205 AM=some ⟨A1Y,[],0,8⟩:=rfl
theorem fZ:lk 206 AM=some ⟨A1Z,[],0,8⟩:=rfl
theorem f3:lk 207 AM=some ⟨A20,[],0,8⟩:=rfl
theorem f4:lk 208 AM=some ⟨A21,[],0,8⟩:=rfl
theorem f5:lk 210 AM=some ⟨A22,[],0,8⟩:=rfl
theorem f8:lk 211 AM=some ⟨A23,[],0,8⟩:=rfl
theorem f9:lk 212 AM=some ⟨A24,[],0,8⟩:=rfl
theorem gA:lk 213 AM=some ⟨A25,[],0,8⟩:=rfl
theorem gB:lk 214 AM=some ⟨A26,[],0,8⟩:=rfl
theorem gC:lk 215 AM=some ⟨A27,[],0,8⟩:=rfl
theorem gD:lk 221 AM=some ⟨A28,[],0,8⟩:=rfl
theorem gE:lk 224 AM=some ⟨A29,[],0,8⟩:=rfl
theorem gF:lk 225 AM=some ⟨A2a,[],0,8⟩:=rfl
end
/- A slice held against nil: the answer is open, but where there is an element it is no. -/
section
open Go Go.RowKit
section
variable {c:Cx} {R:Exit→Act→World→Prop} {k:List DU} {σ σ':St}
theorem kH {P:Program} {tb:Tb} {t:TypeId} {ti:TI} {e:Ty} (hT:Dd P tb t ti) (hti:ti.ty=.slice e) (w:World) (a:Option Addr) (n m:Nat):(Op.equal t (.slice a n m) (.slice none 0 0)).run P w=.ok a.isNone w:=by
 have h2:=hT.2
 rw[hti]at h2
 exact run_equal_slice_nil w t ti.el a n m h2.1
def Xc:Option TI→Bool
 | some ⟨.slice _,_,_,_⟩=>true
 | _=>false
theorem kI (hc:c.Ok) {ops:Array Oper} {rest:List Oper} {d:Nat} {t:TypeId} {x:Operand} {tt ty:TypeId} {pos:String} {after:Array Edge} {e:Ty} {l:List e.den} (neg:Bool)
  (hx:Aj σ x=some (.p (.slice e) l)) (ht:Xc (lk t c.tb.ty)=true) (hk:∀b:Bool,(b=true→l=[])→HN c R k ops rest (σ.add (.p .bool (if neg then !b else b)) [] (some d))) :
  HN c R k ops (⟨some d,.binOp (if neg then .neq else .eql) t x (.const (.slice none 0 0)) tt,ty,pos,after,none⟩ :: rest) σ:=by
 intro hd hko a w hsat
 obtain⟨ρ,hsr⟩:=hsat
 have hev:FP (vw w c.O0 σ ρ) σ a.eval:=De hsr.env
 have hxv:=hev x _ hx
 obtain⟨cs,⟨ad,m,rfl,h1,h2,h3⟩,hv⟩:=hxv
 have hv:a.eval x=.slice ad (List.length l) m:=hv
 unfold Xc at ht
 split at ht
 ·rename_i e' offs el bytes hlk
  have hTI:=hc.T _ _ hlk
  have heq:=kH hTI rfl w ad (List.length l) m
  unfold wpListIn
  rw[if_pos (by simp[Region.wanted])]
  have hrun:(execOp a.eval ⟨some d,.binOp (if neg then .neq else .eql) t x (.const (.slice none 0 0)) tt,ty,pos,after,none⟩).run c.P w=.ok (.value (.bool (if neg then !ad.isNone else ad.isNone))) w:=by
   have hz:a.eval (.const (.slice none 0 0))=.slice none 0 0:=rfl
   cases neg<;>simp[execOp,hv,hz,eqGuard,binOp,heq]
  refine Ah hrun ?_ (fun cl h=>by cases neg<;>cases h)
  have hb:ad.isNone=true→l=[]:=fun hn=>by
   rcases h3 with h3|⟨ad',rfl,_⟩
   ·exact h3
   ·simp at hn
  have hq:QS w c.O0 σ ρ (.p .bool (if neg then !ad.isNone else ad.isNone)) [] (.bool (if neg then !ad.isNone else ad.isNone)) ρ w:=QS.still (BP _)
  have hs2:=hsr.add hc.K hc.O (dst:=some d) (fun d' hd'=>by cases hd';exact Bv (hd _ List.mem_cons_self) d rfl) rfl hq
  exact hk ad.isNone hb (fun o ho=>hd o (by simp[ho])) hko _ _ ⟨ρ,hs2⟩
 ·cases ht
end
end
/- From a law function's contract to the given statement: the arguments, read as data, are the contract's pure values; the end of the call in the statement's words. -/
section
open Go Go.RowKit Go.ChangeShapes Go.WideShapes
set_option maxRecDepth 100000
def gG (r:Ty→TypeId→Bool) (P:Program):Ty→Nat→List Field→Bool
 | .prod a b,o,fs=>match fs with
  | f :: fs=>f.offset==o&&P.cellsOf f.type==a.size&&r a f.type&&gG r P b (o+a.size) fs
  | []=>false
 | s,o,[f]=>f.offset==o&&P.cellsOf f.type==s.size&&r s f.type
 | _,_,_=>false
def kJ (P:Program) (m:Nat) (e:TypeId):List Field:=(List.range m).map fun i=>{ (default:Field) with offset:=i*P.cellsOf e,type:=e }
def rd (P:Program):Nat→Ty→TypeId→Bool
 | 0,_,_=>false
 | _+1,.int k,t=>isI k (P.underlying t)
 | _+1,.bool,t=>match P.underlying t with|some .bool=>true|_=>false
 | _+1,.str,t=>match P.underlying t with|some .string=>true|_=>false
 | n+1,.slice e,t=>match P.underlying t with|some (.slice et)=>decide (0<P.bytesOf et)&&P.cellsOf et==e.size&&rd P n e et|_=>false
 | n+1,.agg s,t=>match P.underlying t with|some (.struct fs)=>P.cellsOf t==s.size&&gG (rd P n) P s 0 fs.toList|some (.array m e)=>P.cellsOf t==s.size&&gG (rd P n) P s 0 (kJ P m e)|_=>false
 | _+1,_,_=>false
theorem gH {P:Program} {n:Nat} {t:TypeId} (h:rd P (n+1) .bool t=true):P.underlying t=some .bool:=by
 simp only[rd]at h
 split at h
 ·assumption
 ·cases h
theorem oZ {P:Program} {n:Nat} {t:TypeId} (h:rd P (n+1) .str t=true):P.underlying t=some .string:=by
 simp only[rd]at h
 split at h
 ·assumption
 ·cases h
theorem Xd {P:Program} {n:Nat} {e:Ty} {t:TypeId} (h:rd P (n+1) (.slice e) t=true):∃et,P.underlying t=some (.slice et)∧0<P.bytesOf et∧P.cellsOf et=e.size∧rd P n e et=true:=by
 simp only[rd]at h
 split at h
 ·rename_i et hu
  simp only[Bool.and_eq_true,decide_eq_true_eq,beq_iff_eq]at h
  exact⟨et,hu,h.1.1,h.1.2,h.2⟩
 ·cases h
theorem o0 {P:Program} {n:Nat} {s:Ty} {t:TypeId} (h:rd P (n+1) (.agg s) t=true):(∃fs,P.underlying t=some (.struct fs)∧P.cellsOf t=s.size∧gG (rd P n) P s 0 fs.toList=true)∨∃m e,P.underlying t=some (.array m e)∧P.cellsOf t=s.size∧gG (rd P n) P s 0 (kJ P m e)=true:=by
 simp only[rd]at h
 split at h
 ·rename_i fs hu
  simp only[Bool.and_eq_true,beq_iff_eq]at h
  exact .inl ⟨fs,hu,h.1,h.2⟩
 ·rename_i m e hu
  simp only[Bool.and_eq_true,beq_iff_eq]at h
  exact .inr ⟨m,e,hu,h.1,h.2⟩
 ·cases h
theorem kK {w:World} {base:Nat} {a:Addr} {n:Nat} {cs:List Value} (h:w.cells? base a n=some cs):cs.length=n∧∀(j:Nat) (v:Value),cs[j]?=some v→w.cell? (a.add j)=some v:=by
 unfold World.cells? at h
 split at h
 ·have h1:=mapM_some_length h
  simp only[List.length_range]at h1
  refine⟨h1,fun j v hj=>?_⟩
  have hlt:j<n:=by
   obtain⟨hlt,_⟩:=List.getElem?_eq_some_iff.1 hj
   omega
  rw[mapM_some_get h j j (by simp[hlt]),hj]
 ·cases h
section
variable {H:Type} {enc:TypeId×Value→H} {P:Program} {w:World} {spare:Nat→Bool} {held:Bool}
theorem Xe {e:TypeId}:∀ {l:List (DataW H)} {d:DataW H},d∈l→∀n∈d.weights P e,n∈DataW.weightsAll P e l
 | a :: l,d,hd,n,hn=>by
  simp only[DataW.weightsAll,List.mem_append]
  rcases List.mem_cons.1 hd with rfl|hd
  ·exact .inl hn
  ·exact .inr (Xe hd n hn)
 | [],_,hd,_,_=>by cases hd
theorem T8 {us:List TypeId} {gs:List (DataW H)}:∀ {ts:List TypeId} {ds:List (DataW H)},∀n∈DataW.weightsEach P ts ds,n∈DataW.weightsEach P (ts++us) (ds++gs)
 | t :: ts,d :: ds,n,hn=>by
  simp only[DataW.weightsEach,List.cons_append,List.mem_append]at hn ⊢
  rcases hn with hn|hn
  ·exact .inl hn
  ·exact .inr (T8 n hn)
 | [],_,n,hn=>by simp[DataW.weightsEach]at hn
 | _ :: _,[],n,hn=>by simp[DataW.weightsEach]at hn
theorem UA {e:TypeId}:∀ {m:Nat} {k:Nat} {ds:List (DataW H)},∀n∈DataW.weightsEach P (((List.range' k m).map fun i=>({ (default:Field) with offset:=i*P.cellsOf e,type:=e }:Field)).map (·.type)) ds,n∈DataW.weightsAll P e ds
 | 0,_,ds,n,hn=>by simp[DataW.weightsEach]at hn
 | m+1,k,[],n,hn=>by
  rw[List.range'_succ]at hn
  simp[DataW.weightsEach]at hn
 | m+1,k,d :: ds,n,hn=>by
  rw[List.range'_succ]at hn
  simp only[List.map_cons,DataW.weightsEach,List.mem_append]at hn
  simp only[DataW.weightsAll,List.mem_append]
  rcases hn with hn|hn
  ·exact .inl hn
  ·exact .inr (UA n hn)
theorem Pb {n:Nat} {r:Ty→TypeId→Bool}
  (hr:∀ty t,r ty t=true→∀(cs:List Value) (x:DataW H×List MemPlace),DataW.trod enc P w 0 spare held n t cs=some x→(∀b∈x.1.weights P t,b≤reachBytes)→∃d:ty.den,Bh w (fun _=>False) ty cs d) (cs:List Value) :
  ∀(s:Ty) (o:Nat) (fs:List Field),gG r P s o fs=true→∀xs:List (DataW H×List MemPlace),xs.length=fs.length →
   (∀(i:Nat) (f:Field),fs[i]?=some f→DataW.trod enc P w 0 spare held n f.type ((cs.drop f.offset).take (P.cellsOf f.type))=xs[i]?) →
   (∀b∈DataW.weightsEach P (fs.map (·.type)) (xs.map (·.1)),b≤reachBytes)→∃d:s.den,Bh w (fun _=>False) s ((cs.drop o).take s.size) d:=by
 have one:∀(s:Ty) (o:Nat) (f:Field),(f.offset==o&&P.cellsOf f.type==s.size&&r s f.type)=true→∀x:DataW H×List MemPlace,
   DataW.trod enc P w 0 spare held n f.type ((cs.drop f.offset).take (P.cellsOf f.type))=some x →
   (∀b∈x.1.weights P f.type,b≤reachBytes)→∃d:s.den,Bh w (fun _=>False) s ((cs.drop o).take s.size) d:=by
  intro s o f h x hx hb
  simp only[Bool.and_eq_true,beq_iff_eq]at h
  obtain⟨⟨rfl,h2⟩,h3⟩:=h
  rw[←h2]
  exact hr s f.type h3 _ x hx hb
 have lone:∀(s:Ty) (o:Nat) (f:Field),(f.offset==o&&P.cellsOf f.type==s.size&&r s f.type)=true→∀xs:List (DataW H×List MemPlace),xs.length=[f].length →
   (∀(i:Nat) (g:Field),[f][i]?=some g→DataW.trod enc P w 0 spare held n g.type ((cs.drop g.offset).take (P.cellsOf g.type))=xs[i]?) →
   (∀b∈DataW.weightsEach P ([f].map (·.type)) (xs.map (·.1)),b≤reachBytes)→∃d:s.den,Bh w (fun _=>False) s ((cs.drop o).take s.size) d:=by
  intro s o f h xs hl hx hb
  obtain⟨x,rfl⟩:∃x,xs=[x]:=List.length_eq_one_iff.1 (by simpa using hl)
  exact one s o f h x (hx 0 f rfl) (fun b hb'=>hb b (by simp[DataW.weightsEach,hb']))
 intro s
 induction s with
 | prod a b iha ihb =>
  intro o fs h xs hl hx hb
  cases fs with
  | nil=>simp[gG]at h
  | cons f fs =>
   simp only[gG,Bool.and_eq_true]at h
   obtain⟨⟨⟨h1,h2⟩,h3⟩,h4⟩:=h
   obtain⟨x,ys,rfl⟩:∃x ys,xs=x :: ys:=List.exists_cons_of_ne_nil (by intro h;subst h;simp at hl)
   obtain⟨d1,r1⟩:=one a o f (by simp only[h1,h2,h3,Bool.and_self]) x (hx 0 f rfl) (fun b hb'=>hb b (by
     simp only[List.map_cons,DataW.weightsEach,List.mem_append]
     exact .inl hb'))
   obtain⟨d2,r2⟩:=ihb (o+a.size) fs h4 ys (by simpa using hl) (fun i g hg=>hx (i+1) g hg) (fun b hb'=>hb b (by
     simp only[List.map_cons,DataW.weightsEach,List.mem_append]
     exact .inr hb'))
   refine⟨(d1,d2),(cs.drop o).take a.size,(cs.drop (o+a.size)).take b.size,?_,r1,r2⟩
   show (cs.drop o).take (a.size+b.size)=_
   rw[List.take_add,List.drop_drop]
 | int k=>intro o fs h;match fs,h with|[f],h=>exact lone _ o f (by simpa only[gG] using h)
 | bool=>intro o fs h;match fs,h with|[f],h=>exact lone _ o f (by simpa only[gG] using h)
 | str=>intro o fs h;match fs,h with|[f],h=>exact lone _ o f (by simpa only[gG] using h)
 | slice e _=>intro o fs h;match fs,h with|[f],h=>exact lone _ o f (by simpa only[gG] using h)
 | agg t _=>intro o fs h;match fs,h with|[f],h=>exact lone _ o f (by simpa only[gG] using h)
 | ref k=>intro o fs h;match fs,h with|[f],h=>exact lone _ o f (by simpa only[gG] using h)
theorem o4:∀(k:Nat) (ty:Ty) (t:TypeId),rd P k ty t=true→∀(n:Nat) (cs:List Value) (x:DataW H×List MemPlace),
  DataW.trod enc P w 0 spare held n t cs=some x→(∀b∈x.1.weights P t,b≤reachBytes)→∃d:ty.den,Bh w (fun _=>False) ty cs d:=by
 intro k
 induction k with
 | zero=>intro ty t h;simp[rd]at h
 | succ k ih =>
  intro ty t h n cs x hx hb
  cases ty with
  | int q =>
   have hu:=VJ (by simpa only[rd] using h)
   obtain⟨m,rfl,rfl,hw⟩:=DataW.trod_int hu hx
   simp only[Lit.wf,Bool.and_eq_true,decide_eq_true_eq]at hw
   exact⟨m,rfl,hw⟩
  | bool =>
   obtain⟨b,rfl,rfl⟩:=DataW.trod_bool (gH h) hx
   exact⟨b,rfl⟩
  | str =>
   obtain⟨b,rfl,rfl,_⟩:=DataW.trod_string (oZ h) hx
   refine⟨b,rfl,?_⟩
   have:=hb b.data.toList.length (by simp only[DataW.weights];exact List.mem_cons_self)
   have h2:b.data.toList.length=b.size:=Array.length_toList
   simp only[reachBytes]at this
   simp only[AO]
   omega
  | slice e =>
   obtain⟨et,hu,hb0,hce,he⟩:=Xd h
   rcases DataW.trod_slice hu hx with ⟨rfl,rfl⟩|⟨a,len,cap,elems,rest,m,rfl,rfl,rfl,-,hlc,-,hlen,helems,-,-⟩
   ·exact⟨[],none,0,rfl,Nat.le_refl _,Nat.zero_le _,.inl rfl⟩
   ·have hsz:len≤AO:=by
     have h1:=hb ((elems.length+rest.length)*P.bytesOf et) (by simp only[DataW.weights,hu,List.length_map];exact List.mem_cons_self)
     have h2:elems.length+rest.length≤(elems.length+rest.length)*P.bytesOf et:=Nat.le_mul_of_pos_right _ hb0
     simp only[reachBytes]at h1
     simp only[AO]
     omega
    have hel:∀i,i<len→∃d:e.den,∃es:List Value,es.length=e.size∧(∀(j:Nat) (v:Value),es[j]?=some v→w.cell? (a.add (i*e.size+j))=some v)∧Bh w (fun _=>False) e es d:=by
     intro i hi
     have h1:=helems i hi
     obtain⟨x,hx⟩:∃x,elems[i]?=some x:=⟨_,List.getElem?_eq_getElem (by omega)⟩
     rw[hx]at h1
     obtain⟨es,h2,h3⟩:=Option.bind_eq_some_iff.1 h1
     obtain⟨h4,h5⟩:=kK h2
     obtain⟨d,hd⟩:=ih e et he m es x h3 (fun b hb'=>hb b (by
      simp only[DataW.weights,hu]
      exact List.mem_cons_of_mem _ (List.mem_append_left _ (Xe (List.mem_map.2 ⟨x,List.mem_of_getElem? hx,rfl⟩) b hb'))))
     refine⟨d,es,by rw[h4,hce],fun j v hj=>?_,hd⟩
     have:=h5 j v hj
     rwa [Ci,hce]at this
    have hall:∃ds:List e.den,ds.length=len∧∀(i:Nat) (d:e.den),ds[i]?=some d→∃es:List Value,es.length=e.size∧(∀(j:Nat) (v:Value),es[j]?=some v→w.cell? (a.add (i*e.size+j))=some v)∧Bh w (fun _=>False) e es d:=by
     refine⟨(List.range len).pmap (fun i hi=>Classical.choose (hel i hi)) (fun i hi=>List.mem_range.1 hi),by simp,fun i d hd=>?_⟩
     rw[List.getElem?_pmap]at hd
     simp only[Option.pmap_eq_some_iff]at hd
     obtain⟨j,h1,h2,rfl⟩:=hd
     have hij:j=i:=by
      obtain⟨hlt,he⟩:=List.getElem?_eq_some_iff.1 h2
      simpa using he.symm
     subst hij
     exact Classical.choose_spec (hel j h1)
    obtain⟨ds,hdl,hds⟩:=hall
    exact⟨ds,some a,cap,by rw[hdl],by omega,by omega,.inr ⟨a,rfl,fun h=>h,hds⟩⟩
  | agg s =>
   rcases o0 h with ⟨fs,hu,hcs,hf⟩|⟨q,e,hu,hcs,hf⟩
   ·obtain⟨xs,m,rfl,rfl,hl,hxl,hxs⟩:=DataW.trod_struct hu hx
    obtain⟨d,hd⟩:=Pb (fun ty t hrd cs x hx hb=>ih ty t hrd m cs x hx hb) cs s 0 fs.toList hf xs (by simpa using hxl) (fun i f hi=>hxs i f (by simpa using hi)) (by
     simpa[DataW.weights,hu] using hb)
    refine⟨d,?_⟩
    show Bh w _ s cs d
    rwa [List.drop_zero,List.take_of_length_le (by omega)]at hd
   ·obtain⟨xs,m,rfl,rfl,hl,hxl,hxs⟩:=DataW.trod_array hu hx
    obtain⟨d,hd⟩:=Pb (fun ty t hrd cs x hx hb=>ih ty t hrd m cs x hx hb) cs s 0 (kJ P q e) hf xs (by simp[kJ,hxl]) (fun i f hi=>by
     unfold kJ at hi
     rw[List.getElem?_map]at hi
     by_cases hiq:i<q
     ·rw[List.getElem?_range hiq]at hi
      have hi:({ (default:Field) with offset:=i*P.cellsOf e,type:=e }:Field)=f:=by simpa using hi
      rw[←hi]
      exact hxs i hiq
     ·rw[List.getElem?_eq_none (by simp;omega)]at hi
      cases hi) (fun b hb'=>hb b (by
     simp only[DataW.weights,hu]
     unfold kJ at hb'
     rw[List.range_eq_range']at hb'
     exact UA b hb'))
    refine⟨d,?_⟩
    show Bh w _ s cs d
    rwa [List.drop_zero,List.take_of_length_le (by omega)]at hd
  | prod a b=>simp[rd]at h
  | ref j=>simp[rd]at h
theorem wV {k:Nat} {ty:Ty} {t:TypeId} {v:Value} {r:Reach} {base:Nat} (h:rd P k ty t=true) (hv:Value.okWide P w r base t v):v=ty.wrap v.cells.toList:=by
 cases k with
 | zero=>simp[rd]at h
 | succ k =>
  cases ty with
  | int q =>
   obtain⟨n,rfl⟩:=okWide_int (VJ (by simpa only[rd] using h)) hv
   rfl
  | bool =>
   obtain⟨n,rfl⟩:=okWide_bool (gH h) hv
   rfl
  | str =>
   obtain⟨n,rfl⟩:=okWide_string (oZ h) hv
   rfl
  | slice e =>
   obtain⟨et,hu,_⟩:=Xd h
   obtain⟨a,l,c,rfl⟩:=okWide_slice hu hv
   rfl
  | agg s =>
   rcases o0 h with ⟨fs,hu,_⟩|⟨q,e,hu,_⟩
   ·obtain⟨cs,rfl,_⟩:=okWide_struct hu hv
    simp[Ty.wrap,Value.cells]
   ·simp only[Value.okWide,hu]at hv
    obtain⟨cs,rfl,_⟩:=hv
    simp[Ty.wrap,Value.cells]
  | prod a b=>simp[rd]at h
  | ref j=>simp[rd]at h
def LZ (P:Program):List Ty→List TypeId→Bool
 | [],[]=>true
 | ty :: tys,t :: ts=>rd P 50 ty t&&P.readableRec t&&decide (t<P.types.size)&&LZ P tys ts
 | _,_=>false
theorem Xf {r:Reach} {base:Nat}:∀(tys:List Ty) (ts:List TypeId) (vs:List Value) (ds:List (DataW H)) (p:List MemPlace),LZ P tys ts=true→DataW.TrodAll enc P w 0 spare held ts vs ds p →
  (∀(j:Nat) (t:TypeId) (v:Value),ts[j]?=some t→vs[j]?=some v→Value.okWide P w r base t v)→(∀b∈DataW.weightsEach P ts ds,b≤reachBytes)→∃xs:Jc tys,PK w (fun _=>False) tys vs xs
 | [],[],vs,ds,p,_,h,_,_=>by
  obtain⟨rfl,_,_⟩:=trodAll_nil h
  exact⟨(),rfl⟩
 | ty :: tys,t :: ts,vs,ds,p,hrd,h,hv,hb=>by
  simp only[LZ,Bool.and_eq_true]at hrd
  obtain⟨⟨⟨h1,_⟩,_⟩,h2⟩:=hrd
  obtain⟨v,vs',d,ds',p1,q1,rfl,rfl,rfl,⟨n,hd⟩,hrest⟩:=trodAll_cons h
  simp only[DataW.weightsEach,List.mem_append]at hb
  obtain⟨x,hx⟩:=o4 50 ty t h1 n _ _ hd (fun b hb'=>hb b (.inl hb'))
  obtain⟨xs,hxs⟩:=Xf tys ts vs' ds' q1 h2 hrest (fun j t' v' ht hv'=>hv (j+1) t' v' ht hv') (fun b hb'=>hb b (.inr hb'))
  exact⟨(x,xs),v,vs',rfl,⟨_,hx,wV h1 (hv 0 t v rfl rfl)⟩,hxs⟩
 | [],_ :: _,_,_,_,h,_,_,_=>by simp[LZ]at h
 | _ :: _,[],_,_,_,h,_,_,_=>by simp[LZ]at h
theorem UB (hl:laidOutB P=true) {W W':World} (hb:Below W.heap.size W W'):∀(tys:List Ty) (ts:List TypeId) (vs:List Value) (ds:List (DataW H)) (p:List MemPlace),LZ P tys ts=true →
  DataW.TrodAll enc P W 0 (fun _=>true) true ts vs ds p→(∀x∈p,x.block<W.heap.size)→DataW.TrodAll enc P W' 0 (fun b=>decide (b<W.heap.size)) true ts vs ds p
 | [],[],vs,ds,p,_,h,_=>by
  obtain⟨rfl,rfl,rfl⟩:=trodAll_nil h
  rfl
 | ty :: tys,t :: ts,vs,ds,p,hrd,h,hlt=>by
  simp only[LZ,Bool.and_eq_true,decide_eq_true_eq]at hrd
  obtain⟨⟨⟨_,h1⟩,h2⟩,h3⟩:=hrd
  obtain⟨v,vs',d,ds',p1,q1,rfl,rfl,rfl,hd,hrest⟩:=trodAll_cons h
  exact⟨p1,q1,Below.trod hl h1 h2 hd hb (fun x hx=>hlt x (List.mem_append_left _ hx)),UB hl hb tys ts vs' ds' q1 h3 hrest (fun x hx=>hlt x (List.mem_append_right _ hx)),rfl⟩
 | [],_ :: _,_,_,_,h,_,_=>by simp[LZ]at h
 | _ :: _,[],_,_,_,h,_,_=>by simp[LZ]at h
end
theorem o5 {w:World} {O:Nat→Prop} {u:Value} {w':World} (h:nD w O [.p .bool true] u w'):u=.bool true∧Below w.heap.size w w':=by
 obtain⟨ρ',hq⟩:=h 0
 refine⟨?_,hq.below⟩
 obtain⟨cs,h1,h2⟩:Bg _ _ .bool u true:=hq.av
 have h1:cs=[.bool true]:=h1
 rw[h2,h1]
 rfl
theorem Xg {P:Program} {f:FuncId} {fn:Func} {sp:Ae} {s:ChangeSpec} {tb:TypeId} (hok:Ag P f sp) (hpre:∀ds,sp.pre ds) (hout:∀ds,sp.out ds=[.p .bool true])
  (hl:laidOutB P=true) (hrd:LZ P sp.ins fn.params.toList=true) (hres:fn.resultTypes=#[tb]) (hbool:P.underlying tb=some .bool) (hvars:s.vars=[])
  (hs:∀(H:Type) (ds:List (DataW H)),ds.length=fn.params.size→(s.fn H ds).results=[.lit (.bool true)]∧(s.fn H ds).args=ds∧(s.fn H ds).vars=[])
  {H:Type} {enc:TypeId×Value→H} {W:World} {base:Nat} {args:Array Value} {ds gs:List (DataW H)} {before:List MemPlace} {us:List TypeId}
  (hval:∀(j:Nat) t v,fn.params[j]?=some t→args[j]?=some v→Value.okWide P W .any base t v)
  (hW:DataW.Whole enc P fn.params.toList s.vars false W args.toList ds gs before)
  (hsz:(DataW.weightsEach P (fn.params.toList++us) (ds++gs)).all (·≤reachBytes)=true) :
  Calls P f args W fun e W'=>∃v,e=.returned v∧s.post enc P fn false true false false W args v W':=by
 have hW':=hW
 obtain⟨p,q,hA,hV,rfl,hfz,hnd⟩:=hW
 rw[hvars]at hV
 obtain⟨rfl,rfl⟩:=trodVars_none hV
 obtain⟨xs,hxs⟩:=Xf sp.ins fn.params.toList args.toList ds p hrd hA (fun j t v ht hv=>hval j t v (by simpa using ht) (by simpa using hv))
  (fun b hb=>by simpa using List.all_eq_true.1 hsz b (T8 b hb))
 have hlt:∀x∈p,x.block<W.heap.size:=fun x hx=>by simpa using hW'.lt x (List.mem_append_left _ hx)
 have hlen:ds.length=fn.params.size:=by
  have:∀(ts:List TypeId) (vs:List Value) (ds:List (DataW H)) (p:List MemPlace),DataW.TrodAll enc P W 0 (fun _=>true) true ts vs ds p→ds.length=ts.length:=by
   intro ts
   induction ts with
   | nil=>intro vs ds p h;obtain⟨_,rfl,_⟩:=trodAll_nil h;rfl
   | cons t ts ih=>intro vs ds p h;obtain⟨v,vs',d,ds',p1,q1,rfl,rfl,rfl,_,hr⟩:=trodAll_cons h;simp[ih _ _ _ hr]
  simpa using this _ _ _ _ hA
 have hc:=hok.2 W (fun _=>False) args.toList xs (fun _ h=>h.elim) hxs (hpre xs)
 rw[hout]at hc
 have ea:args.toList.toArray=args:=by simp
 rw[ea]at hc
 refine hc.mono fun e W' ⟨u,he,hu⟩=>?_
 obtain⟨rfl,hb⟩:=o5 hu
 obtain⟨e1,e2,e3⟩:=hs H (ds++[]) (by simpa using hlen)
 refine⟨_,he,_,_,_,[],p,[],hW',?_,?_,?_,hb.frame _,fun h=>by cases h⟩
 ·rw[e1,hres]
  exact trodAll_mk1 (shut_bool hbool _)
 ·rw[e2,List.append_nil]
  exact UB hl hb sp.ins _ _ _ _ hrd hA hlt
 ·rw[e3,hvars]
  rfl
end
end Go.Proofs.YtmejfnhmgbhkmabGreat.Fw

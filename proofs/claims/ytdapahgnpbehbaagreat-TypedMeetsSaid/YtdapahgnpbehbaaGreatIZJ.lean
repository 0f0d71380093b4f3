/- This program's types; a slice compared with nil; from a contract to the given statement. -/
import Derived.Test.YtdapahgnpbehbaaGreatIZI
import Derived.Test.YtdapahgnpbehbaaGreatChecked
import Derived.Laws.Cover3
import Derived.Carry
import Derived.SizedLaws
import Derived.OpenShut
set_option linter.unusedVariables false
set_option linter.unusedSimpArgs false
namespace Go.Proofs.YtdapahgnpbehbaaGreat.Fw
section
open Go
abbrev T1:Ty:=.ref 1
abbrev T2:Ty:=.int .i64
abbrev T3:Ty:=.int .i64
abbrev T4:Ty:=.bool
abbrev T5:Ty:=.int .u8
abbrev T9:Ty:=.str
abbrev T12:Ty:=.int .u64
abbrev T21:Ty:=.int .i32
abbrev T26:Ty:=.ref 1
abbrev T27:Ty:=.ref 1
abbrev T32:Ty:=.ref 1
abbrev WA:Ty:=.int .i64
abbrev T34:Ty:=.ref 1
abbrev T35:Ty:=.ref 1
abbrev T36:Ty:=.ref 1
abbrev T38:Ty:=.ref 1
abbrev T39:Ty:=.ref 1
abbrev T41:Ty:=.ref 1
abbrev T42:Ty:=.ref 1
abbrev T43:Ty:=.ref 1
abbrev T44:Ty:=.ref 1
abbrev T46:Ty:=.ref 1
abbrev T51:Ty:=.ref 1
abbrev T52:Ty:=.agg (.prod T3 (T3))
abbrev BI:Ty:=.agg (.prod T3 (T3))
abbrev T54:Ty:=.ref 1
abbrev T56:Ty:=.ref 1
abbrev T57:Ty:=.ref 1
abbrev T59:Ty:=.ref 1
abbrev Kh:Ty:=.slice T3
abbrev T63:Ty:=.ref 1
abbrev T64:Ty:=.ref 1
abbrev T65:Ty:=.ref 1
abbrev T66:Ty:=.ref 1
abbrev T67:Ty:=.ref 1
abbrev T69:Ty:=.ref 1
abbrev T70:Ty:=.ref 1
abbrev T71:Ty:=.ref 1
abbrev T72:Ty:=.ref 0
abbrev T75:Ty:=.ref 1
abbrev T76:Ty:=.ref 1
abbrev T77:Ty:=.ref 1
abbrev T78:Ty:=.ref 1
abbrev T79:Ty:=.ref 1
abbrev T85:Ty:=.ref 1
abbrev T86:Ty:=.agg (.prod T3 (T3))
abbrev T87:Ty:=.agg (.prod T3 (T3))
abbrev T88:Ty:=.ref 1
abbrev T89:Ty:=.ref 1
abbrev T90:Ty:=.ref 1
abbrev T91:Ty:=.ref 1
abbrev T92:Ty:=.ref 1
abbrev T94:Ty:=.ref 1
abbrev T95:Ty:=.ref 2
abbrev T96:Ty:=.ref 1
abbrev T97:Ty:=.ref 1
abbrev T99:Ty:=.ref 1
abbrev A6a:Ty:=.ref 1
abbrev A6b:Ty:=.ref 1
abbrev A6c:Ty:=.ref 1
abbrev B6:Ty:=.slice T9
abbrev A6d:Ty:=.ref 1
abbrev A6e:Ty:=.ref 1
abbrev A6f:Ty:=.ref 1
abbrev A6g:Ty:=.agg (.prod T9 (T3))
abbrev yF:Ty:=.agg (.prod T9 (T3))
abbrev A6h:Ty:=.ref 1
abbrev A6i:Ty:=.ref 1
abbrev A6j:Ty:=.ref 1
abbrev A6k:Ty:=.slice T4
abbrev A6l:Ty:=.ref 0
abbrev A6m:Ty:=.ref 1
abbrev A6n:Ty:=.ref 1
abbrev A6o:Ty:=.ref 1
abbrev A6p:Ty:=.ref 0
abbrev A6q:Ty:=.ref 1
abbrev A6r:Ty:=.ref 1
abbrev A6s:Ty:=.ref 1
abbrev A6t:Ty:=.ref 1
abbrev A6u:Ty:=.ref 1
abbrev A6v:Ty:=.ref 1
abbrev A6w:Ty:=.ref 1
abbrev A6x:Ty:=.ref 1
abbrev A6y:Ty:=.ref 1
abbrev A6z:Ty:=.ref 1
abbrev A6A:Ty:=.ref 1
abbrev A6B:Ty:=.ref 1
abbrev A6C:Ty:=.ref 1
abbrev A6D:Ty:=.ref 1
abbrev A6E:Ty:=.ref 1
abbrev A6F:Ty:=.ref 1
abbrev A6G:Ty:=.ref 1
abbrev A6H:Ty:=.ref 1
abbrev A6I:Ty:=.ref 1
abbrev A6J:Ty:=.agg (.prod T9 (T9))
abbrev lC:Ty:=.agg (.prod T9 (T9))
abbrev Pk:Ty:=.int .u64
abbrev A6K:Ty:=.ref 1
abbrev A6L:Ty:=.ref 1
abbrev A6M:Ty:=.ref 1
abbrev A6N:Ty:=.ref 1
abbrev A6O:Ty:=.ref 2
abbrev A6P:Ty:=.ref 1
abbrev A6Q:Ty:=.ref 1
abbrev A6R:Ty:=.ref 1
abbrev A6S:Ty:=.ref 1
abbrev A6T:Ty:=.ref 1
abbrev Q8:Ty:=.agg (.prod T3 (T3))
abbrev A6U:Ty:=.slice Q8
abbrev A6V:Ty:=.ref 1
abbrev A6W:Ty:=.ref 1
abbrev A6X:Ty:=.ref 1
abbrev A6Y:Ty:=.ref 1
abbrev A6Z:Ty:=.ref 1
abbrev A70:Ty:=.ref 1
abbrev A71:Ty:=.ref 1
abbrev A72:Ty:=.ref 1
abbrev A73:Ty:=.ref 1
abbrev A74:Ty:=.ref 1
abbrev A75:Ty:=.ref 1
abbrev A76:Ty:=.ref 1
abbrev A77:Ty:=.ref 1
abbrev A78:Ty:=.ref 1
abbrev A79:Ty:=.ref 1
abbrev A7a:Ty:=.ref 1
abbrev A7b:Ty:=.ref 1
abbrev A7c:Ty:=.ref 1
abbrev A7d:Ty:=.ref 1
abbrev A7e:Ty:=.ref 1
abbrev A7f:Ty:=.ref 1
abbrev A7g:Ty:=.ref 1
abbrev A7h:Ty:=.ref 1
abbrev A7i:Ty:=.int .u64
abbrev A7j:Ty:=.ref 1
abbrev A7k:Ty:=.ref 1
abbrev A7l:Ty:=.ref 1
abbrev A7m:Ty:=.ref 1
abbrev A7n:Ty:=.ref 1
abbrev A7o:Ty:=.ref 1
abbrev A7p:Ty:=.ref 1
abbrev A7q:Ty:=.ref 1
abbrev A7r:Ty:=.ref 1
abbrev A7s:Ty:=.int .i64
abbrev A7t:Ty:=.ref 1
abbrev A7u:Ty:=.ref 1
abbrev A7v:Ty:=.ref 1
abbrev A7w:Ty:=.ref 1
abbrev A7x:Ty:=.ref 1
abbrev A7y:Ty:=.int .u32
abbrev A7z:Ty:=.ref 1
abbrev A7A:Ty:=.ref 1
abbrev A7B:Ty:=.ref 1
abbrev A7C:Ty:=.int .u64
abbrev A7D:Ty:=.ref 1
abbrev A7E:Ty:=.ref 1
abbrev A7F:Ty:=.ref 1
abbrev A7G:Ty:=.ref 0
abbrev A7H:Ty:=.ref 1
abbrev A7I:Ty:=.ref 0
abbrev A7J:Ty:=.ref 1
abbrev A7K:Ty:=.ref 1
abbrev A7L:Ty:=.ref 1
abbrev A7M:Ty:=.ref 1
abbrev A7N:Ty:=.ref 0
abbrev WB:Ty:=.slice yF
abbrev DS:Ty:=.slice BI
abbrev T48:Ty:=.agg (.prod T3 (DS))
abbrev Ox:Ty:=.agg (.prod T3 (DS))
abbrev T80:Ty:=.slice Pk
abbrev EV:Ty:=.slice Pk
abbrev jZ:Ty:=.slice T87
abbrev T83:Ty:=.agg (.prod T9 (.prod EV (.prod Kh (jZ))))
abbrev T84:Ty:=.agg (.prod T9 (.prod EV (.prod Kh (jZ))))
abbrev A7O:Ty:=.agg (.prod T9 (EV))
abbrev Yn:Ty:=.agg (.prod T9 (EV))
abbrev aX:Ty:=.slice lC
abbrev A7P:Ty:=.agg (.prod T9 (.prod B6 (aX)))
abbrev tC:Ty:=.agg (.prod T9 (.prod B6 (aX)))
abbrev A31:Ty:=.slice DS
abbrev Si:Ty:=.slice EV
abbrev FC:Ty:=.slice tC
abbrev F6:Ty:=.slice Ox
abbrev T24:Ty:=.agg (F6)
abbrev E0:Ty:=.agg (F6)
abbrev S5:Ty:=.slice T84
abbrev T30:Ty:=.agg (.prod S5 (WB))
abbrev Ga:Ty:=.agg (.prod S5 (WB))
abbrev T45:Ty:=.slice jZ
abbrev T55:Ty:=.agg (.prod E0 (.prod E0 (E0)))
abbrev T58:Ty:=.slice E0
abbrev T61:Ty:=.agg (.prod E0 (.prod Kh (E0)))
abbrev T62:Ty:=.agg (.prod E0 (.prod Kh (E0)))
abbrev T73:Ty:=.agg (.prod Ga (.prod Kh (Kh)))
abbrev T74:Ty:=.agg (.prod Ga (.prod Kh (Kh)))
abbrev KK:Ty:=.slice Yn
abbrev A7Q:Ty:=.agg (.prod E0 (.prod Kh (Kh)))
abbrev A7R:Ty:=.agg (.prod E0 (.prod Kh (Kh)))
abbrev A7S:Ty:=.agg (.prod Ga (.prod Kh (.prod Kh (A31))))
abbrev A7T:Ty:=.agg (.prod Ga (.prod Kh (.prod Kh (A31))))
set_option maxRecDepth 100000
def AK:List (Nat×TI):=[(1,⟨T1,[],0,8⟩),
 (2,⟨T2,[],0,8⟩),
 (3,⟨T3,[],0,8⟩),
 (4,⟨T4,[],0,1⟩),
 (5,⟨T5,[],0,1⟩),
 (9,⟨T9,[],0,16⟩),
 (12,⟨T12,[],0,8⟩),
 (21,⟨T21,[],0,4⟩),
 (22,⟨FC,[],111,24⟩),
 (23,⟨F6,[],49,24⟩),
 (24,⟨T24,[(0,1)],0,24⟩),
 (25,⟨E0,[(0,1)],0,24⟩),
 (26,⟨T26,[],0,8⟩),
 (27,⟨T27,[],0,8⟩),
 (28,⟨S5,[],84,24⟩),
 (29,⟨WB,[],116,24⟩),
 (30,⟨T30,[(0,1),(1,1)],0,48⟩),
 (31,⟨Ga,[(0,1),(1,1)],0,48⟩),
 (32,⟨T32,[],0,8⟩),
 (33,⟨WA,[],0,8⟩),
 (34,⟨T34,[],0,8⟩),
 (35,⟨T35,[],0,8⟩),
 (36,⟨T36,[],0,8⟩),
 (38,⟨T38,[],0,8⟩),
 (39,⟨T39,[],0,8⟩),
 (41,⟨T41,[],0,8⟩),
 (42,⟨T42,[],0,8⟩),
 (43,⟨T43,[],0,8⟩),
 (44,⟨T44,[],0,8⟩),
 (45,⟨T45,[],82,24⟩),
 (46,⟨T46,[],0,8⟩),
 (47,⟨DS,[],53,24⟩),
 (48,⟨T48,[(0,1),(1,1)],0,32⟩),
 (49,⟨Ox,[(0,1),(1,1)],0,32⟩),
 (51,⟨T51,[],0,8⟩),
 (52,⟨T52,[(0,1),(1,1)],0,16⟩),
 (53,⟨BI,[(0,1),(1,1)],0,16⟩),
 (54,⟨T54,[],0,8⟩),
 (55,⟨T55,[(0,1),(1,1),(2,1)],25,72⟩),
 (56,⟨T56,[],0,8⟩),
 (57,⟨T57,[],0,8⟩),
 (58,⟨T58,[],25,24⟩),
 (59,⟨T59,[],0,8⟩),
 (60,⟨Kh,[],3,24⟩),
 (61,⟨T61,[(0,1),(1,1),(2,1)],0,72⟩),
 (62,⟨T62,[(0,1),(1,1),(2,1)],0,72⟩),
 (63,⟨T63,[],0,8⟩),
 (64,⟨T64,[],0,8⟩),
 (65,⟨T65,[],0,8⟩),
 (66,⟨T66,[],0,8⟩),
 (67,⟨T67,[],0,8⟩),
 (69,⟨T69,[],0,8⟩),
 (70,⟨T70,[],0,8⟩),
 (71,⟨T71,[],0,8⟩),
 (72,⟨T72,[],0,8⟩),
 (73,⟨T73,[(0,2),(2,1),(3,1)],0,96⟩),
 (74,⟨T74,[(0,2),(2,1),(3,1)],0,96⟩),
 (75,⟨T75,[],0,8⟩),
 (76,⟨T76,[],0,8⟩),
 (77,⟨T77,[],0,8⟩),
 (78,⟨T78,[],0,8⟩),
 (79,⟨T79,[],0,8⟩),
 (80,⟨T80,[],155,24⟩),
 (81,⟨EV,[],155,24⟩),
 (82,⟨jZ,[],87,24⟩),
 (83,⟨T83,[(0,1),(1,1),(2,1),(3,1)],0,88⟩),
 (84,⟨T84,[(0,1),(1,1),(2,1),(3,1)],0,88⟩),
 (85,⟨T85,[],0,8⟩),
 (86,⟨T86,[(0,1),(1,1)],0,16⟩),
 (87,⟨T87,[(0,1),(1,1)],0,16⟩),
 (88,⟨T88,[],0,8⟩),
 (89,⟨T89,[],0,8⟩),
 (90,⟨T90,[],0,8⟩),
 (91,⟨T91,[],0,8⟩),
 (92,⟨T92,[],0,8⟩),
 (94,⟨T94,[],0,8⟩),
 (95,⟨T95,[(3,4)],0,8⟩),
 (96,⟨T96,[],0,8⟩),
 (97,⟨T97,[],0,8⟩),
 (99,⟨T99,[],0,8⟩),
 (100,⟨KK,[],104,24⟩),
 (102,⟨A6a,[],0,8⟩),
 (103,⟨A7O,[(0,1),(1,1)],0,40⟩),
 (104,⟨Yn,[(0,1),(1,1)],0,40⟩),
 (105,⟨A6b,[],0,8⟩),
 (107,⟨A6c,[],0,8⟩),
 (108,⟨B6,[],9,24⟩),
 (109,⟨aX,[],154,24⟩),
 (110,⟨A7P,[(0,1),(1,1),(2,1)],0,64⟩),
 (111,⟨tC,[(0,1),(1,1),(2,1)],0,64⟩),
 (112,⟨A6d,[],0,8⟩),
 (113,⟨A6e,[],0,8⟩),
 (114,⟨A6f,[],0,8⟩),
 (115,⟨A6g,[(0,1),(1,1)],0,24⟩),
 (116,⟨yF,[(0,1),(1,1)],0,24⟩),
 (117,⟨A6h,[],0,8⟩),
 (118,⟨A6i,[],0,8⟩),
 (119,⟨A6j,[],0,8⟩),
 (120,⟨A6k,[],4,24⟩),
 (121,⟨A6l,[],0,8⟩),
 (122,⟨A7Q,[(0,1),(1,1),(2,1)],0,72⟩),
 (123,⟨A7R,[(0,1),(1,1),(2,1)],0,72⟩),
 (124,⟨A6m,[],0,8⟩),
 (125,⟨A6n,[],0,8⟩),
 (126,⟨A6o,[],0,8⟩),
 (127,⟨A6p,[],0,8⟩),
 (128,⟨A31,[],47,24⟩),
 (129,⟨A7S,[(0,2),(2,1),(3,1),(4,1)],0,120⟩),
 (130,⟨A7T,[(0,2),(2,1),(3,1),(4,1)],0,120⟩),
 (131,⟨A6q,[],0,8⟩),
 (132,⟨A6r,[],0,8⟩),
 (133,⟨A6s,[],0,8⟩),
 (134,⟨A6t,[],0,8⟩),
 (135,⟨A6u,[],0,8⟩),
 (136,⟨A6v,[],0,8⟩),
 (137,⟨A6w,[],0,8⟩),
 (138,⟨A6x,[],0,8⟩),
 (139,⟨A6y,[],0,8⟩),
 (140,⟨A6z,[],0,8⟩),
 (142,⟨A6A,[],0,8⟩),
 (143,⟨A6B,[],0,8⟩),
 (144,⟨Si,[],81,24⟩),
 (145,⟨A6C,[],0,8⟩),
 (146,⟨A6D,[],0,8⟩),
 (147,⟨A6E,[],0,8⟩),
 (148,⟨A6F,[],0,8⟩),
 (149,⟨A6G,[],0,8⟩),
 (151,⟨A6H,[],0,8⟩),
 (152,⟨A6I,[],0,8⟩),
 (153,⟨A6J,[(0,1),(1,1)],0,32⟩),
 (154,⟨lC,[(0,1),(1,1)],0,32⟩),
 (155,⟨Pk,[],0,8⟩),
 (156,⟨A6K,[],0,8⟩),
 (157,⟨A6L,[],0,8⟩),
 (158,⟨A6M,[],0,8⟩),
 (159,⟨A6N,[],0,8⟩),
 (160,⟨A6O,[(3,3)],0,8⟩),
 (161,⟨A6P,[],0,8⟩),
 (162,⟨A6Q,[],0,8⟩),
 (163,⟨A6R,[],0,8⟩),
 (164,⟨A6S,[],0,8⟩),
 (165,⟨A6T,[],0,8⟩),
 (166,⟨Q8,[(0,1),(1,1)],3,16⟩),
 (167,⟨A6U,[],166,24⟩),
 (168,⟨A6V,[],0,8⟩),
 (169,⟨A6W,[],0,8⟩),
 (170,⟨A6X,[],0,8⟩),
 (171,⟨A6Y,[],0,8⟩),
 (172,⟨A6Z,[],0,8⟩),
 (173,⟨A70,[],0,8⟩),
 (174,⟨A71,[],0,8⟩),
 (176,⟨A72,[],0,8⟩),
 (177,⟨A73,[],0,8⟩),
 (178,⟨A74,[],0,8⟩),
 (179,⟨A75,[],0,8⟩),
 (180,⟨A76,[],0,8⟩),
 (181,⟨A77,[],0,8⟩),
 (182,⟨A78,[],0,8⟩),
 (183,⟨A79,[],0,8⟩),
 (184,⟨A7a,[],0,8⟩),
 (185,⟨A7b,[],0,8⟩),
 (186,⟨A7c,[],0,8⟩),
 (187,⟨A7d,[],0,8⟩),
 (188,⟨A7e,[],0,8⟩),
 (189,⟨A7f,[],0,8⟩),
 (190,⟨A7g,[],0,8⟩),
 (191,⟨A7h,[],0,8⟩),
 (192,⟨A7i,[],0,8⟩),
 (193,⟨A7j,[],0,8⟩),
 (194,⟨A7k,[],0,8⟩),
 (195,⟨A7l,[],0,8⟩),
 (196,⟨A7m,[],0,8⟩),
 (197,⟨A7n,[],0,8⟩),
 (198,⟨A7o,[],0,8⟩),
 (199,⟨A7p,[],0,8⟩),
 (200,⟨A7q,[],0,8⟩),
 (201,⟨A7r,[],0,8⟩),
 (202,⟨A7s,[],0,8⟩),
 (204,⟨A7t,[],0,8⟩),
 (205,⟨A7u,[],0,8⟩),
 (206,⟨A7v,[],0,8⟩),
 (207,⟨A7w,[],0,8⟩),
 (208,⟨A7x,[],0,8⟩),
 (209,⟨A7y,[],0,4⟩),
 (210,⟨A7z,[],0,8⟩),
 (211,⟨A7A,[],0,8⟩),
 (212,⟨A7B,[],0,8⟩),
 (213,⟨A7C,[],0,8⟩),
 (214,⟨A7D,[],0,8⟩),
 (215,⟨A7E,[],0,8⟩),
 (216,⟨A7F,[],0,8⟩),
 (217,⟨A7G,[],0,8⟩),
 (218,⟨A7H,[],0,8⟩),
 (219,⟨A7I,[],0,8⟩),
 (221,⟨A7J,[],0,8⟩),
 (222,⟨A7K,[],0,8⟩),
 (228,⟨A7L,[],0,8⟩),
 (231,⟨A7M,[],0,8⟩),
 (232,⟨A7N,[],0,8⟩)]
theorem tyTab_ok (f) (a:List Nat) (b:List Nat:=[]) (ne:List (Nat×TypeId):=[]):DF Tryz.prog ⟨AK,f,b,ne,a⟩:=A2p (by kernel_rfl)
theorem drawsAny:Tryz.prog.follows .mixedOrders=true:=by kernel_rfl
theorem ty1:lk 1 AK=some ⟨T1,[],0,8⟩:=rfl
theorem ty2:lk 2 AK=some ⟨T2,[],0,8⟩:=rfl
theorem ty3:lk 3 AK=some ⟨T3,[],0,8⟩:=rfl
theorem ty4:lk 4 AK=some ⟨T4,[],0,1⟩:=rfl
theorem ty5:lk 5 AK=some ⟨T5,[],0,1⟩:=rfl
theorem ty9:lk 9 AK=some ⟨T9,[],0,16⟩:=rfl
theorem yG:lk 12 AK=some ⟨T12,[],0,8⟩:=rfl
theorem yH:lk 21 AK=some ⟨T21,[],0,4⟩:=rfl
theorem yI:lk 22 AK=some ⟨FC,[],111,24⟩:=rfl
theorem yJ:lk 23 AK=some ⟨F6,[],49,24⟩:=rfl
theorem yK:lk 24 AK=some ⟨T24,[(0,1)],0,24⟩:=rfl
theorem yL:lk 25 AK=some ⟨E0,[(0,1)],0,24⟩:=rfl
theorem yM:lk 26 AK=some ⟨T26,[],0,8⟩:=rfl
theorem yN:lk 27 AK=some ⟨T27,[],0,8⟩:=rfl
theorem yO:lk 28 AK=some ⟨S5,[],84,24⟩:=rfl
theorem yP:lk 29 AK=some ⟨WB,[],116,24⟩:=rfl
theorem yQ:lk 30 AK=some ⟨T30,[(0,1),(1,1)],0,48⟩:=rfl
theorem yR:lk 31 AK=some ⟨Ga,[(0,1),(1,1)],0,48⟩:=rfl
theorem yS:lk 32 AK=some ⟨T32,[],0,8⟩:=rfl
theorem yT:lk 33 AK=some ⟨WA,[],0,8⟩:=rfl
theorem yU:lk 34 AK=some ⟨T34,[],0,8⟩:=rfl
theorem yV:lk 35 AK=some ⟨T35,[],0,8⟩:=rfl
theorem yW:lk 36 AK=some ⟨T36,[],0,8⟩:=rfl
theorem yX:lk 38 AK=some ⟨T38,[],0,8⟩:=rfl
theorem yY:lk 39 AK=some ⟨T39,[],0,8⟩:=rfl
theorem yZ:lk 41 AK=some ⟨T41,[],0,8⟩:=rfl
theorem y3:lk 42 AK=some ⟨T42,[],0,8⟩:=rfl
theorem y4:lk 43 AK=some ⟨T43,[],0,8⟩:=rfl
theorem y5:lk 44 AK=some ⟨T44,[],0,8⟩:=rfl
theorem y6:lk 45 AK=some ⟨T45,[],82,24⟩:=rfl
theorem y7:lk 46 AK=some ⟨T46,[],0,8⟩:=rfl
theorem y8:lk 47 AK=some ⟨DS,[],53,24⟩:=rfl
theorem y9:lk 48 AK=some ⟨T48,[(0,1),(1,1)],0,32⟩:=rfl
theorem zA:lk 49 AK=some ⟨Ox,[(0,1),(1,1)],0,32⟩:=rfl
theorem zB:lk 51 AK=some ⟨T51,[],0,8⟩:=rfl
theorem zC:lk 52 AK=some ⟨T52,[(0,1),(1,1)],0,16⟩:=rfl
theorem zD:lk 53 AK=some ⟨BI,[(0,1),(1,1)],0,16⟩:=rfl
theorem zE:lk 54 AK=some ⟨T54,[],0,8⟩:=rfl
theorem zF:lk 55 AK=some ⟨T55,[(0,1),(1,1),(2,1)],25,72⟩:=rfl
theorem zG:lk 56 AK=some ⟨T56,[],0,8⟩:=rfl
theorem zH:lk 57 AK=some ⟨T57,[],0,8⟩:=rfl
theorem zI:lk 58 AK=some ⟨T58,[],25,24⟩:=rfl
theorem zJ:lk 59 AK=some ⟨T59,[],0,8⟩:=rfl
theorem zK:lk 60 AK=some ⟨Kh,[],3,24⟩:=rfl
theorem zL:lk 61 AK=some ⟨T61,[(0,1),(1,1),(2,1)],0,72⟩:=rfl
theorem zM:lk 62 AK=some ⟨T62,[(0,1),(1,1),(2,1)],0,72⟩:=rfl
theorem zN:lk 63 AK=some ⟨T63,[],0,8⟩:=rfl
theorem zO:lk 64 AK=some ⟨T64,[],0,8⟩:=rfl
theorem zP:lk 65 AK=some ⟨T65,[],0,8⟩:=rfl
theorem zQ:lk 66 AK=some ⟨T66,[],0,8⟩:=rfl
theorem zR:lk 67 AK=some ⟨T67,[],0,8⟩:=rfl
theorem zS:lk 69 AK=some ⟨T69,[],0,8⟩:=rfl
theorem zT:lk 70 AK=some ⟨T70,[],0,8⟩:=rfl
theorem zU:lk 71 AK=some ⟨T71,[],0,8⟩:=rfl
theorem zV:lk 72 AK=some ⟨T72,[],0,8⟩:=rfl
theorem zW:lk 73 AK=some ⟨T73,[(0,2),(2,1),(3,1)],0,96⟩:=rfl
theorem zX:lk 74 AK=some ⟨T74,[(0,2),(2,1),(3,1)],0,96⟩:=rfl
theorem zY:lk 75 AK=some ⟨T75,[],0,8⟩:=rfl
theorem zZ:lk 76 AK=some ⟨T76,[],0,8⟩:=rfl
theorem z0:lk 77 AK=some ⟨T77,[],0,8⟩:=rfl
theorem z1:lk 78 AK=some ⟨T78,[],0,8⟩:=rfl
theorem z2:lk 79 AK=some ⟨T79,[],0,8⟩:=rfl
theorem z3:lk 80 AK=some ⟨T80,[],155,24⟩:=rfl
theorem z4:lk 81 AK=some ⟨EV,[],155,24⟩:=rfl
theorem z5:lk 82 AK=some ⟨jZ,[],87,24⟩:=rfl
theorem z6:lk 83 AK=some ⟨T83,[(0,1),(1,1),(2,1),(3,1)],0,88⟩:=rfl
theorem z7:lk 84 AK=some ⟨T84,[(0,1),(1,1),(2,1),(3,1)],0,88⟩:=rfl
theorem z8:lk 85 AK=some ⟨T85,[],0,8⟩:=rfl
theorem z9:lk 86 AK=some ⟨T86,[(0,1),(1,1)],0,16⟩:=rfl
theorem A00:lk 87 AK=some ⟨T87,[(0,1),(1,1)],0,16⟩:=rfl
theorem A01:lk 88 AK=some ⟨T88,[],0,8⟩:=rfl
theorem A02:lk 89 AK=some ⟨T89,[],0,8⟩:=rfl
theorem A03:lk 90 AK=some ⟨T90,[],0,8⟩:=rfl
theorem A04:lk 91 AK=some ⟨T91,[],0,8⟩:=rfl
theorem A05:lk 92 AK=some ⟨T92,[],0,8⟩:=rfl
theorem A06:lk 94 AK=some ⟨T94,[],0,8⟩:=rfl
theorem A07:lk 95 AK=some ⟨T95,[(3,4)],0,8⟩:=rfl
theorem A08:lk 96 AK=some ⟨T96,[],0,8⟩:=rfl
theorem A09:lk 97 AK=some ⟨T97,[],0,8⟩:=rfl
theorem A0a:lk 99 AK=some ⟨T99,[],0,8⟩:=rfl
theorem aY:lk 100 AK=some ⟨KK,[],104,24⟩:=rfl
theorem aZ:lk 102 AK=some ⟨A6a,[],0,8⟩:=rfl
theorem a9:lk 103 AK=some ⟨A7O,[(0,1),(1,1)],0,40⟩:=rfl
theorem bA:lk 104 AK=some ⟨Yn,[(0,1),(1,1)],0,40⟩:=rfl
theorem bB:lk 105 AK=some ⟨A6b,[],0,8⟩:=rfl
theorem bC:lk 107 AK=some ⟨A6c,[],0,8⟩:=rfl
theorem bD:lk 108 AK=some ⟨B6,[],9,24⟩:=rfl
theorem bE:lk 109 AK=some ⟨aX,[],154,24⟩:=rfl
theorem bF:lk 110 AK=some ⟨A7P,[(0,1),(1,1),(2,1)],0,64⟩:=rfl
theorem bG:lk 111 AK=some ⟨tC,[(0,1),(1,1),(2,1)],0,64⟩:=rfl
theorem bH:lk 112 AK=some ⟨A6d,[],0,8⟩:=rfl
theorem bI:lk 113 AK=some ⟨A6e,[],0,8⟩:=rfl
theorem bJ:lk 114 AK=some ⟨A6f,[],0,8⟩:=rfl
theorem bK:lk 115 AK=some ⟨A6g,[(0,1),(1,1)],0,24⟩:=rfl
theorem bL:lk 116 AK=some ⟨yF,[(0,1),(1,1)],0,24⟩:=rfl
theorem bM:lk 117 AK=some ⟨A6h,[],0,8⟩:=rfl
theorem bN:lk 118 AK=some ⟨A6i,[],0,8⟩:=rfl
theorem bO:lk 119 AK=some ⟨A6j,[],0,8⟩:=rfl
theorem bP:lk 120 AK=some ⟨A6k,[],4,24⟩:=rfl
theorem bQ:lk 121 AK=some ⟨A6l,[],0,8⟩:=rfl
theorem bR:lk 122 AK=some ⟨A7Q,[(0,1),(1,1),(2,1)],0,72⟩:=rfl
theorem bS:lk 123 AK=some ⟨A7R,[(0,1),(1,1),(2,1)],0,72⟩:=rfl
theorem bT:lk 124 AK=some ⟨A6m,[],0,8⟩:=rfl
theorem bU:lk 125 AK=some ⟨A6n,[],0,8⟩:=rfl
theorem bV:lk 126 AK=some ⟨A6o,[],0,8⟩:=rfl
theorem bW:lk 127 AK=some ⟨A6p,[],0,8⟩:=rfl
theorem bX:lk 128 AK=some ⟨A31,[],47,24⟩:=rfl
theorem bZ:lk 129 AK=some ⟨A7S,[(0,2),(2,1),(3,1),(4,1)],0,120⟩:=rfl
theorem b4:lk 130 AK=some ⟨A7T,[(0,2),(2,1),(3,1),(4,1)],0,120⟩:=rfl
theorem b5:lk 131 AK=some ⟨A6q,[],0,8⟩:=rfl
theorem b6:lk 132 AK=some ⟨A6r,[],0,8⟩:=rfl
theorem b7:lk 133 AK=some ⟨A6s,[],0,8⟩:=rfl
theorem b8:lk 134 AK=some ⟨A6t,[],0,8⟩:=rfl
theorem b9:lk 135 AK=some ⟨A6u,[],0,8⟩:=rfl
theorem cA:lk 136 AK=some ⟨A6v,[],0,8⟩:=rfl
theorem cB:lk 137 AK=some ⟨A6w,[],0,8⟩:=rfl
theorem cC:lk 138 AK=some ⟨A6x,[],0,8⟩:=rfl
theorem cE:lk 139 AK=some ⟨A6y,[],0,8⟩:=rfl
theorem cF:lk 140 AK=some ⟨A6z,[],0,8⟩:=rfl
theorem cG:lk 142 AK=some ⟨A6A,[],0,8⟩:=rfl
theorem cH:lk 143 AK=some ⟨A6B,[],0,8⟩:=rfl
theorem cI:lk 144 AK=some ⟨Si,[],81,24⟩:=rfl
theorem cJ:lk 145 AK=some ⟨A6C,[],0,8⟩:=rfl
theorem cK:lk 146 AK=some ⟨A6D,[],0,8⟩:=rfl
theorem cL:lk 147 AK=some ⟨A6E,[],0,8⟩:=rfl
theorem cM:lk 148 AK=some ⟨A6F,[],0,8⟩:=rfl
theorem cN:lk 149 AK=some ⟨A6G,[],0,8⟩:=rfl
theorem cO:lk 151 AK=some ⟨A6H,[],0,8⟩:=rfl
theorem cQ:lk 152 AK=some ⟨A6I,[],0,8⟩:=rfl
theorem cR:lk 153 AK=some ⟨A6J,[(0,1),(1,1)],0,32⟩:=rfl
theorem cS:lk 154 AK=some ⟨lC,[(0,1),(1,1)],0,32⟩:=rfl
theorem cU:lk 155 AK=some ⟨Pk,[],0,8⟩:=rfl
theorem cV:lk 156 AK=some ⟨A6K,[],0,8⟩:=rfl
theorem cW:lk 157 AK=some ⟨A6L,[],0,8⟩:=rfl
theorem cX:lk 158 AK=some ⟨A6M,[],0,8⟩:=rfl
theorem cZ:lk 159 AK=some ⟨A6N,[],0,8⟩:=rfl
theorem c6:lk 160 AK=some ⟨A6O,[(3,3)],0,8⟩:=rfl
theorem c7:lk 161 AK=some ⟨A6P,[],0,8⟩:=rfl
theorem c8:lk 162 AK=some ⟨A6Q,[],0,8⟩:=rfl
theorem c9:lk 163 AK=some ⟨A6R,[],0,8⟩:=rfl
theorem dA:lk 164 AK=some ⟨A6S,[],0,8⟩:=rfl
theorem dB:lk 165 AK=some ⟨A6T,[],0,8⟩:=rfl
theorem dC:lk 166 AK=some ⟨Q8,[(0,1),(1,1)],3,16⟩:=rfl
theorem dD:lk 167 AK=some ⟨A6U,[],166,24⟩:=rfl
theorem dE:lk 168 AK=some ⟨A6V,[],0,8⟩:=rfl
theorem dF:lk 169 AK=some ⟨A6W,[],0,8⟩:=rfl
theorem dG:lk 170 AK=some ⟨A6X,[],0,8⟩:=rfl
theorem dH:lk 171 AK=some ⟨A6Y,[],0,8⟩:=rfl
theorem dI:lk 172 AK=some ⟨A6Z,[],0,8⟩:=rfl
theorem dJ:lk 173 AK=some ⟨A70,[],0,8⟩:=rfl
theorem dK:lk 174 AK=some ⟨A71,[],0,8⟩:=rfl
theorem dL:lk 176 AK=some ⟨A72,[],0,8⟩:=rfl
theorem dM:lk 177 AK=some ⟨A73,[],0,8⟩:=rfl
theorem dN:lk 178 AK=some ⟨A74,[],0,8⟩:=rfl
theorem dP:lk 179 AK=some ⟨A75,[],0,8⟩:=rfl
theorem dQ:lk 180 AK=some ⟨A76,[],0,8⟩:=rfl
theorem dR:lk 181 AK=some ⟨A77,[],0,8⟩:=rfl
theorem dS:lk 182 AK=some ⟨A78,[],0,8⟩:=rfl
theorem dT:lk 183 AK=some ⟨A79,[],0,8⟩:=rfl
theorem dU:lk 184 AK=some ⟨A7a,[],0,8⟩:=rfl
theorem dV:lk 185 AK=some ⟨A7b,[],0,8⟩:=rfl
theorem dW:lk 186 AK=some ⟨A7c,[],0,8⟩:=rfl
theorem dX:lk 187 AK=some ⟨A7d,[],0,8⟩:=rfl
theorem dY:lk 188 AK=some ⟨A7e,[],0,8⟩:=rfl
theorem dZ:lk 189 AK=some ⟨A7f,[],0,8⟩:=rfl
theorem d3:lk 190 AK=some ⟨A7g,[],0,8⟩:=rfl
theorem d4:lk 191 AK=some ⟨A7h,[],0,8⟩:=rfl
theorem d5:lk 192 AK=some ⟨A7i,[],0,8⟩:=rfl
theorem d6:lk 193 AK=some ⟨A7j,[],0,8⟩:=rfl
theorem d7:lk 194 AK=some ⟨A7k,[],0,8⟩:=rfl
theorem d8:lk 195 AK=some ⟨A7l,[],0,8⟩:=rfl
theorem d9:lk 196 AK=some ⟨A7m,[],0,8⟩:=rfl
theorem eB:lk 197 AK=some ⟨A7n,[],0,8⟩:=rfl
theorem eC:lk 198 AK=some ⟨A7o,[],0,8⟩:=rfl
theorem eD:lk 199 AK=some ⟨A7p,[],0,8⟩:=rfl
theorem eE:lk 200 AK=some ⟨A7q,[],0,8⟩:=rfl
theorem eF:lk 201 AK=some ⟨A7r,[],0,8⟩:=rfl
theorem eG:lk 202 AK=some ⟨A7s,[],0,8⟩:=rfl
theorem eH:lk 204 AK=some ⟨A7t,[],0,8⟩:=rfl
theorem eI:lk 205 AK=some ⟨A7u,[],0,8⟩:=rfl
theorem eJ:lk 206 AK=some ⟨A7v,[],0,8⟩:=rfl
theorem eK:lk 207 AK=some ⟨A7w,[],0,8⟩:=rfl
theorem eL:lk 208 AK=some ⟨A7x,[],0,8⟩:=rfl
theorem eO:lk 209 AK=some ⟨A7y,[],0,4⟩:=rfl
theorem eQ:lk 210 AK=some ⟨A7z,[],0,8⟩:=rfl
theorem eU:lk 211 AK=some ⟨A7A,[],0,8⟩:=rfl
theorem eW:lk 212 AK=some ⟨A7B,[],0,8⟩:=rfl
theorem eX:lk 213 AK=some ⟨A7C,[],0,8⟩:=rfl
theorem eY:lk 214 AK=some ⟨A7D,[],0,8⟩:=rfl
theorem eZ:lk 215 AK=some ⟨A7E,[],0,8⟩:=rfl
theorem e7:lk 216 AK=some ⟨A7F,[],0,8⟩:=rfl
theorem e9:lk 217 AK=some ⟨A7G,[],0,8⟩:=rfl
theorem fA:lk 218 AK=some ⟨A7H,[],0,8⟩:=rfl
theorem fB:lk 219 AK=some ⟨A7I,[],0,8⟩:=rfl
theorem fC:lk 221 AK=some ⟨A7J,[],0,8⟩:=rfl
theorem fD:lk 222 AK=some ⟨A7K,[],0,8⟩:=rfl
theorem fE:lk 228 AK=some ⟨A7L,[],0,8⟩:=rfl
theorem fF:lk 231 AK=some ⟨A7M,[],0,8⟩:=rfl
theorem fG:lk 232 AK=some ⟨A7N,[],0,8⟩:=rfl
end
section
open Go Go.RowKit
section
variable {c:Cx} {R:Exit→Act→World→Prop} {k:List Df} {σ σ':St}
theorem tD {P:Program} {tb:Tb} {t:TypeId} {ti:TI} {e:Ty} (hT:ED P tb t ti) (c:ti.ty=.slice e) (w:World) (a:Option Addr) (n m:Nat):(Op.equal t (.slice a n m) (.slice none 0 0)).run P w=.ok a.isNone w:=by
 have b:=hT.2;rw[c]at b;exact run_equal_slice_nil w t ti.el a n m b.1
def fH:Option TI→Bool
 | some ⟨.slice _,_,_,_⟩=>true
 | _=>false
theorem XE (g:c.Ok) {ops:Array Oper} {rest:List Oper} {d:Nat} {t:TypeId} {x:Operand} {r ty:TypeId} {pos:String} {after:Array Edge} {e:Ty} {l:List e.den} (neg:Bool)
  (G:Ah σ x=some (.p (.slice e) l)) (i:fH (lk t c.tb.ty)=true) (hk:∀b:Bool,(b=true→l=[])→HY c R k ops rest (σ.add (.p .bool (if neg then !b else b)) [] (some d))) :
  HY c R k ops (⟨some d,.binOp (if neg then .neq else .eql) t x (.const (.slice none 0 0)) r,ty,pos,after,none⟩ :: rest) σ:=by
 intro n z a w F;obtain⟨ρ,q⟩:=F;have y:GH (vw w c.O0 σ ρ) σ a.eval:=Du q.env;have H:=y x _ G;obtain⟨cs,⟨ad,m,rfl,h1,N,f⟩,j⟩:=H;have j:a.eval x=.slice ad (List.length l) m:=j;unfold fH at i;split at i
 ·rename_i M offs el bytes A;have s:=g.T _ _ A;have heq:=tD s rfl w ad (List.length l) m;unfold wpListIn;rw[At (by simp[Region.wanted])];have D:(execOp a.eval ⟨some d,.binOp (if neg then .neq else .eql) t x (.const (.slice none 0 0)) r,ty,pos,after,none⟩).run c.P w=.ok (.value (.bool (if neg then !ad.isNone else ad.isNone))) w:=by
   have I:a.eval (.const (.slice none 0 0))=.slice none 0 0:=rfl;cases neg<;>simp[execOp,j,I,eqGuard,binOp,heq]
  refine Aq D ?_ (fun cl h=>by cases neg<;>cases h);have u:ad.isNone=true→l=[]:=fun hn=>by
   rcases f with f|⟨J,rfl,_⟩
   ·exact f
   ·simp at hn
  have C:QS w c.O0 σ ρ (.p .bool (if neg then !ad.isNone else ad.isNone)) [] (.bool (if neg then !ad.isNone else ad.isNone)) ρ w:=QS.still (Be _);have E:=q.add g.K g.O (dst:=some d) (fun L v=>by cases v;exact Bb (n _ ABp) d rfl) rfl C;exact hk ad.isNone u (fun o B=>n o (by simp[B])) z _ _ ⟨ρ,E⟩
 ·cases i
end
end
section
open Go Go.RowKit Go.ChangeShapes Go.WideShapes
set_option maxRecDepth 100000
def pK (r:Ty→TypeId→Bool) (P:Program):Ty→Nat→List Field→Bool
 | .prod a b,o,fs=>match fs with
  | f :: fs=>f.offset==o&&P.cellsOf f.type==a.size&&r a f.type&&pK r P b (o+a.size) fs
  | []=>false
 | s,o,[f]=>f.offset==o&&P.cellsOf f.type==s.size&&r s f.type
 | _,_,_=>false
def tE (P:Program) (m:Nat) (e:TypeId):List Field:=(List.range m).map fun i=>{ (default:Field) with offset:=i*P.cellsOf e,type:=e }
def rd (P:Program):Nat→Ty→TypeId→Bool
 | 0,_,_=>false
 | _+1,.int k,t=>isI k (P.underlying t)
 | _+1,.bool,t=>match P.underlying t with|some .bool=>true|_=>false
 | _+1,.str,t=>match P.underlying t with|some .string=>true|_=>false
 | n+1,.slice e,t=>match P.underlying t with|some (.slice et)=>decide (0<P.bytesOf et)&&P.cellsOf et==e.size&&rd P n e et|_=>false
 | n+1,.agg s,t=>match P.underlying t with|some (.struct fs)=>P.cellsOf t==s.size&&pK (rd P n) P s 0 fs.toList|some (.array m e)=>P.cellsOf t==s.size&&pK (rd P n) P s 0 (tE P m e)|_=>false
 | _+1,_,_=>false
theorem pL {P:Program} {n:Nat} {t:TypeId} (h:rd P (n+1) .bool t=true):P.underlying t=some .bool:=by
 simp only[rd]at h;split at h
 ·assumption
 ·cases h
theorem A0b {P:Program} {n:Nat} {t:TypeId} (h:rd P (n+1) .str t=true):P.underlying t=some .string:=by
 simp only[rd]at h;split at h
 ·assumption
 ·cases h
theorem fJ {P:Program} {n:Nat} {e:Ty} {t:TypeId} (h:rd P (n+1) (.slice e) t=true):∃et,P.underlying t=some (.slice et)∧0<P.bytesOf et∧P.cellsOf et=e.size∧rd P n e et=true:=by
 simp only[rd]at h;split at h
 ·rename_i et hu;simp only[AT,DO,tO]at h;exact⟨et,hu,h.1.1,h.1.2,h.2⟩
 ·cases h
theorem A0c {P:Program} {n:Nat} {s:Ty} {t:TypeId} (h:rd P (n+1) (.agg s) t=true):(∃fs,P.underlying t=some (.struct fs)∧P.cellsOf t=s.size∧pK (rd P n) P s 0 fs.toList=true)∨∃m e,P.underlying t=some (.array m e)∧P.cellsOf t=s.size∧pK (rd P n) P s 0 (tE P m e)=true:=by
 simp only[rd]at h;split at h
 ·rename_i fs hu;simp only[AT,tO]at h;exact .inl ⟨fs,hu,h.1,h.2⟩
 ·rename_i m e hu;simp only[AT,tO]at h;exact .inr ⟨m,e,hu,h.1,h.2⟩
 ·cases h
theorem tF {w:World} {base:Nat} {a:Addr} {n:Nat} {cs:List Value} (h:w.cells? base a n=some cs):cs.length=n∧∀(j:Nat) (v:Value),cs[j]?=some v→w.cell? (a.add j)=some v:=by
 unfold World.cells? at h;split at h
 ·have h1:=mapM_some_length h;simp only[ABZ]at h1;refine⟨h1,fun j v b=>?_⟩;have c:j<n:=by
   obtain⟨c,_⟩:=Ro.1 b;omega
  rw[mapM_some_get h j j (by simp[c]),b]
 ·cases h
section
variable {H:Type} {enc:TypeId×Value→H} {P:Program} {w:World} {spare:Nat→Bool} {held:Bool}
theorem fL {e:TypeId}:∀ {l:List (DataW H)} {d:DataW H},d∈l→∀n∈d.weights P e,n∈DataW.weightsAll P e l
 | a :: l,d,b,n,hn=>by
  simp only[DataW.weightsAll,OF];rcases By.1 b with rfl|b
  ·exact .inl hn
  ·exact .inr (fL b n hn)
 | [],_,b,_,_=>by cases b
theorem XF {b:List TypeId} {a:List (DataW H)}:∀ {ts:List TypeId} {ds:List (DataW H)},∀n∈DataW.weightsEach P ts ds,n∈DataW.weightsEach P (ts++b) (ds++a)
 | t :: ts,d :: ds,n,hn=>by
  simp only[DataW.weightsEach,ABm,OF]at hn ⊢;rcases hn with hn|hn
  ·exact .inl hn
  ·exact .inr (XF n hn)
 | [],_,n,hn=>by simp[DataW.weightsEach]at hn
 | _ :: _,[],n,hn=>by simp[DataW.weightsEach]at hn
theorem XG {e:TypeId}:∀ {m:Nat} {k:Nat} {ds:List (DataW H)},∀n∈DataW.weightsEach P (((List.range' k m).map fun i=>({ (default:Field) with offset:=i*P.cellsOf e,type:=e }:Field)).map (·.type)) ds,n∈DataW.weightsAll P e ds
 | 0,_,ds,n,hn=>by simp[DataW.weightsEach]at hn
 | m+1,k,[],n,hn=>by
  rw[ACC]at hn;simp[DataW.weightsEach]at hn
 | m+1,k,d :: ds,n,hn=>by
  rw[ACC]at hn;simp only[AA1,DataW.weightsEach,OF]at hn;simp only[DataW.weightsAll,OF];rcases hn with hn|hn
  ·exact .inl hn
  ·exact .inr (XG n hn)
theorem SD {n:Nat} {r:Ty→TypeId→Bool}
  (A:∀ty t,r ty t=true→∀(cs:List Value) (x:DataW H×List MemPlace),DataW.trod enc P w 0 spare held n t cs=some x→(∀b∈x.1.weights P t,b≤reachBytes)→∃d:ty.den,Bo w (fun _=>False) ty cs d) (cs:List Value) :
  ∀(s:Ty) (o:Nat) (fs:List Field),pK r P s o fs=true→∀xs:List (DataW H×List MemPlace),xs.length=fs.length →
   (∀(i:Nat) (f:Field),fs[i]?=some f→DataW.trod enc P w 0 spare held n f.type ((cs.drop f.offset).take (P.cellsOf f.type))=xs[i]?) →
   (∀b∈DataW.weightsEach P (fs.map (·.type)) (xs.map (·.1)),b≤reachBytes)→∃d:s.den,Bo w (fun _=>False) s ((cs.drop o).take s.size) d:=by
 have one:∀(s:Ty) (o:Nat) (f:Field),(f.offset==o&&P.cellsOf f.type==s.size&&r s f.type)=true→∀x:DataW H×List MemPlace,
   DataW.trod enc P w 0 spare held n f.type ((cs.drop f.offset).take (P.cellsOf f.type))=some x →
   (∀b∈x.1.weights P f.type,b≤reachBytes)→∃d:s.den,Bo w (fun _=>False) s ((cs.drop o).take s.size) d:=by
  intro s o f h x j c;simp only[AT,tO]at h;obtain⟨⟨rfl,p⟩,q⟩:=h;rw[←p];exact A s f.type q _ x j c
 have lone:∀(s:Ty) (o:Nat) (f:Field),(f.offset==o&&P.cellsOf f.type==s.size&&r s f.type)=true→∀xs:List (DataW H×List MemPlace),xs.length=[f].length →
   (∀(i:Nat) (g:Field),[f][i]?=some g→DataW.trod enc P w 0 spare held n g.type ((cs.drop g.offset).take (P.cellsOf g.type))=xs[i]?) →
   (∀b∈DataW.weightsEach P ([f].map (·.type)) (xs.map (·.1)),b≤reachBytes)→∃d:s.den,Bo w (fun _=>False) s ((cs.drop o).take s.size) d:=by
  intro s o f h xs m j c;obtain⟨x,rfl⟩:∃x,xs=[x]:=AAV.1 (by simpa using m);exact one s o f h x (j 0 f rfl) (fun b l=>c b (by simp[DataW.weightsEach,l]))
 intro s;induction s with
 | prod a b E B =>
  intro o fs h xs m j c;cases fs with
  | nil=>simp[pK]at h
  | cons f fs =>
   simp only[pK,AT]at h;obtain⟨⟨⟨h1,p⟩,q⟩,y⟩:=h;obtain⟨x,ys,rfl⟩:∃x ys,xs=x :: ys:=List.exists_cons_of_ne_nil (by intro h;subst h;simp at m);obtain⟨u,C⟩:=one a o f (by simp only[h1,p,q,Bool.and_self]) x (j 0 f rfl) (fun b l=>c b (by
     simp only[AA1,DataW.weightsEach,OF];exact .inl l))
   obtain⟨v,D⟩:=B (o+a.size) fs y ys (by simpa using m) (fun i g z=>j (i+1) g z) (fun b l=>c b (by
     simp only[AA1,DataW.weightsEach,OF];exact .inr l))
   refine⟨(u,v),(cs.drop o).take a.size,(cs.drop (o+a.size)).take b.size,?_,C,D⟩;show (cs.drop o).take (a.size+b.size)=_;rw[List.take_add,ABM]
 | int k=>intro o fs h;match fs,h with|[f],h=>exact lone _ o f (by simpa only[pK] using h)
 | bool=>intro o fs h;match fs,h with|[f],h=>exact lone _ o f (by simpa only[pK] using h)
 | str=>intro o fs h;match fs,h with|[f],h=>exact lone _ o f (by simpa only[pK] using h)
 | slice e _=>intro o fs h;match fs,h with|[f],h=>exact lone _ o f (by simpa only[pK] using h)
 | agg t _=>intro o fs h;match fs,h with|[f],h=>exact lone _ o f (by simpa only[pK] using h)
 | ref k=>intro o fs h;match fs,h with|[f],h=>exact lone _ o f (by simpa only[pK] using h)
theorem A0d:∀(k:Nat) (ty:Ty) (t:TypeId),rd P k ty t=true→∀(n:Nat) (cs:List Value) (x:DataW H×List MemPlace),
  DataW.trod enc P w 0 spare held n t cs=some x→(∀b∈x.1.weights P t,b≤reachBytes)→∃d:ty.den,Bo w (fun _=>False) ty cs d:=by
 intro k;induction k with
 | zero=>intro ty t h;simp[rd]at h
 | succ k B =>
  intro ty t h n cs x c l;cases ty with
  | int q =>
   have hu:=YR (by simpa only[rd] using h);obtain⟨m,rfl,rfl,F⟩:=DataW.trod_int hu c;simp only[Lit.wf,AT,DO]at F;exact⟨m,rfl,F⟩
  | bool =>
   obtain⟨b,rfl,rfl⟩:=DataW.trod_bool (pL h) c;exact⟨b,rfl⟩
  | str =>
   obtain⟨b,rfl,rfl,_⟩:=DataW.trod_string (A0b h) c;refine⟨b,rfl,?_⟩;have:=l b.data.toList.length (by simp only[DataW.weights];exact ABp);have p:b.data.toList.length=b.size:=ABj;simp only[reachBytes]at this;simp only[AO];omega
  | slice e =>
   obtain⟨et,hu,L,C,u⟩:=fJ h;rcases DataW.trod_slice hu c with ⟨rfl,rfl⟩|⟨a,len,cap,elems,rest,m,rfl,rfl,rfl,-,U,-,V,Q,-,-⟩
   ·exact⟨[],none,0,rfl,No _,Is _,.inl rfl⟩
   ·have X:len≤AO:=by
     have h1:=l ((elems.length+rest.length)*P.bytesOf et) (by simp only[DataW.weights,hu,f6];exact ABp);have p:elems.length+rest.length≤(elems.length+rest.length)*P.bytesOf et:=Nat.le_mul_of_pos_right _ L;simp only[reachBytes]at h1;simp only[AO];omega
    have D:∀i,i<len→∃d:e.den,∃g:List Value,g.length=e.size∧(∀(j:Nat) (v:Value),g[j]?=some v→w.cell? (a.add (i*e.size+j))=some v)∧Bo w (fun _=>False) e g d:=by
     intro i hi;have h1:=Q i hi;obtain⟨x,c⟩:∃x,elems[i]?=some x:=⟨_,An (by omega)⟩;rw[c]at h1;obtain⟨g,p,G⟩:=Option.bind_eq_some_iff.1 h1;obtain⟨I,J⟩:=tF p;obtain⟨d,o⟩:=B e et u m g x G (fun b r=>l b (by
      simp only[DataW.weights,hu];exact ON _ (AAn _ (fL (IS.2 ⟨x,AAf c,rfl⟩) b r))))
     refine⟨d,g,by rw[I,C],fun j v S=>?_,o⟩;have:=J j v S
     rwa [DW,C]at this
    have K:∃ds:List e.den,ds.length=len∧∀(i:Nat) (d:e.den),ds[i]?=some d→∃g:List Value,g.length=e.size∧(∀(j:Nat) (v:Value),g[j]?=some v→w.cell? (a.add (i*e.size+j))=some v)∧Bo w (fun _=>False) e g d:=by
     refine⟨(List.range len).pmap (fun i hi=>Classical.choose (D i hi)) (fun i hi=>nO.1 hi),by simp,fun i d o=>?_⟩;rw[List.getElem?_pmap]at o;simp only[Option.pmap_eq_some_iff]at o;obtain⟨j,h1,p,rfl⟩:=o;have R:j=i:=by
      obtain⟨W,u⟩:=Ro.1 p;simpa using u.symm
     subst R;exact Classical.choose_spec (D j h1)
    obtain⟨ds,N,O⟩:=K;exact⟨ds,some a,cap,by rw[N],by omega,by omega,.inr ⟨a,rfl,fun h=>h,O⟩⟩
  | agg s =>
   rcases A0c h with ⟨fs,hu,M,hf⟩|⟨q,e,hu,M,hf⟩
   ·obtain⟨xs,m,rfl,rfl,T,z,A⟩:=DataW.trod_struct hu c;obtain⟨d,o⟩:=SD (fun ty t y cs x c l=>B ty t y m cs x c l) cs s 0 fs.toList hf xs (by simpa using z) (fun i f hi=>A i f (by simpa using hi)) (by
     simpa[DataW.weights,hu] using l)
    refine⟨d,?_⟩;show Bo w _ s cs d
    rwa [AA6,BY (by omega)]at o
   ·obtain⟨xs,m,rfl,rfl,T,z,A⟩:=DataW.trod_array hu c;obtain⟨d,o⟩:=SD (fun ty t y cs x c l=>B ty t y m cs x c l) cs s 0 (tE P q e) hf xs (by simp[tE,z]) (fun i f hi=>by
     unfold tE at hi;rw[AAl]at hi;by_cases E:i<q
     ·rw[AAZ E]at hi;have hi:({ (default:Field) with offset:=i*P.cellsOf e,type:=e }:Field)=f:=by simpa using hi
      rw[←hi];exact A i E
     ·rw[iN (by simp;omega)]at hi;cases hi) (fun b r=>l b (by
     simp only[DataW.weights,hu];unfold tE at r;rw[List.range_eq_range']at r;exact XG b r))
    refine⟨d,?_⟩;show Bo w _ s cs d
    rwa [AA6,BY (by omega)]at o
  | prod a b=>simp[rd]at h
  | ref j=>simp[rd]at h
theorem A32 {k:Nat} {ty:Ty} {t:TypeId} {v:Value} {r:Reach} {base:Nat} (h:rd P k ty t=true) (d:Value.okWide P w r base t v):v=ty.wrap v.cells.toList:=by
 cases k with
 | zero=>simp[rd]at h
 | succ k =>
  cases ty with
  | int q =>
   obtain⟨n,rfl⟩:=okWide_int (YR (by simpa only[rd] using h)) d;rfl
  | bool =>
   obtain⟨n,rfl⟩:=okWide_bool (pL h) d;rfl
  | str =>
   obtain⟨n,rfl⟩:=okWide_string (A0b h) d;rfl
  | slice e =>
   obtain⟨et,hu,_⟩:=fJ h;obtain⟨a,l,c,rfl⟩:=okWide_slice hu d;rfl
  | agg s =>
   rcases A0c h with ⟨fs,hu,_⟩|⟨q,e,hu,_⟩
   ·obtain⟨cs,rfl,_⟩:=okWide_struct hu d;simp[Ty.wrap,Value.cells]
   ·simp only[Value.okWide,hu]at d;obtain⟨cs,rfl,_⟩:=d;simp[Ty.wrap,Value.cells]
  | prod a b=>simp[rd]at h
  | ref j=>simp[rd]at h
def Nm (P:Program):List Ty→List TypeId→Bool
 | [],[]=>true
 | ty :: a,t :: ts=>rd P 50 ty t&&P.readableRec t&&decide (t<P.types.size)&&Nm P a ts
 | _,_=>false
theorem fN {r:Reach} {base:Nat}:∀(a:List Ty) (ts:List TypeId) (c:List Value) (ds:List (DataW H)) (p:List MemPlace),Nm P a ts=true→DataW.TrodAll enc P w 0 spare held ts c ds p →
  (∀(j:Nat) (t:TypeId) (v:Value),ts[j]?=some t→c[j]?=some v→Value.okWide P w r base t v)→(∀b∈DataW.weightsEach P ts ds,b≤reachBytes)→∃xs:Kj a,Rz w (fun _=>False) a c xs
 | [],[],c,ds,p,_,h,_,_=>by
  obtain⟨rfl,_,_⟩:=trodAll_nil h;exact⟨(),rfl⟩
 | ty :: a,t :: ts,c,ds,p,g,h,i,e=>by
  simp only[Nm,AT]at g;obtain⟨⟨⟨h1,_⟩,_⟩,m⟩:=g;obtain⟨v,k,d,l,D,A,rfl,rfl,rfl,⟨n,o⟩,q⟩:=trodAll_cons h;simp only[DataW.weightsEach,OF]at e;obtain⟨x,y⟩:=A0d 50 ty t h1 n _ _ o (fun b f=>e b (.inl f));obtain⟨xs,z⟩:=fN a ts k l A m q (fun j B C s u=>i (j+1) B C s u) (fun b f=>e b (.inr f));exact⟨(x,xs),v,k,rfl,⟨_,y,A32 h1 (i 0 t v rfl rfl)⟩,z⟩
 | [],_ :: _,_,_,_,h,_,_,_=>by simp[Nm]at h
 | _ :: _,[],_,_,_,h,_,_,_=>by simp[Nm]at h
theorem XH (i:laidOutB P=true) {W f:World} (g:Below W.heap.size W f):∀(e:List Ty) (ts:List TypeId) (a:List Value) (ds:List (DataW H)) (p:List MemPlace),Nm P e ts=true →
  DataW.TrodAll enc P W 0 (fun _=>true) true ts a ds p→(∀x∈p,x.block<W.heap.size)→DataW.TrodAll enc P f 0 (fun b=>decide (b<W.heap.size)) true ts a ds p
 | [],[],a,ds,p,_,h,_=>by
  obtain⟨rfl,rfl,rfl⟩:=trodAll_nil h;rfl
 | ty :: e,t :: ts,a,ds,p,k,h,j=>by
  simp only[Nm,AT,DO]at k;obtain⟨⟨⟨_,h1⟩,n⟩,o⟩:=k;obtain⟨v,u,d,m,s,l,rfl,rfl,rfl,q,r⟩:=trodAll_cons h;exact⟨s,l,Below.trod i h1 n q g (fun x c=>j x (AAn _ c)),XH i g e ts u m l o r (fun x c=>j x (ABG _ c)),rfl⟩
 | [],_ :: _,_,_,_,h,_,_=>by simp[Nm]at h
 | _ :: _,[],_,_,_,h,_,_=>by simp[Nm]at h
end
theorem A0e {w:World} {O:Nat→Prop} {u:Value} {w':World} (h:wU w O [.p .bool true] u w'):u=.bool true∧Below w.heap.size w w':=by
 obtain⟨ρ',a⟩:=h 0;refine⟨?_,a.below⟩;obtain⟨cs,h1,b⟩:BX _ _ .bool u true:=a.av;have h1:cs=[.bool true]:=h1;rw[b,h1];rfl
theorem UQ {P:Program} {f:FuncId} {fn:Func} {sp:Ae} {s:ChangeSpec} {tb:TypeId} (J:Ao P f sp) (L:∀ds,sp.pre ds) (K:∀ds,sp.out ds=[.p .bool true])
  (F:laidOutB P=true) (r:Nm P sp.ins fn.params.toList=true) (N:fn.resultTypes=#[tb]) (D:P.underlying tb=some .bool) (w:s.vars=[])
  (hs:∀(H:Type) (ds:List (DataW H)),ds.length=fn.params.size→(s.fn H ds).results=[.lit (.bool true)]∧(s.fn H ds).args=ds∧(s.fn H ds).vars=[])
  {H:Type} {enc:TypeId×Value→H} {W:World} {base:Nat} {args:Array Value} {ds l:List (DataW H)} {y:List MemPlace} {X:List TypeId}
  (S:∀(j:Nat) t v,fn.params[j]?=some t→args[j]?=some v→Value.okWide P W .any base t v)
  (n:DataW.Whole enc P fn.params.toList s.vars false W args.toList ds l y)
  (O:(DataW.weightsEach P (fn.params.toList++X) (ds++l)).all (·≤reachBytes)=true) :
  Calls P f args W fun e k=>∃v,e=.returned v∧s.post enc P fn false true false false W args v k:=by
 have o:=n;obtain⟨p,q,c,m,rfl,Z,aa⟩:=n;rw[w]at m;obtain⟨rfl,rfl⟩:=trodVars_none m;obtain⟨xs,U⟩:=fN sp.ins fn.params.toList args.toList ds p r c (fun j t v Q R=>S j t v (by simpa using Q) (by simpa using R))
  (fun b a=>by simpa using GO.1 O b (XF b a))
 have I:∀x∈p,x.block<W.heap.size:=fun x T=>by simpa using o.lt x (AAn _ T)
 have G:ds.length=fn.params.size:=by
  have:∀(ts:List TypeId) (i:List Value) (ds:List (DataW H)) (p:List MemPlace),DataW.TrodAll enc P W 0 (fun _=>true) true ts i ds p→ds.length=ts.length:=by
   intro ts;induction ts with
   | nil=>intro i ds p h;obtain⟨_,rfl,_⟩:=trodAll_nil h;rfl
   | cons t ts V=>intro i ds p h;obtain⟨v,ae,d,Y,ab,ad,rfl,rfl,rfl,_,M⟩:=trodAll_cons h;simp[V _ _ _ M]
  simpa using this _ _ _ _ c
 have g:=J.2 W (fun _=>False) args.toList xs (fun _ h=>h.elim) U (L xs);rw[K]at g;have C:args.toList.toArray=args:=by simp
 rw[C]at g;refine g.mono fun e k ⟨u,E,hu⟩=>?_;obtain⟨rfl,a⟩:=A0e hu;obtain⟨z,A,B⟩:=hs H (ds++[]) (by simpa using G);refine⟨_,E,_,_,_,[],p,[],o,?_,?_,?_,a.frame _,fun h=>by cases h⟩
 ·rw[z,N];exact trodAll_mk1 (shut_bool D _)
 ·rw[A,AAa];exact XH F a sp.ins _ _ _ _ r c I
 ·rw[B,w];rfl
end
end Go.Proofs.YtdapahgnpbehbaaGreat.Fw

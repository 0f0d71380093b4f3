/- This program's types; a slice compared with nil; from a contract to the given statement. -/
import Derived.Test.YtapkhdkbkodbjaaGreatJZI
import Derived.Test.YtapkhdkbkodbjaaGreatChecked
import Derived.Laws.Cover3
import Derived.Carry
import Derived.SizedLaws
import Derived.OpenShut
set_option linter.unusedVariables false
set_option linter.unusedSimpArgs false
namespace Go.Proofs.YtapkhdkbkodbjaaGreat.Fw
section
open Go
abbrev T1:Ty:=.ref 1
abbrev T2:Ty:=.int .i64
abbrev T3:Ty:=.int .i64
abbrev T4:Ty:=.bool
abbrev T5:Ty:=.int .u8
abbrev T9:Ty:=.str
abbrev T12:Ty:=.int .u64
abbrev T21:Ty:=.int .i32
abbrev T32:Ty:=.ref 1
abbrev T33:Ty:=.ref 1
abbrev T34:Ty:=.ref 1
abbrev Lr:Ty:=.int .i64
abbrev T36:Ty:=.ref 1
abbrev T37:Ty:=.ref 1
abbrev T41:Ty:=.ref 1
abbrev T43:Ty:=.ref 1
abbrev T44:Ty:=.ref 1
abbrev T45:Ty:=.ref 1
abbrev T46:Ty:=.ref 1
abbrev T47:Ty:=.ref 1
abbrev T48:Ty:=.ref 1
abbrev T49:Ty:=.ref 1
abbrev T50:Ty:=.ref 1
abbrev T56:Ty:=.ref 1
abbrev T57:Ty:=.ref 1
abbrev T58:Ty:=.ref 1
abbrev T59:Ty:=.ref 1
abbrev T60:Ty:=.ref 1
abbrev Ft:Ty:=.slice T3
abbrev T63:Ty:=.ref 1
abbrev T65:Ty:=.ref 1
abbrev T66:Ty:=.ref 1
abbrev T67:Ty:=.ref 1
abbrev T68:Ty:=.ref 1
abbrev T70:Ty:=.ref 1
abbrev T71:Ty:=.ref 1
abbrev T72:Ty:=.ref 1
abbrev T73:Ty:=.ref 1
abbrev T74:Ty:=.ref 1
abbrev T75:Ty:=.ref 1
abbrev T76:Ty:=.ref 1
abbrev T78:Ty:=.ref 1
abbrev T80:Ty:=.ref 1
abbrev T81:Ty:=.ref 1
abbrev T82:Ty:=.ref 1
abbrev T84:Ty:=.ref 1
abbrev T85:Ty:=.ref 1
abbrev T87:Ty:=.ref 1
abbrev T89:Ty:=.ref 1
abbrev T90:Ty:=.ref 1
abbrev T94:Ty:=.ref 1
abbrev F1:Ty:=.slice T9
abbrev T96:Ty:=.ref 1
abbrev T97:Ty:=.ref 1
abbrev T98:Ty:=.ref 1
abbrev T99:Ty:=.ref 1
abbrev AAC:Ty:=.ref 1
abbrev AAD:Ty:=.ref 1
abbrev AAE:Ty:=.ref 1
abbrev AAF:Ty:=.ref 1
abbrev AAG:Ty:=.agg (.prod T3 (T3))
abbrev AU:Ty:=.agg (.prod T3 (T3))
abbrev AAH:Ty:=.ref 1
abbrev AAI:Ty:=.ref 0
abbrev AAJ:Ty:=.ref 1
abbrev AAK:Ty:=.ref 1
abbrev AAL:Ty:=.ref 1
abbrev AAM:Ty:=.ref 1
abbrev AAN:Ty:=.ref 2
abbrev AAO:Ty:=.ref 1
abbrev AAP:Ty:=.ref 1
abbrev AAQ:Ty:=.ref 1
abbrev AAR:Ty:=.ref 1
abbrev AAS:Ty:=.ref 1
abbrev AAT:Ty:=.ref 1
abbrev AAU:Ty:=.ref 1
abbrev AAV:Ty:=.ref 1
abbrev AAW:Ty:=.ref 1
abbrev AAX:Ty:=.ref 1
abbrev AAY:Ty:=.ref 1
abbrev AAZ:Ty:=.ref 1
abbrev AB0:Ty:=.ref 1
abbrev AB1:Ty:=.ref 1
abbrev AB2:Ty:=.ref 1
abbrev AB3:Ty:=.ref 1
abbrev AB4:Ty:=.ref 1
abbrev AB5:Ty:=.ref 1
abbrev AB6:Ty:=.ref 1
abbrev AB7:Ty:=.ref 1
abbrev AB8:Ty:=.ref 1
abbrev AB9:Ty:=.ref 1
abbrev ABa:Ty:=.ref 1
abbrev ABb:Ty:=.agg (.prod T9 (T9))
abbrev mJ:Ty:=.agg (.prod T9 (T9))
abbrev ABc:Ty:=.agg (.prod T9 (T3))
abbrev A2m:Ty:=.agg (.prod T9 (T3))
abbrev ABd:Ty:=.ref 1
abbrev ABe:Ty:=.ref 1
abbrev ABf:Ty:=.ref 1
abbrev ABg:Ty:=.ref 1
abbrev ABh:Ty:=.ref 1
abbrev ABi:Ty:=.agg (.prod T3 (T3))
abbrev A2n:Ty:=.agg (.prod T3 (T3))
abbrev ABj:Ty:=.ref 1
abbrev Rx:Ty:=.agg (.prod T3 (T3))
abbrev ABk:Ty:=.slice Rx
abbrev ABl:Ty:=.ref 1
abbrev ABm:Ty:=.ref 1
abbrev ABn:Ty:=.ref 1
abbrev ABo:Ty:=.ref 2
abbrev ABp:Ty:=.ref 1
abbrev ABq:Ty:=.ref 1
abbrev ABr:Ty:=.ref 1
abbrev ABs:Ty:=.ref 1
abbrev ABt:Ty:=.ref 0
abbrev ABu:Ty:=.ref 1
abbrev QO:Ty:=.int .u64
abbrev ABv:Ty:=.ref 1
abbrev ABw:Ty:=.ref 1
abbrev ABx:Ty:=.ref 1
abbrev ABy:Ty:=.ref 1
abbrev ABz:Ty:=.ref 1
abbrev ABA:Ty:=.ref 1
abbrev ABB:Ty:=.ref 1
abbrev ABC:Ty:=.ref 1
abbrev ABD:Ty:=.ref 1
abbrev ABE:Ty:=.ref 1
abbrev ABF:Ty:=.ref 1
abbrev ABG:Ty:=.ref 1
abbrev ABH:Ty:=.ref 1
abbrev ABI:Ty:=.ref 0
abbrev ABJ:Ty:=.ref 1
abbrev ABK:Ty:=.ref 1
abbrev ABL:Ty:=.ref 1
abbrev ABM:Ty:=.ref 1
abbrev ABN:Ty:=.ref 1
abbrev ABO:Ty:=.ref 1
abbrev ABP:Ty:=.ref 1
abbrev ABQ:Ty:=.ref 1
abbrev ABR:Ty:=.ref 1
abbrev ABS:Ty:=.ref 1
abbrev ABT:Ty:=.ref 1
abbrev ABU:Ty:=.ref 1
abbrev ABV:Ty:=.ref 1
abbrev ABW:Ty:=.ref 1
abbrev ABX:Ty:=.ref 1
abbrev ABY:Ty:=.ref 1
abbrev ABZ:Ty:=.ref 1
abbrev AC0:Ty:=.ref 1
abbrev AC1:Ty:=.ref 1
abbrev AC2:Ty:=.ref 1
abbrev AC3:Ty:=.ref 1
abbrev AC4:Ty:=.ref 1
abbrev AC5:Ty:=.ref 1
abbrev AC6:Ty:=.ref 1
abbrev AC7:Ty:=.ref 1
abbrev AC8:Ty:=.ref 1
abbrev AC9:Ty:=.ref 1
abbrev ACa:Ty:=.ref 1
abbrev ACb:Ty:=.ref 1
abbrev ACc:Ty:=.ref 1
abbrev ACd:Ty:=.ref 1
abbrev ACe:Ty:=.ref 1
abbrev ACf:Ty:=.ref 1
abbrev ACg:Ty:=.ref 1
abbrev ACh:Ty:=.ref 1
abbrev ACi:Ty:=.ref 1
abbrev ACj:Ty:=.int .u64
abbrev ACk:Ty:=.ref 1
abbrev ACl:Ty:=.ref 1
abbrev ACm:Ty:=.ref 1
abbrev ACn:Ty:=.ref 1
abbrev ACo:Ty:=.ref 1
abbrev ACp:Ty:=.ref 1
abbrev ACq:Ty:=.ref 1
abbrev ACr:Ty:=.ref 1
abbrev ACs:Ty:=.int .i64
abbrev ACt:Ty:=.ref 1
abbrev ACu:Ty:=.ref 1
abbrev ACv:Ty:=.ref 1
abbrev ACw:Ty:=.ref 1
abbrev ACx:Ty:=.ref 1
abbrev ACy:Ty:=.int .u32
abbrev ACz:Ty:=.ref 1
abbrev ACA:Ty:=.ref 1
abbrev ACB:Ty:=.ref 1
abbrev ACC:Ty:=.int .u64
abbrev ACD:Ty:=.ref 1
abbrev ACE:Ty:=.ref 1
abbrev ACF:Ty:=.ref 1
abbrev ACG:Ty:=.ref 0
abbrev ACH:Ty:=.ref 1
abbrev ACI:Ty:=.ref 0
abbrev ACJ:Ty:=.ref 1
abbrev ACK:Ty:=.ref 1
abbrev ACL:Ty:=.ref 1
abbrev ACM:Ty:=.ref 1
abbrev ACN:Ty:=.ref 0
abbrev ACO:Ty:=.agg (.prod T9 (T9))
abbrev A9f:Ty:=.agg (.prod T9 (T9))
abbrev WB:Ty:=.slice A2m
abbrev T51:Ty:=.slice A9f
abbrev T52:Ty:=.agg (.prod T3 (T51))
abbrev T53:Ty:=.agg (.prod T3 (T51))
abbrev DS:Ty:=.slice AU
abbrev T92:Ty:=.agg (.prod T3 (DS))
abbrev Ls:Ty:=.agg (.prod T3 (DS))
abbrev A5w:Ty:=.slice DS
abbrev ACP:Ty:=.slice QO
abbrev BT:Ty:=.slice QO
abbrev WC:Ty:=.slice A2n
abbrev ACQ:Ty:=.agg (.prod T9 (.prod BT (.prod Ft (WC))))
abbrev mK:Ty:=.agg (.prod T9 (.prod BT (.prod Ft (WC))))
abbrev A5x:Ty:=.slice WC
abbrev ACR:Ty:=.agg (.prod T9 (BT))
abbrev b4:Ty:=.agg (.prod T9 (BT))
abbrev gN:Ty:=.slice mJ
abbrev ACS:Ty:=.agg (.prod T9 (.prod F1 (gN)))
abbrev zT:Ty:=.agg (.prod T9 (.prod F1 (gN)))
abbrev Tq:Ty:=.slice BT
abbrev FE:Ty:=.slice zT
abbrev FQ:Ty:=.slice Ls
abbrev T24:Ty:=.agg (FQ)
abbrev Da:Ty:=.agg (FQ)
abbrev T26:Ty:=.agg (.prod T9 (.prod T3 (Da)))
abbrev T27:Ty:=.agg (.prod T9 (.prod T3 (Da)))
abbrev Tr:Ty:=.slice mK
abbrev T30:Ty:=.agg (.prod Tr (WB))
abbrev ER:Ty:=.agg (.prod Tr (WB))
abbrev T38:Ty:=.slice Da
abbrev T39:Ty:=.agg (.prod FE (.prod T27 (.prod T38 (T38))))
abbrev T40:Ty:=.agg (.prod FE (.prod T27 (.prod T38 (T38))))
abbrev T54:Ty:=.agg (.prod T9 (.prod T53 (Da)))
abbrev T55:Ty:=.agg (.prod T9 (.prod T53 (Da)))
abbrev ACT:Ty:=.agg (.prod ER (.prod Ft (.prod Ft (A5w))))
abbrev ACU:Ty:=.agg (.prod ER (.prod Ft (.prod Ft (A5w))))
abbrev ACV:Ty:=.agg (.prod ER (.prod T3 (.prod T3 (.prod T3 (.prod T3 (.prod T3 (.prod T3 (.prod T3 (T3)))))))))
abbrev gP:Ty:=.agg (.prod ER (.prod T3 (.prod T3 (.prod T3 (.prod T3 (.prod T3 (.prod T3 (.prod T3 (T3)))))))))
abbrev J7:Ty:=.slice b4
abbrev ACW:Ty:=.agg (.prod Da (.prod Ft (Ft)))
abbrev ACX:Ty:=.agg (.prod Da (.prod Ft (Ft)))
abbrev ACY:Ty:=.agg (.prod ER (.prod Ft (Ft)))
abbrev ACZ:Ty:=.agg (.prod ER (.prod Ft (Ft)))
set_option maxRecDepth 100000
def AK:List (Nat×TI):=[(1,⟨T1,[],0,8⟩),
 (2,⟨T2,[],0,8⟩),
 (3,⟨T3,[],0,8⟩),
 (4,⟨T4,[],0,1⟩),
 (5,⟨T5,[],0,1⟩),
 (9,⟨T9,[],0,16⟩),
 (12,⟨T12,[],0,8⟩),
 (21,⟨T21,[],0,4⟩),
 (22,⟨FE,[],158,24⟩),
 (23,⟨FQ,[],93,24⟩),
 (24,⟨T24,[(0,1)],0,24⟩),
 (25,⟨Da,[(0,1)],0,24⟩),
 (26,⟨T26,[(0,1),(1,1),(2,1)],0,48⟩),
 (27,⟨T27,[(0,1),(1,1),(2,1)],0,48⟩),
 (28,⟨Tr,[],144,24⟩),
 (29,⟨WB,[],163,24⟩),
 (30,⟨T30,[(0,1),(1,1)],0,48⟩),
 (31,⟨ER,[(0,1),(1,1)],0,48⟩),
 (32,⟨T32,[],0,8⟩),
 (33,⟨T33,[],0,8⟩),
 (34,⟨T34,[],0,8⟩),
 (35,⟨Lr,[],0,8⟩),
 (36,⟨T36,[],0,8⟩),
 (37,⟨T37,[],0,8⟩),
 (38,⟨T38,[],25,24⟩),
 (39,⟨T39,[(0,1),(1,3),(4,1),(5,1)],0,120⟩),
 (40,⟨T40,[(0,1),(1,3),(4,1),(5,1)],0,120⟩),
 (41,⟨T41,[],0,8⟩),
 (43,⟨T43,[],0,8⟩),
 (44,⟨T44,[],0,8⟩),
 (45,⟨T45,[],0,8⟩),
 (46,⟨T46,[],0,8⟩),
 (47,⟨T47,[],0,8⟩),
 (48,⟨T48,[],0,8⟩),
 (49,⟨T49,[],0,8⟩),
 (50,⟨T50,[],0,8⟩),
 (51,⟨T51,[],288,24⟩),
 (52,⟨T52,[(0,1),(1,1)],0,32⟩),
 (53,⟨T53,[(0,1),(1,1)],0,32⟩),
 (54,⟨T54,[(0,1),(1,2),(3,1)],0,72⟩),
 (55,⟨T55,[(0,1),(1,2),(3,1)],0,72⟩),
 (56,⟨T56,[],0,8⟩),
 (57,⟨T57,[],0,8⟩),
 (58,⟨T58,[],0,8⟩),
 (59,⟨T59,[],0,8⟩),
 (60,⟨T60,[],0,8⟩),
 (61,⟨Ft,[],3,24⟩),
 (63,⟨T63,[],0,8⟩),
 (65,⟨T65,[],0,8⟩),
 (66,⟨T66,[],0,8⟩),
 (67,⟨T67,[],0,8⟩),
 (68,⟨T68,[],0,8⟩),
 (70,⟨T70,[],0,8⟩),
 (71,⟨T71,[],0,8⟩),
 (72,⟨T72,[],0,8⟩),
 (73,⟨T73,[],0,8⟩),
 (74,⟨T74,[],0,8⟩),
 (75,⟨T75,[],0,8⟩),
 (76,⟨T76,[],0,8⟩),
 (78,⟨T78,[],0,8⟩),
 (80,⟨T80,[],0,8⟩),
 (81,⟨T81,[],0,8⟩),
 (82,⟨T82,[],0,8⟩),
 (84,⟨T84,[],0,8⟩),
 (85,⟨T85,[],0,8⟩),
 (87,⟨T87,[],0,8⟩),
 (89,⟨T89,[],0,8⟩),
 (90,⟨T90,[],0,8⟩),
 (91,⟨DS,[],106,24⟩),
 (92,⟨T92,[(0,1),(1,1)],0,32⟩),
 (93,⟨Ls,[(0,1),(1,1)],0,32⟩),
 (94,⟨T94,[],0,8⟩),
 (95,⟨F1,[],9,24⟩),
 (96,⟨T96,[],0,8⟩),
 (97,⟨T97,[],0,8⟩),
 (98,⟨T98,[],0,8⟩),
 (99,⟨T99,[],0,8⟩),
 (100,⟨AAC,[],0,8⟩),
 (101,⟨AAD,[],0,8⟩),
 (103,⟨AAE,[],0,8⟩),
 (104,⟨AAF,[],0,8⟩),
 (105,⟨AAG,[(0,1),(1,1)],0,16⟩),
 (106,⟨AU,[(0,1),(1,1)],0,16⟩),
 (107,⟨AAH,[],0,8⟩),
 (108,⟨AAI,[],0,8⟩),
 (109,⟨A5w,[],91,24⟩),
 (110,⟨ACT,[(0,2),(2,1),(3,1),(4,1)],0,120⟩),
 (111,⟨ACU,[(0,2),(2,1),(3,1),(4,1)],0,120⟩),
 (112,⟨AAJ,[],0,8⟩),
 (113,⟨AAK,[],0,8⟩),
 (114,⟨ACV,[(0,2),(2,1),(3,1),(4,1),(5,1),(6,1),(7,1),(8,1),(9,1)],0,112⟩),
 (115,⟨gP,[(0,2),(2,1),(3,1),(4,1),(5,1),(6,1),(7,1),(8,1),(9,1)],0,112⟩),
 (117,⟨AAL,[],0,8⟩),
 (118,⟨AAM,[],0,8⟩),
 (119,⟨AAN,[(3,4)],0,8⟩),
 (120,⟨AAO,[],0,8⟩),
 (121,⟨AAP,[],0,8⟩),
 (122,⟨AAQ,[],0,8⟩),
 (123,⟨AAR,[],0,8⟩),
 (124,⟨AAS,[],0,8⟩),
 (125,⟨AAT,[],0,8⟩),
 (126,⟨AAU,[],0,8⟩),
 (127,⟨AAV,[],0,8⟩),
 (128,⟨AAW,[],0,8⟩),
 (129,⟨AAX,[],0,8⟩),
 (130,⟨AAY,[],0,8⟩),
 (132,⟨AAZ,[],0,8⟩),
 (133,⟨AB0,[],0,8⟩),
 (134,⟨AB1,[],0,8⟩),
 (136,⟨AB2,[],0,8⟩),
 (137,⟨AB3,[],0,8⟩),
 (138,⟨AB4,[],0,8⟩),
 (139,⟨ACP,[],186,24⟩),
 (140,⟨BT,[],186,24⟩),
 (141,⟨AB5,[],0,8⟩),
 (142,⟨WC,[],170,24⟩),
 (143,⟨ACQ,[(0,1),(1,1),(2,1),(3,1)],0,88⟩),
 (144,⟨mK,[(0,1),(1,1),(2,1),(3,1)],0,88⟩),
 (145,⟨A5x,[],142,24⟩),
 (147,⟨AB6,[],0,8⟩),
 (148,⟨J7,[],152,24⟩),
 (150,⟨AB7,[],0,8⟩),
 (151,⟨ACR,[(0,1),(1,1)],0,40⟩),
 (152,⟨b4,[(0,1),(1,1)],0,40⟩),
 (153,⟨AB8,[],0,8⟩),
 (155,⟨AB9,[],0,8⟩),
 (156,⟨gN,[],161,24⟩),
 (157,⟨ACS,[(0,1),(1,1),(2,1)],0,64⟩),
 (158,⟨zT,[(0,1),(1,1),(2,1)],0,64⟩),
 (159,⟨ABa,[],0,8⟩),
 (160,⟨ABb,[(0,1),(1,1)],0,32⟩),
 (161,⟨mJ,[(0,1),(1,1)],0,32⟩),
 (162,⟨ABc,[(0,1),(1,1)],0,24⟩),
 (163,⟨A2m,[(0,1),(1,1)],0,24⟩),
 (164,⟨ABd,[],0,8⟩),
 (165,⟨ABe,[],0,8⟩),
 (166,⟨ABf,[],0,8⟩),
 (167,⟨ABg,[],0,8⟩),
 (168,⟨ABh,[],0,8⟩),
 (169,⟨ABi,[(0,1),(1,1)],0,16⟩),
 (170,⟨A2n,[(0,1),(1,1)],0,16⟩),
 (171,⟨ABj,[],0,8⟩),
 (172,⟨Rx,[(0,1),(1,1)],3,16⟩),
 (173,⟨ABk,[],172,24⟩),
 (174,⟨ABl,[],0,8⟩),
 (175,⟨ABm,[],0,8⟩),
 (176,⟨ABn,[],0,8⟩),
 (177,⟨ABo,[(3,3)],0,8⟩),
 (178,⟨ABp,[],0,8⟩),
 (179,⟨ABq,[],0,8⟩),
 (180,⟨ABr,[],0,8⟩),
 (181,⟨ABs,[],0,8⟩),
 (182,⟨ABt,[],0,8⟩),
 (183,⟨ACW,[(0,1),(1,1),(2,1)],0,72⟩),
 (184,⟨ACX,[(0,1),(1,1),(2,1)],0,72⟩),
 (185,⟨ABu,[],0,8⟩),
 (186,⟨QO,[],0,8⟩),
 (187,⟨ABv,[],0,8⟩),
 (188,⟨ABw,[],0,8⟩),
 (189,⟨ABx,[],0,8⟩),
 (190,⟨ABy,[],0,8⟩),
 (192,⟨ABz,[],0,8⟩),
 (193,⟨ABA,[],0,8⟩),
 (194,⟨Tq,[],140,24⟩),
 (195,⟨ABB,[],0,8⟩),
 (196,⟨ABC,[],0,8⟩),
 (197,⟨ABD,[],0,8⟩),
 (198,⟨ABE,[],0,8⟩),
 (199,⟨ABF,[],0,8⟩),
 (201,⟨ABG,[],0,8⟩),
 (202,⟨ABH,[],0,8⟩),
 (203,⟨ABI,[],0,8⟩),
 (204,⟨ACY,[(0,2),(2,1),(3,1)],0,96⟩),
 (205,⟨ACZ,[(0,2),(2,1),(3,1)],0,96⟩),
 (206,⟨ABJ,[],0,8⟩),
 (207,⟨ABK,[],0,8⟩),
 (208,⟨ABL,[],0,8⟩),
 (209,⟨ABM,[],0,8⟩),
 (210,⟨ABN,[],0,8⟩),
 (211,⟨ABO,[],0,8⟩),
 (212,⟨ABP,[],0,8⟩),
 (213,⟨ABQ,[],0,8⟩),
 (214,⟨ABR,[],0,8⟩),
 (215,⟨ABS,[],0,8⟩),
 (216,⟨ABT,[],0,8⟩),
 (217,⟨ABU,[],0,8⟩),
 (218,⟨ABV,[],0,8⟩),
 (219,⟨ABW,[],0,8⟩),
 (220,⟨ABX,[],0,8⟩),
 (221,⟨ABY,[],0,8⟩),
 (222,⟨ABZ,[],0,8⟩),
 (223,⟨AC0,[],0,8⟩),
 (224,⟨AC1,[],0,8⟩),
 (225,⟨AC2,[],0,8⟩),
 (226,⟨AC3,[],0,8⟩),
 (228,⟨AC4,[],0,8⟩),
 (229,⟨AC5,[],0,8⟩),
 (230,⟨AC6,[],0,8⟩),
 (231,⟨AC7,[],0,8⟩),
 (232,⟨AC8,[],0,8⟩),
 (233,⟨AC9,[],0,8⟩),
 (234,⟨ACa,[],0,8⟩),
 (235,⟨ACb,[],0,8⟩),
 (236,⟨ACc,[],0,8⟩),
 (237,⟨ACd,[],0,8⟩),
 (238,⟨ACe,[],0,8⟩),
 (239,⟨ACf,[],0,8⟩),
 (240,⟨ACg,[],0,8⟩),
 (241,⟨ACh,[],0,8⟩),
 (242,⟨ACi,[],0,8⟩),
 (243,⟨ACj,[],0,8⟩),
 (244,⟨ACk,[],0,8⟩),
 (245,⟨ACl,[],0,8⟩),
 (246,⟨ACm,[],0,8⟩),
 (247,⟨ACn,[],0,8⟩),
 (248,⟨ACo,[],0,8⟩),
 (249,⟨ACp,[],0,8⟩),
 (250,⟨ACq,[],0,8⟩),
 (251,⟨ACr,[],0,8⟩),
 (252,⟨ACs,[],0,8⟩),
 (254,⟨ACt,[],0,8⟩),
 (255,⟨ACu,[],0,8⟩),
 (256,⟨ACv,[],0,8⟩),
 (257,⟨ACw,[],0,8⟩),
 (258,⟨ACx,[],0,8⟩),
 (259,⟨ACy,[],0,4⟩),
 (260,⟨ACz,[],0,8⟩),
 (261,⟨ACA,[],0,8⟩),
 (262,⟨ACB,[],0,8⟩),
 (263,⟨ACC,[],0,8⟩),
 (264,⟨ACD,[],0,8⟩),
 (265,⟨ACE,[],0,8⟩),
 (266,⟨ACF,[],0,8⟩),
 (267,⟨ACG,[],0,8⟩),
 (268,⟨ACH,[],0,8⟩),
 (269,⟨ACI,[],0,8⟩),
 (271,⟨ACJ,[],0,8⟩),
 (272,⟨ACK,[],0,8⟩),
 (278,⟨ACL,[],0,8⟩),
 (281,⟨ACM,[],0,8⟩),
 (282,⟨ACN,[],0,8⟩),
 (287,⟨ACO,[(0,1),(1,1)],0,32⟩),
 (288,⟨A9f,[(0,1),(1,1)],0,32⟩)]
theorem tyTab_ok (f) (a:List Nat) (b:List Nat:=[]) (ne:List (Nat×TypeId):=[]):DH Tryz.prog ⟨AK,f,b,ne,a⟩:=A4T (by kernel_rfl)
theorem drawsAny:Tryz.prog.follows .mixedOrders=true:=by kernel_rfl
theorem ty1:lk 1 AK=some ⟨T1,[],0,8⟩:=rfl
theorem ty2:lk 2 AK=some ⟨T2,[],0,8⟩:=rfl
theorem ty3:lk 3 AK=some ⟨T3,[],0,8⟩:=rfl
theorem ty4:lk 4 AK=some ⟨T4,[],0,1⟩:=rfl
theorem ty5:lk 5 AK=some ⟨T5,[],0,1⟩:=rfl
theorem ty9:lk 9 AK=some ⟨T9,[],0,16⟩:=rfl
theorem A5y:lk 12 AK=some ⟨T12,[],0,8⟩:=rfl
theorem A5z:lk 21 AK=some ⟨T21,[],0,4⟩:=rfl
theorem A5A:lk 22 AK=some ⟨FE,[],158,24⟩:=rfl
theorem A5B:lk 23 AK=some ⟨FQ,[],93,24⟩:=rfl
theorem A5C:lk 24 AK=some ⟨T24,[(0,1)],0,24⟩:=rfl
theorem A5D:lk 25 AK=some ⟨Da,[(0,1)],0,24⟩:=rfl
theorem A5E:lk 26 AK=some ⟨T26,[(0,1),(1,1),(2,1)],0,48⟩:=rfl
theorem A5F:lk 27 AK=some ⟨T27,[(0,1),(1,1),(2,1)],0,48⟩:=rfl
theorem A5G:lk 28 AK=some ⟨Tr,[],144,24⟩:=rfl
theorem A5H:lk 29 AK=some ⟨WB,[],163,24⟩:=rfl
theorem A5I:lk 30 AK=some ⟨T30,[(0,1),(1,1)],0,48⟩:=rfl
theorem A5J:lk 31 AK=some ⟨ER,[(0,1),(1,1)],0,48⟩:=rfl
theorem A5K:lk 32 AK=some ⟨T32,[],0,8⟩:=rfl
theorem A5L:lk 33 AK=some ⟨T33,[],0,8⟩:=rfl
theorem A5M:lk 34 AK=some ⟨T34,[],0,8⟩:=rfl
theorem A5N:lk 35 AK=some ⟨Lr,[],0,8⟩:=rfl
theorem A5O:lk 36 AK=some ⟨T36,[],0,8⟩:=rfl
theorem A5P:lk 37 AK=some ⟨T37,[],0,8⟩:=rfl
theorem A5Q:lk 38 AK=some ⟨T38,[],25,24⟩:=rfl
theorem A5R:lk 39 AK=some ⟨T39,[(0,1),(1,3),(4,1),(5,1)],0,120⟩:=rfl
theorem A5S:lk 40 AK=some ⟨T40,[(0,1),(1,3),(4,1),(5,1)],0,120⟩:=rfl
theorem A5T:lk 41 AK=some ⟨T41,[],0,8⟩:=rfl
theorem A5U:lk 43 AK=some ⟨T43,[],0,8⟩:=rfl
theorem A5V:lk 44 AK=some ⟨T44,[],0,8⟩:=rfl
theorem A5W:lk 45 AK=some ⟨T45,[],0,8⟩:=rfl
theorem A5X:lk 46 AK=some ⟨T46,[],0,8⟩:=rfl
theorem A5Y:lk 47 AK=some ⟨T47,[],0,8⟩:=rfl
theorem A5Z:lk 48 AK=some ⟨T48,[],0,8⟩:=rfl
theorem A60:lk 49 AK=some ⟨T49,[],0,8⟩:=rfl
theorem A61:lk 50 AK=some ⟨T50,[],0,8⟩:=rfl
theorem A62:lk 51 AK=some ⟨T51,[],288,24⟩:=rfl
theorem A63:lk 52 AK=some ⟨T52,[(0,1),(1,1)],0,32⟩:=rfl
theorem A64:lk 53 AK=some ⟨T53,[(0,1),(1,1)],0,32⟩:=rfl
theorem A65:lk 54 AK=some ⟨T54,[(0,1),(1,2),(3,1)],0,72⟩:=rfl
theorem A66:lk 55 AK=some ⟨T55,[(0,1),(1,2),(3,1)],0,72⟩:=rfl
theorem A67:lk 56 AK=some ⟨T56,[],0,8⟩:=rfl
theorem A68:lk 57 AK=some ⟨T57,[],0,8⟩:=rfl
theorem A69:lk 58 AK=some ⟨T58,[],0,8⟩:=rfl
theorem A6a:lk 59 AK=some ⟨T59,[],0,8⟩:=rfl
theorem A6b:lk 60 AK=some ⟨T60,[],0,8⟩:=rfl
theorem A6c:lk 61 AK=some ⟨Ft,[],3,24⟩:=rfl
theorem A6d:lk 63 AK=some ⟨T63,[],0,8⟩:=rfl
theorem A6e:lk 65 AK=some ⟨T65,[],0,8⟩:=rfl
theorem A6f:lk 66 AK=some ⟨T66,[],0,8⟩:=rfl
theorem A6g:lk 67 AK=some ⟨T67,[],0,8⟩:=rfl
theorem A6h:lk 68 AK=some ⟨T68,[],0,8⟩:=rfl
theorem A6i:lk 70 AK=some ⟨T70,[],0,8⟩:=rfl
theorem A6j:lk 71 AK=some ⟨T71,[],0,8⟩:=rfl
theorem A6k:lk 72 AK=some ⟨T72,[],0,8⟩:=rfl
theorem A6l:lk 73 AK=some ⟨T73,[],0,8⟩:=rfl
theorem A6m:lk 74 AK=some ⟨T74,[],0,8⟩:=rfl
theorem A6n:lk 75 AK=some ⟨T75,[],0,8⟩:=rfl
theorem A6o:lk 76 AK=some ⟨T76,[],0,8⟩:=rfl
theorem A6p:lk 78 AK=some ⟨T78,[],0,8⟩:=rfl
theorem A6q:lk 80 AK=some ⟨T80,[],0,8⟩:=rfl
theorem A6r:lk 81 AK=some ⟨T81,[],0,8⟩:=rfl
theorem A6s:lk 82 AK=some ⟨T82,[],0,8⟩:=rfl
theorem A6t:lk 84 AK=some ⟨T84,[],0,8⟩:=rfl
theorem A6u:lk 85 AK=some ⟨T85,[],0,8⟩:=rfl
theorem A6v:lk 87 AK=some ⟨T87,[],0,8⟩:=rfl
theorem A6w:lk 89 AK=some ⟨T89,[],0,8⟩:=rfl
theorem A6x:lk 90 AK=some ⟨T90,[],0,8⟩:=rfl
theorem A6y:lk 91 AK=some ⟨DS,[],106,24⟩:=rfl
theorem A6z:lk 92 AK=some ⟨T92,[(0,1),(1,1)],0,32⟩:=rfl
theorem A6A:lk 93 AK=some ⟨Ls,[(0,1),(1,1)],0,32⟩:=rfl
theorem A6B:lk 94 AK=some ⟨T94,[],0,8⟩:=rfl
theorem A6C:lk 95 AK=some ⟨F1,[],9,24⟩:=rfl
theorem A6D:lk 96 AK=some ⟨T96,[],0,8⟩:=rfl
theorem A6E:lk 97 AK=some ⟨T97,[],0,8⟩:=rfl
theorem A6F:lk 98 AK=some ⟨T98,[],0,8⟩:=rfl
theorem A6G:lk 99 AK=some ⟨T99,[],0,8⟩:=rfl
theorem qL:lk 100 AK=some ⟨AAC,[],0,8⟩:=rfl
theorem qM:lk 101 AK=some ⟨AAD,[],0,8⟩:=rfl
theorem qN:lk 103 AK=some ⟨AAE,[],0,8⟩:=rfl
theorem qO:lk 104 AK=some ⟨AAF,[],0,8⟩:=rfl
theorem qP:lk 105 AK=some ⟨AAG,[(0,1),(1,1)],0,16⟩:=rfl
theorem qQ:lk 106 AK=some ⟨AU,[(0,1),(1,1)],0,16⟩:=rfl
theorem qR:lk 107 AK=some ⟨AAH,[],0,8⟩:=rfl
theorem qS:lk 108 AK=some ⟨AAI,[],0,8⟩:=rfl
theorem qT:lk 109 AK=some ⟨A5w,[],91,24⟩:=rfl
theorem qU:lk 110 AK=some ⟨ACT,[(0,2),(2,1),(3,1),(4,1)],0,120⟩:=rfl
theorem qV:lk 111 AK=some ⟨ACU,[(0,2),(2,1),(3,1),(4,1)],0,120⟩:=rfl
theorem qW:lk 112 AK=some ⟨AAJ,[],0,8⟩:=rfl
theorem qX:lk 113 AK=some ⟨AAK,[],0,8⟩:=rfl
theorem qY:lk 114 AK=some ⟨ACV,[(0,2),(2,1),(3,1),(4,1),(5,1),(6,1),(7,1),(8,1),(9,1)],0,112⟩:=rfl
theorem qZ:lk 115 AK=some ⟨gP,[(0,2),(2,1),(3,1),(4,1),(5,1),(6,1),(7,1),(8,1),(9,1)],0,112⟩:=rfl
theorem q9:lk 117 AK=some ⟨AAL,[],0,8⟩:=rfl
theorem rA:lk 118 AK=some ⟨AAM,[],0,8⟩:=rfl
theorem rB:lk 119 AK=some ⟨AAN,[(3,4)],0,8⟩:=rfl
theorem rD:lk 120 AK=some ⟨AAO,[],0,8⟩:=rfl
theorem rE:lk 121 AK=some ⟨AAP,[],0,8⟩:=rfl
theorem rF:lk 122 AK=some ⟨AAQ,[],0,8⟩:=rfl
theorem rG:lk 123 AK=some ⟨AAR,[],0,8⟩:=rfl
theorem rH:lk 124 AK=some ⟨AAS,[],0,8⟩:=rfl
theorem rI:lk 125 AK=some ⟨AAT,[],0,8⟩:=rfl
theorem rJ:lk 126 AK=some ⟨AAU,[],0,8⟩:=rfl
theorem rK:lk 127 AK=some ⟨AAV,[],0,8⟩:=rfl
theorem rO:lk 128 AK=some ⟨AAW,[],0,8⟩:=rfl
theorem rQ:lk 129 AK=some ⟨AAX,[],0,8⟩:=rfl
theorem rR:lk 130 AK=some ⟨AAY,[],0,8⟩:=rfl
theorem rS:lk 132 AK=some ⟨AAZ,[],0,8⟩:=rfl
theorem rU:lk 133 AK=some ⟨AB0,[],0,8⟩:=rfl
theorem rV:lk 134 AK=some ⟨AB1,[],0,8⟩:=rfl
theorem rW:lk 136 AK=some ⟨AB2,[],0,8⟩:=rfl
theorem rZ:lk 137 AK=some ⟨AB3,[],0,8⟩:=rfl
theorem r7:lk 138 AK=some ⟨AB4,[],0,8⟩:=rfl
theorem r8:lk 139 AK=some ⟨ACP,[],186,24⟩:=rfl
theorem r9:lk 140 AK=some ⟨BT,[],186,24⟩:=rfl
theorem sA:lk 141 AK=some ⟨AB5,[],0,8⟩:=rfl
theorem sB:lk 142 AK=some ⟨WC,[],170,24⟩:=rfl
theorem sC:lk 143 AK=some ⟨ACQ,[(0,1),(1,1),(2,1),(3,1)],0,88⟩:=rfl
theorem sD:lk 144 AK=some ⟨mK,[(0,1),(1,1),(2,1),(3,1)],0,88⟩:=rfl
theorem sE:lk 145 AK=some ⟨A5x,[],142,24⟩:=rfl
theorem sF:lk 147 AK=some ⟨AB6,[],0,8⟩:=rfl
theorem sG:lk 148 AK=some ⟨J7,[],152,24⟩:=rfl
theorem sH:lk 150 AK=some ⟨AB7,[],0,8⟩:=rfl
theorem sI:lk 151 AK=some ⟨ACR,[(0,1),(1,1)],0,40⟩:=rfl
theorem sJ:lk 152 AK=some ⟨b4,[(0,1),(1,1)],0,40⟩:=rfl
theorem sK:lk 153 AK=some ⟨AB8,[],0,8⟩:=rfl
theorem sL:lk 155 AK=some ⟨AB9,[],0,8⟩:=rfl
theorem sM:lk 156 AK=some ⟨gN,[],161,24⟩:=rfl
theorem sN:lk 157 AK=some ⟨ACS,[(0,1),(1,1),(2,1)],0,64⟩:=rfl
theorem sO:lk 158 AK=some ⟨zT,[(0,1),(1,1),(2,1)],0,64⟩:=rfl
theorem sP:lk 159 AK=some ⟨ABa,[],0,8⟩:=rfl
theorem sQ:lk 160 AK=some ⟨ABb,[(0,1),(1,1)],0,32⟩:=rfl
theorem sR:lk 161 AK=some ⟨mJ,[(0,1),(1,1)],0,32⟩:=rfl
theorem sS:lk 162 AK=some ⟨ABc,[(0,1),(1,1)],0,24⟩:=rfl
theorem sT:lk 163 AK=some ⟨A2m,[(0,1),(1,1)],0,24⟩:=rfl
theorem sU:lk 164 AK=some ⟨ABd,[],0,8⟩:=rfl
theorem sV:lk 165 AK=some ⟨ABe,[],0,8⟩:=rfl
theorem sW:lk 166 AK=some ⟨ABf,[],0,8⟩:=rfl
theorem sX:lk 167 AK=some ⟨ABg,[],0,8⟩:=rfl
theorem sY:lk 168 AK=some ⟨ABh,[],0,8⟩:=rfl
theorem sZ:lk 169 AK=some ⟨ABi,[(0,1),(1,1)],0,16⟩:=rfl
theorem s5:lk 170 AK=some ⟨A2n,[(0,1),(1,1)],0,16⟩:=rfl
theorem s6:lk 171 AK=some ⟨ABj,[],0,8⟩:=rfl
theorem s7:lk 172 AK=some ⟨Rx,[(0,1),(1,1)],3,16⟩:=rfl
theorem s8:lk 173 AK=some ⟨ABk,[],172,24⟩:=rfl
theorem s9:lk 174 AK=some ⟨ABl,[],0,8⟩:=rfl
theorem tA:lk 175 AK=some ⟨ABm,[],0,8⟩:=rfl
theorem tB:lk 176 AK=some ⟨ABn,[],0,8⟩:=rfl
theorem tC:lk 177 AK=some ⟨ABo,[(3,3)],0,8⟩:=rfl
theorem tD:lk 178 AK=some ⟨ABp,[],0,8⟩:=rfl
theorem tE:lk 179 AK=some ⟨ABq,[],0,8⟩:=rfl
theorem tF:lk 180 AK=some ⟨ABr,[],0,8⟩:=rfl
theorem tG:lk 181 AK=some ⟨ABs,[],0,8⟩:=rfl
theorem tH:lk 182 AK=some ⟨ABt,[],0,8⟩:=rfl
theorem tI:lk 183 AK=some ⟨ACW,[(0,1),(1,1),(2,1)],0,72⟩:=rfl
theorem tJ:lk 184 AK=some ⟨ACX,[(0,1),(1,1),(2,1)],0,72⟩:=rfl
theorem tK:lk 185 AK=some ⟨ABu,[],0,8⟩:=rfl
theorem tL:lk 186 AK=some ⟨QO,[],0,8⟩:=rfl
theorem tM:lk 187 AK=some ⟨ABv,[],0,8⟩:=rfl
theorem tN:lk 188 AK=some ⟨ABw,[],0,8⟩:=rfl
theorem tP:lk 189 AK=some ⟨ABx,[],0,8⟩:=rfl
theorem tQ:lk 190 AK=some ⟨ABy,[],0,8⟩:=rfl
theorem tR:lk 192 AK=some ⟨ABz,[],0,8⟩:=rfl
theorem tS:lk 193 AK=some ⟨ABA,[],0,8⟩:=rfl
theorem tT:lk 194 AK=some ⟨Tq,[],140,24⟩:=rfl
theorem tU:lk 195 AK=some ⟨ABB,[],0,8⟩:=rfl
theorem tV:lk 196 AK=some ⟨ABC,[],0,8⟩:=rfl
theorem tW:lk 197 AK=some ⟨ABD,[],0,8⟩:=rfl
theorem tX:lk 198 AK=some ⟨ABE,[],0,8⟩:=rfl
theorem tY:lk 199 AK=some ⟨ABF,[],0,8⟩:=rfl
theorem tZ:lk 201 AK=some ⟨ABG,[],0,8⟩:=rfl
theorem t8:lk 202 AK=some ⟨ABH,[],0,8⟩:=rfl
theorem t9:lk 203 AK=some ⟨ABI,[],0,8⟩:=rfl
theorem uA:lk 204 AK=some ⟨ACY,[(0,2),(2,1),(3,1)],0,96⟩:=rfl
theorem uB:lk 205 AK=some ⟨ACZ,[(0,2),(2,1),(3,1)],0,96⟩:=rfl
theorem uC:lk 206 AK=some ⟨ABJ,[],0,8⟩:=rfl
theorem uD:lk 207 AK=some ⟨ABK,[],0,8⟩:=rfl
theorem uE:lk 208 AK=some ⟨ABL,[],0,8⟩:=rfl
theorem uF:lk 209 AK=some ⟨ABM,[],0,8⟩:=rfl
theorem uG:lk 210 AK=some ⟨ABN,[],0,8⟩:=rfl
theorem uH:lk 211 AK=some ⟨ABO,[],0,8⟩:=rfl
theorem uI:lk 212 AK=some ⟨ABP,[],0,8⟩:=rfl
theorem uJ:lk 213 AK=some ⟨ABQ,[],0,8⟩:=rfl
theorem uK:lk 214 AK=some ⟨ABR,[],0,8⟩:=rfl
theorem uL:lk 215 AK=some ⟨ABS,[],0,8⟩:=rfl
theorem uM:lk 216 AK=some ⟨ABT,[],0,8⟩:=rfl
theorem uN:lk 217 AK=some ⟨ABU,[],0,8⟩:=rfl
theorem uP:lk 218 AK=some ⟨ABV,[],0,8⟩:=rfl
theorem uQ:lk 219 AK=some ⟨ABW,[],0,8⟩:=rfl
theorem uR:lk 220 AK=some ⟨ABX,[],0,8⟩:=rfl
theorem uS:lk 221 AK=some ⟨ABY,[],0,8⟩:=rfl
theorem uT:lk 222 AK=some ⟨ABZ,[],0,8⟩:=rfl
theorem uU:lk 223 AK=some ⟨AC0,[],0,8⟩:=rfl
theorem uV:lk 224 AK=some ⟨AC1,[],0,8⟩:=rfl
theorem uW:lk 225 AK=some ⟨AC2,[],0,8⟩:=rfl
theorem uX:lk 226 AK=some ⟨AC3,[],0,8⟩:=rfl
theorem uY:lk 228 AK=some ⟨AC4,[],0,8⟩:=rfl
theorem uZ:lk 229 AK=some ⟨AC5,[],0,8⟩:=rfl
theorem u3:lk 230 AK=some ⟨AC6,[],0,8⟩:=rfl
theorem u4:lk 231 AK=some ⟨AC7,[],0,8⟩:=rfl
theorem u5:lk 232 AK=some ⟨AC8,[],0,8⟩:=rfl
theorem u6:lk 233 AK=some ⟨AC9,[],0,8⟩:=rfl
theorem u7:lk 234 AK=some ⟨ACa,[],0,8⟩:=rfl
theorem u9:lk 235 AK=some ⟨ACb,[],0,8⟩:=rfl
theorem vA:lk 236 AK=some ⟨ACc,[],0,8⟩:=rfl
theorem vB:lk 237 AK=some ⟨ACd,[],0,8⟩:=rfl
theorem vC:lk 238 AK=some ⟨ACe,[],0,8⟩:=rfl
theorem vD:lk 239 AK=some ⟨ACf,[],0,8⟩:=rfl
theorem vE:lk 240 AK=some ⟨ACg,[],0,8⟩:=rfl
theorem vF:lk 241 AK=some ⟨ACh,[],0,8⟩:=rfl
theorem vG:lk 242 AK=some ⟨ACi,[],0,8⟩:=rfl
theorem vH:lk 243 AK=some ⟨ACj,[],0,8⟩:=rfl
theorem vI:lk 244 AK=some ⟨ACk,[],0,8⟩:=rfl
theorem vJ:lk 245 AK=some ⟨ACl,[],0,8⟩:=rfl
theorem vK:lk 246 AK=some ⟨ACm,[],0,8⟩:=rfl
theorem vL:lk 247 AK=some ⟨ACn,[],0,8⟩:=rfl
theorem vM:lk 248 AK=some ⟨ACo,[],0,8⟩:=rfl
theorem vN:lk 249 AK=some ⟨ACp,[],0,8⟩:=rfl
theorem vO:lk 250 AK=some ⟨ACq,[],0,8⟩:=rfl
theorem vP:lk 251 AK=some ⟨ACr,[],0,8⟩:=rfl
theorem vQ:lk 252 AK=some ⟨ACs,[],0,8⟩:=rfl
theorem vS:lk 254 AK=some ⟨ACt,[],0,8⟩:=rfl
theorem vT:lk 255 AK=some ⟨ACu,[],0,8⟩:=rfl
theorem vU:lk 256 AK=some ⟨ACv,[],0,8⟩:=rfl
theorem vV:lk 257 AK=some ⟨ACw,[],0,8⟩:=rfl
theorem vW:lk 258 AK=some ⟨ACx,[],0,8⟩:=rfl
theorem vX:lk 259 AK=some ⟨ACy,[],0,4⟩:=rfl
theorem vY:lk 260 AK=some ⟨ACz,[],0,8⟩:=rfl
theorem vZ:lk 261 AK=some ⟨ACA,[],0,8⟩:=rfl
theorem v4:lk 262 AK=some ⟨ACB,[],0,8⟩:=rfl
theorem v5:lk 263 AK=some ⟨ACC,[],0,8⟩:=rfl
theorem v6:lk 264 AK=some ⟨ACD,[],0,8⟩:=rfl
theorem v7:lk 265 AK=some ⟨ACE,[],0,8⟩:=rfl
theorem v8:lk 266 AK=some ⟨ACF,[],0,8⟩:=rfl
theorem v9:lk 267 AK=some ⟨ACG,[],0,8⟩:=rfl
theorem wA:lk 268 AK=some ⟨ACH,[],0,8⟩:=rfl
theorem wB:lk 269 AK=some ⟨ACI,[],0,8⟩:=rfl
theorem wC:lk 271 AK=some ⟨ACJ,[],0,8⟩:=rfl
theorem wD:lk 272 AK=some ⟨ACK,[],0,8⟩:=rfl
theorem wF:lk 278 AK=some ⟨ACL,[],0,8⟩:=rfl
theorem wG:lk 281 AK=some ⟨ACM,[],0,8⟩:=rfl
theorem wH:lk 282 AK=some ⟨ACN,[],0,8⟩:=rfl
theorem wI:lk 287 AK=some ⟨ACO,[(0,1),(1,1)],0,32⟩:=rfl
theorem wJ:lk 288 AK=some ⟨A9f,[(0,1),(1,1)],0,32⟩:=rfl
end
section
open Go Go.RowKit
section
variable {c:Cx} {R:Exit->Act->World->Prop} {k:List DZ} {σ σ':St}
theorem zU {P:Program} {tb:Tb} {t:TypeId} {ti:TI} {e:Ty} (hT:EH P tb t ti) (c:ti.ty=.slice e) (w:World) (a:Option Addr) (n m:Nat):(Op.equal t (.slice a n m) (.slice none 0 0)).run P w=.ok a.isNone w:=by
 have b:=hT.2;rw[c]at b;exact run_equal_slice_nil w t ti.el a n m b.1
def gQ:Option TI->Bool
 | some ⟨.slice _,_,_,_⟩=>true
 | _=>false
theorem zV (g:c.Ok) {ops:Array Oper} {rest:List Oper} {d:Nat} {t:TypeId} {x:Operand} {r ty:TypeId} {pos:String} {after:Array Edge} {e:Ty} {l:List e.den} (neg:Bool)
  (G:Ak σ x=some (.p (.slice e) l)) (i:gQ (lk t c.tb.ty)=true) (hk:∀b:Bool,(b=true->l=[])->Ih c R k ops rest (σ.add (.p .bool (if neg then !b else b)) [] (some d))) :
  Ih c R k ops (⟨some d,.binOp (if neg then .neq else .eql) t x (.const (.slice none 0 0)) r,ty,pos,after,none⟩ :: rest) σ:=by
 intro n z a w F;obtain⟨ρ,q⟩:=F;have y:GZ (vw w c.O0 σ ρ) σ a.eval:=Et q.env;have H:=y x _ G;obtain⟨cs,⟨ad,m,rfl,h1,N,f⟩,j⟩:=H;have j:a.eval x=.slice ad (List.length l) m:=j;unfold gQ at i;split at i
 ·rename_i M offs el bytes A;have s:=g.T _ _ A;have heq:=zU s rfl w ad (List.length l) m;unfold wpListIn;rw[BY (by simp[Region.wanted])];have D:(execOp a.eval ⟨some d,.binOp (if neg then .neq else .eql) t x (.const (.slice none 0 0)) r,ty,pos,after,none⟩).run c.P w=.ok (.value (.bool (if neg then !ad.isNone else ad.isNone))) w:=by
   have I:a.eval (.const (.slice none 0 0))=.slice none 0 0:=rfl;cases neg<;>simp[execOp,j,I,eqGuard,binOp,heq]
  refine Av D ?_ (λcl h=>by cases neg<;>cases h);have u:ad.isNone=true->l=[]:=λhn=>by
   rcases f with f|⟨J,rfl,_⟩
   ·exact f
   ·simp at hn
  have C:QS w c.O0 σ ρ (.p .bool (if neg then !ad.isNone else ad.isNone)) [] (.bool (if neg then !ad.isNone else ad.isNone)) ρ w:=QS.still (Bm _);have E:=q.add g.K g.O (dst:=some d) (λL v=>by cases v;exact Bx (n _ ADM) d rfl) rfl C;exact hk ad.isNone u (λo B=>n o (by simp[B])) z _ _ ⟨ρ,E⟩
 ·cases i
end
end
section
open Go Go.RowKit Go.ChangeShapes Go.WideShapes
set_option maxRecDepth 100000
def wK (r:Ty->TypeId->Bool) (P:Program):Ty->Nat->List Field->Bool
 | .prod a b,o,fs=>match fs with
  | f :: fs=>f.offset==o&&P.cellsOf f.type==a.size&&r a f.type&&wK r P b (o+a.size) fs
  | []=>false
 | s,o,[f]=>f.offset==o&&P.cellsOf f.type==s.size&&r s f.type
 | _,_,_=>false
def zW (P:Program) (m:Nat) (e:TypeId):List Field:=(List.range m).map λi=>{ (default:Field) with offset:=i*P.cellsOf e,type:=e }
def rd (P:Program):Nat->Ty->TypeId->Bool
 | 0,_,_=>false
 | _+1,.int k,t=>isI k (P.underlying t)
 | _+1,.bool,t=>match P.underlying t with|some .bool=>true|_=>false
 | _+1,.str,t=>match P.underlying t with|some .string=>true|_=>false
 | n+1,.slice e,t=>match P.underlying t with|some (.slice et)=>decide (0<P.bytesOf et)&&P.cellsOf et==e.size&&rd P n e et|_=>false
 | n+1,.agg s,t=>match P.underlying t with|some (.struct fs)=>P.cellsOf t==s.size&&wK (rd P n) P s 0 fs.toList|some (.array m e)=>P.cellsOf t==s.size&&wK (rd P n) P s 0 (zW P m e)|_=>false
 | _+1,_,_=>false
theorem wL {P:Program} {n:Nat} {t:TypeId} (h:rd P (n+1) .bool t=true):P.underlying t=some .bool:=by
 simp only[rd]at h;split at h
 ·assumption
 ·cases h
theorem A2o {P:Program} {n:Nat} {t:TypeId} (h:rd P (n+1) .str t=true):P.underlying t=some .string:=by
 simp only[rd]at h;split at h
 ·assumption
 ·cases h
theorem gR {P:Program} {n:Nat} {e:Ty} {t:TypeId} (h:rd P (n+1) (.slice e) t=true):∃et,P.underlying t=some (.slice et)/\0<P.bytesOf et/\P.cellsOf et=e.size/\rd P n e et=true:=by
 simp only[rd]at h;split at h
 ·rename_i et hu;simp only[AT,Fe,YD]at h;exact⟨et,hu,h.1.1,h.1.2,h.2⟩
 ·cases h
theorem A2p {P:Program} {n:Nat} {s:Ty} {t:TypeId} (h:rd P (n+1) (.agg s) t=true):(∃fs,P.underlying t=some (.struct fs)/\P.cellsOf t=s.size/\wK (rd P n) P s 0 fs.toList=true)\/∃m e,P.underlying t=some (.array m e)/\P.cellsOf t=s.size/\wK (rd P n) P s 0 (zW P m e)=true:=by
 simp only[rd]at h;split at h
 ·rename_i fs hu;simp only[AT,YD]at h;exact .inl ⟨fs,hu,h.1,h.2⟩
 ·rename_i m e hu;simp only[AT,YD]at h;exact .inr ⟨m,e,hu,h.1,h.2⟩
 ·cases h
theorem zX {w:World} {base:Nat} {a:Addr} {n:Nat} {cs:List Value} (h:w.cells? base a n=some cs):cs.length=n/\∀(j:Nat) (v:Value),cs[j]?=some v->w.cell? (a.add j)=some v:=by
 unfold World.cells? at h;split at h
 ·have h1:=mapM_some_length h;simp only[AEE]at h1;refine⟨h1,λj v b=>?_⟩;have c:j<n:=by
   obtain⟨c,_⟩:=UC.1 b;omega
  rw[mapM_some_get h j j (by simp[c]),b]
 ·cases h
section
variable {H:Type} {enc:TypeId×Value->H} {P:Program} {w:World} {spare:Nat->Bool} {held:Bool}
theorem gS {e:TypeId}:∀ {l:List (DataW H)} {d:DataW H},d∈l->∀n∈d.weights P e,n∈DataW.weightsAll P e l
 | a :: l,d,b,n,hn=>by
  simp only[DataW.weightsAll,No];rcases DO.1 b with rfl|b
  ·exact .inl hn
  ·exact .inr (gS b n hn)
 | [],_,b,_,_=>by cases b
theorem Y9 {b:List TypeId} {a:List (DataW H)}:∀ {ts:List TypeId} {ds:List (DataW H)},∀n∈DataW.weightsEach P ts ds,n∈DataW.weightsEach P (ts++b) (ds++a)
 | t :: ts,d :: ds,n,hn=>by
  simp only[DataW.weightsEach,ADF,No]at hn ⊢;rcases hn with hn|hn
  ·exact .inl hn
  ·exact .inr (Y9 n hn)
 | [],_,n,hn=>by simp[DataW.weightsEach]at hn
 | _ :: _,[],n,hn=>by simp[DataW.weightsEach]at hn
theorem ZA {e:TypeId}:∀ {m:Nat} {k:Nat} {ds:List (DataW H)},∀n∈DataW.weightsEach P (((List.range' k m).map λi=>({ (default:Field) with offset:=i*P.cellsOf e,type:=e }:Field)).map (·.type)) ds,n∈DataW.weightsAll P e ds
 | 0,_,ds,n,hn=>by simp[DataW.weightsEach]at hn
 | m+1,k,[],n,hn=>by
  rw[AFu]at hn;simp[DataW.weightsEach]at hn
 | m+1,k,d :: ds,n,hn=>by
  rw[AFu]at hn;simp only[UQ,DataW.weightsEach,No]at hn;simp only[DataW.weightsAll,No];rcases hn with hn|hn
  ·exact .inl hn
  ·exact .inr (ZA n hn)
theorem TA {n:Nat} {r:Ty->TypeId->Bool}
  (A:∀ty t,r ty t=true->∀(cs:List Value) (x:DataW H×List MemPlace),DataW.trod enc P w 0 spare held n t cs=some x->(∀b∈x.1.weights P t,b<=reachBytes)->∃d:ty.den,B0 w (λ_=>False) ty cs d) (cs:List Value) :
  ∀(s:Ty) (o:Nat) (fs:List Field),wK r P s o fs=true->∀xs:List (DataW H×List MemPlace),xs.length=fs.length ->
   (∀(i:Nat) (f:Field),fs[i]?=some f->DataW.trod enc P w 0 spare held n f.type ((cs.drop f.offset).take (P.cellsOf f.type))=xs[i]?) ->
   (∀b∈DataW.weightsEach P (fs.map (·.type)) (xs.map (·.1)),b<=reachBytes)->∃d:s.den,B0 w (λ_=>False) s ((cs.drop o).take s.size) d:=by
 have one:∀(s:Ty) (o:Nat) (f:Field),(f.offset==o&&P.cellsOf f.type==s.size&&r s f.type)=true->∀x:DataW H×List MemPlace,
   DataW.trod enc P w 0 spare held n f.type ((cs.drop f.offset).take (P.cellsOf f.type))=some x ->
   (∀b∈x.1.weights P f.type,b<=reachBytes)->∃d:s.den,B0 w (λ_=>False) s ((cs.drop o).take s.size) d:=by
  intro s o f h x j c;simp only[AT,YD]at h;obtain⟨⟨rfl,p⟩,q⟩:=h;rw[<-p];exact A s f.type q _ x j c
 have lone:∀(s:Ty) (o:Nat) (f:Field),(f.offset==o&&P.cellsOf f.type==s.size&&r s f.type)=true->∀xs:List (DataW H×List MemPlace),xs.length=[f].length ->
   (∀(i:Nat) (g:Field),[f][i]?=some g->DataW.trod enc P w 0 spare held n g.type ((cs.drop g.offset).take (P.cellsOf g.type))=xs[i]?) ->
   (∀b∈DataW.weightsEach P ([f].map (·.type)) (xs.map (·.1)),b<=reachBytes)->∃d:s.den,B0 w (λ_=>False) s ((cs.drop o).take s.size) d:=by
  intro s o f h xs m j c;obtain⟨x,rfl⟩:∃x,xs=[x]:=ADS.1 (by simpa using m);exact one s o f h x (j 0 f rfl) (λb l=>c b (by simp[DataW.weightsEach,l]))
 intro s;induction s with
 | prod a b E B =>
  intro o fs h xs m j c;cases fs with
  | nil=>simp[wK]at h
  | cons f fs =>
   simp only[wK,AT]at h;obtain⟨⟨⟨h1,p⟩,q⟩,y⟩:=h;obtain⟨x,ys,rfl⟩:∃x ys,xs=x :: ys:=List.exists_cons_of_ne_nil (by intro h;subst h;simp at m);obtain⟨u,C⟩:=one a o f (by simp only[h1,p,q,Bool.and_self]) x (j 0 f rfl) (λb l=>c b (by
     simp only[UQ,DataW.weightsEach,No];exact .inl l))
   obtain⟨v,D⟩:=B (o+a.size) fs y ys (by simpa using m) (λi g z=>j (i+1) g z) (λb l=>c b (by
     simp only[UQ,DataW.weightsEach,No];exact .inr l))
   refine⟨(u,v),(cs.drop o).take a.size,(cs.drop (o+a.size)).take b.size,?_,C,D⟩;show (cs.drop o).take (a.size+b.size)=_;rw[List.take_add,AEH]
 | int k=>intro o fs h;match fs,h with|[f],h=>exact lone _ o f (by simpa only[wK] using h)
 | bool=>intro o fs h;match fs,h with|[f],h=>exact lone _ o f (by simpa only[wK] using h)
 | str=>intro o fs h;match fs,h with|[f],h=>exact lone _ o f (by simpa only[wK] using h)
 | slice e _=>intro o fs h;match fs,h with|[f],h=>exact lone _ o f (by simpa only[wK] using h)
 | agg t _=>intro o fs h;match fs,h with|[f],h=>exact lone _ o f (by simpa only[wK] using h)
 | ref k=>intro o fs h;match fs,h with|[f],h=>exact lone _ o f (by simpa only[wK] using h)
theorem A2q:∀(k:Nat) (ty:Ty) (t:TypeId),rd P k ty t=true->∀(n:Nat) (cs:List Value) (x:DataW H×List MemPlace),
  DataW.trod enc P w 0 spare held n t cs=some x->(∀b∈x.1.weights P t,b<=reachBytes)->∃d:ty.den,B0 w (λ_=>False) ty cs d:=by
 intro k;induction k with
 | zero=>intro ty t h;simp[rd]at h
 | succ k B =>
  intro ty t h n cs x c l;cases ty with
  | int q =>
   have hu:=VO (by simpa only[rd] using h);obtain⟨m,rfl,rfl,F⟩:=DataW.trod_int hu c;simp only[Lit.wf,AT,Fe]at F;exact⟨m,rfl,F⟩
  | bool =>
   obtain⟨b,rfl,rfl⟩:=DataW.trod_bool (wL h) c;exact⟨b,rfl⟩
  | str =>
   obtain⟨b,rfl,rfl,_⟩:=DataW.trod_string (A2o h) c;refine⟨b,rfl,?_⟩;have:=l b.data.toList.length (by simp only[DataW.weights];exact ADM);have p:b.data.toList.length=b.size:=AEL;simp only[reachBytes]at this;simp only[AP];omega
  | slice e =>
   obtain⟨et,hu,L,C,u⟩:=gR h;rcases DataW.trod_slice hu c with ⟨rfl,rfl⟩|⟨a,len,cap,elems,rest,m,rfl,rfl,rfl,-,U,-,V,Q,-,-⟩
   ·exact⟨[],none,0,rfl,NO _,IS _,.inl rfl⟩
   ·have X:len<=AP:=by
     have h1:=l ((elems.length+rest.length)*P.bytesOf et) (by simp only[DataW.weights,hu,Of];exact ADM);have p:elems.length+rest.length<=(elems.length+rest.length)*P.bytesOf et:=Nat.le_mul_of_pos_right _ L;simp only[reachBytes]at h1;simp only[AP];omega
    have D:∀i,i<len->∃d:e.den,∃g:List Value,g.length=e.size/\(∀(j:Nat) (v:Value),g[j]?=some v->w.cell? (a.add (i*e.size+j))=some v)/\B0 w (λ_=>False) e g d:=by
     intro i hi;have h1:=Q i hi;obtain⟨x,c⟩:∃x,elems[i]?=some x:=⟨_,At (by omega)⟩;rw[c]at h1;obtain⟨g,p,G⟩:=Option.bind_eq_some_iff.1 h1;obtain⟨I,J⟩:=zX p;obtain⟨d,o⟩:=B e et u m g x G (λb r=>l b (by
      simp only[DataW.weights,hu];exact OF _ (YC _ (gS (IF.2 ⟨x,gO c,rfl⟩) b r))))
     refine⟨d,g,by rw[I,C],λj v S=>?_,o⟩;have:=J j v S
     rwa [DV,C]at this
    have K:∃ds:List e.den,ds.length=len/\∀(i:Nat) (d:e.den),ds[i]?=some d->∃g:List Value,g.length=e.size/\(∀(j:Nat) (v:Value),g[j]?=some v->w.cell? (a.add (i*e.size+j))=some v)/\B0 w (λ_=>False) e g d:=by
     refine⟨(List.range len).pmap (λi hi=>Classical.choose (D i hi)) (λi hi=>UM.1 hi),by simp,λi d o=>?_⟩;rw[List.getElem?_pmap]at o;simp only[Option.pmap_eq_some_iff]at o;obtain⟨j,h1,p,rfl⟩:=o;have R:j=i:=by
      obtain⟨W,u⟩:=UC.1 p;simpa using u.symm
     subst R;exact Classical.choose_spec (D j h1)
    obtain⟨ds,N,O⟩:=K;exact⟨ds,some a,cap,by rw[N],by omega,by omega,.inr ⟨a,rfl,λh=>h,O⟩⟩
  | agg s =>
   rcases A2p h with ⟨fs,hu,M,hf⟩|⟨q,e,hu,M,hf⟩
   ·obtain⟨xs,m,rfl,rfl,T,z,A⟩:=DataW.trod_struct hu c;obtain⟨d,o⟩:=TA (λty t y cs x c l=>B ty t y m cs x c l) cs s 0 fs.toList hf xs (by simpa using z) (λi f hi=>A i f (by simpa using hi)) (by
     simpa[DataW.weights,hu] using l)
    refine⟨d,?_⟩;show B0 w _ s cs d
    rwa [YJ,As (by omega)]at o
   ·obtain⟨xs,m,rfl,rfl,T,z,A⟩:=DataW.trod_array hu c;obtain⟨d,o⟩:=TA (λty t y cs x c l=>B ty t y m cs x c l) cs s 0 (zW P q e) hf xs (by simp[zW,z]) (λi f hi=>by
     unfold zW at hi;rw[iS]at hi;by_cases E:i<q
     ·rw[AE5 E]at hi;have hi:({ (default:Field) with offset:=i*P.cellsOf e,type:=e }:Field)=f:=by simpa using hi
      rw[<-hi];exact A i E
     ·rw[UJ (by simp;omega)]at hi;cases hi) (λb r=>l b (by
     simp only[DataW.weights,hu];unfold zW at r;rw[List.range_eq_range']at r;exact ZA b r))
    refine⟨d,?_⟩;show B0 w _ s cs d
    rwa [YJ,As (by omega)]at o
  | prod a b=>simp[rd]at h
  | ref j=>simp[rd]at h
theorem A6H {k:Nat} {ty:Ty} {t:TypeId} {v:Value} {r:Reach} {base:Nat} (h:rd P k ty t=true) (d:Value.okWide P w r base t v):v=ty.wrap v.cells.toList:=by
 cases k with
 | zero=>simp[rd]at h
 | succ k =>
  cases ty with
  | int q =>
   obtain⟨n,rfl⟩:=okWide_int (VO (by simpa only[rd] using h)) d;rfl
  | bool =>
   obtain⟨n,rfl⟩:=okWide_bool (wL h) d;rfl
  | str =>
   obtain⟨n,rfl⟩:=okWide_string (A2o h) d;rfl
  | slice e =>
   obtain⟨et,hu,_⟩:=gR h;obtain⟨a,l,c,rfl⟩:=okWide_slice hu d;rfl
  | agg s =>
   rcases A2p h with ⟨fs,hu,_⟩|⟨q,e,hu,_⟩
   ·obtain⟨cs,rfl,_⟩:=okWide_struct hu d;simp[Ty.wrap,Value.cells]
   ·simp only[Value.okWide,hu]at d;obtain⟨cs,rfl,_⟩:=d;simp[Ty.wrap,Value.cells]
  | prod a b=>simp[rd]at h
  | ref j=>simp[rd]at h
def OC (P:Program):List Ty->List TypeId->Bool
 | [],[]=>true
 | ty :: a,t :: ts=>rd P 50 ty t&&P.readableRec t&&decide (t<P.types.size)&&OC P a ts
 | _,_=>false
theorem gT {r:Reach} {base:Nat}:∀(a:List Ty) (ts:List TypeId) (c:List Value) (ds:List (DataW H)) (p:List MemPlace),OC P a ts=true->DataW.TrodAll enc P w 0 spare held ts c ds p ->
  (∀(j:Nat) (t:TypeId) (v:Value),ts[j]?=some t->c[j]?=some v->Value.okWide P w r base t v)->(∀b∈DataW.weightsEach P ts ds,b<=reachBytes)->∃xs:KR a,Su w (λ_=>False) a c xs
 | [],[],c,ds,p,_,h,_,_=>by
  obtain⟨rfl,_,_⟩:=trodAll_nil h;exact⟨(),rfl⟩
 | ty :: a,t :: ts,c,ds,p,g,h,i,e=>by
  simp only[OC,AT]at g;obtain⟨⟨⟨h1,_⟩,_⟩,m⟩:=g;obtain⟨v,k,d,l,D,A,rfl,rfl,rfl,⟨n,o⟩,q⟩:=trodAll_cons h;simp only[DataW.weightsEach,No]at e;obtain⟨x,y⟩:=A2q 50 ty t h1 n _ _ o (λb f=>e b (.inl f));obtain⟨xs,z⟩:=gT a ts k l A m q (λj B C s u=>i (j+1) B C s u) (λb f=>e b (.inr f));exact⟨(x,xs),v,k,rfl,⟨_,y,A6H h1 (i 0 t v rfl rfl)⟩,z⟩
 | [],_ :: _,_,_,_,h,_,_,_=>by simp[OC]at h
 | _ :: _,[],_,_,_,h,_,_,_=>by simp[OC]at h
theorem ZB (i:laidOutB P=true) {W f:World} (g:Below W.heap.size W f):∀(e:List Ty) (ts:List TypeId) (a:List Value) (ds:List (DataW H)) (p:List MemPlace),OC P e ts=true ->
  DataW.TrodAll enc P W 0 (λ_=>true) true ts a ds p->(∀x∈p,x.block<W.heap.size)->DataW.TrodAll enc P f 0 (λb=>decide (b<W.heap.size)) true ts a ds p
 | [],[],a,ds,p,_,h,_=>by
  obtain⟨rfl,rfl,rfl⟩:=trodAll_nil h;rfl
 | ty :: e,t :: ts,a,ds,p,k,h,j=>by
  simp only[OC,AT,Fe]at k;obtain⟨⟨⟨_,h1⟩,n⟩,o⟩:=k;obtain⟨v,u,d,m,s,l,rfl,rfl,rfl,q,r⟩:=trodAll_cons h;exact⟨s,l,Below.trod i h1 n q g (λx c=>j x (YC _ c)),ZB i g e ts u m l o r (λx c=>j x (AE9 _ c)),rfl⟩
 | [],_ :: _,_,_,_,h,_,_=>by simp[OC]at h
 | _ :: _,[],_,_,_,h,_,_=>by simp[OC]at h
end
theorem A2r {w:World} {O:Nat->Prop} {u:Value} {w':World} (h:A1D w O [.p .bool true] u w'):u=.bool true/\Below w.heap.size w w':=by
 obtain⟨ρ',a⟩:=h 0;refine⟨?_,a.below⟩;obtain⟨cs,h1,b⟩:Bl _ _ .bool u true:=a.av;have h1:cs=[.bool true]:=h1;rw[b,h1];rfl
theorem A2s {P:Program} {f:FuncId} {fn:Func} {sp:Aa} {s:ChangeSpec} {tb:TypeId} (J:Ab P f sp) (L:∀ds,sp.pre ds) (K:∀ds,sp.out ds=[.p .bool true])
  (F:laidOutB P=true) (r:OC P sp.ins fn.params.toList=true) (N:fn.resultTypes=#[tb]) (D:P.underlying tb=some .bool) (w:s.vars=[])
  (hs:∀(H:Type) (ds:List (DataW H)),ds.length=fn.params.size->(s.fn H ds).results=[.lit (.bool true)]/\(s.fn H ds).args=ds/\(s.fn H ds).vars=[])
  {H:Type} {enc:TypeId×Value->H} {W:World} {base:Nat} {args:Array Value} {ds l:List (DataW H)} {y:List MemPlace} {X:List TypeId}
  (S:∀(j:Nat) t v,fn.params[j]?=some t->args[j]?=some v->Value.okWide P W .any base t v)
  (n:DataW.Whole enc P fn.params.toList s.vars false W args.toList ds l y)
  (O:(DataW.weightsEach P (fn.params.toList++X) (ds++l)).all (·<=reachBytes)=true) :
  Calls P f args W λe k=>∃v,e=.returned v/\s.post enc P fn false true false false W args v k:=by
 have o:=n;obtain⟨p,q,c,m,rfl,Z,aa⟩:=n;rw[w]at m;obtain⟨rfl,rfl⟩:=trodVars_none m;obtain⟨xs,U⟩:=gT sp.ins fn.params.toList args.toList ds p r c (λj t v Q R=>S j t v (by simpa using Q) (by simpa using R))
  (λb a=>by simpa using Is.1 O b (Y9 b a))
 have I:∀x∈p,x.block<W.heap.size:=λx T=>by simpa using o.lt x (YC _ T)
 have G:ds.length=fn.params.size:=by
  have:∀(ts:List TypeId) (i:List Value) (ds:List (DataW H)) (p:List MemPlace),DataW.TrodAll enc P W 0 (λ_=>true) true ts i ds p->ds.length=ts.length:=by
   intro ts;induction ts with
   | nil=>intro i ds p h;obtain⟨_,rfl,_⟩:=trodAll_nil h;rfl
   | cons t ts V=>intro i ds p h;obtain⟨v,ae,d,Y,ab,ad,rfl,rfl,rfl,_,M⟩:=trodAll_cons h;simp[V _ _ _ M]
  simpa using this _ _ _ _ c
 have g:=J.2 W (λ_=>False) args.toList xs (λ_ h=>h.elim) U (L xs);rw[K]at g;have C:args.toList.toArray=args:=by simp
 rw[C]at g;refine g.mono λe k ⟨u,E,hu⟩=>?_;obtain⟨rfl,a⟩:=A2r hu;obtain⟨z,A,B⟩:=hs H (ds++[]) (by simpa using G);refine⟨_,E,_,_,_,[],p,[],o,?_,?_,?_,a.frame _,λh=>by cases h⟩
 ·rw[z,N];exact trodAll_mk1 (shut_bool D _)
 ·rw[A,UO];exact ZB F a sp.ins _ _ _ _ r c I
 ·rw[B,w];rfl
end
end Go.Proofs.YtapkhdkbkodbjaaGreat.Fw

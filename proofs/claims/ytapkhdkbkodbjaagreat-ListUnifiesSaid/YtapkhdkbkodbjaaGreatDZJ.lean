/- This program's types; a slice compared with nil; from a contract to the given statement. -/
import Derived.Test.YtapkhdkbkodbjaaGreatDZI
import Derived.Test.YtapkhdkbkodbjaaGreatChecked
import Derived.Laws.Cover3
import Derived.Carry
import Derived.SizedLaws
import Derived.OpenShut
set_option linter.unusedVariables false
set_option linter.unusedSimpArgs false
namespace Go.Proofs.YtapkhdkbkodbjaaGreat.Fw
section
open Go
abbrev T1:Ty:=.ref 1
abbrev T2:Ty:=.int .i64
abbrev T3:Ty:=.int .i64
abbrev T4:Ty:=.bool
abbrev T5:Ty:=.int .u8
abbrev T9:Ty:=.str
abbrev T12:Ty:=.int .u64
abbrev T21:Ty:=.int .i32
abbrev T32:Ty:=.ref 1
abbrev T33:Ty:=.ref 1
abbrev T34:Ty:=.ref 1
abbrev GI:Ty:=.int .i64
abbrev T36:Ty:=.ref 1
abbrev T37:Ty:=.ref 1
abbrev T41:Ty:=.ref 1
abbrev T43:Ty:=.ref 1
abbrev T44:Ty:=.ref 1
abbrev T45:Ty:=.ref 1
abbrev T46:Ty:=.ref 1
abbrev T47:Ty:=.ref 1
abbrev T48:Ty:=.ref 1
abbrev T49:Ty:=.ref 1
abbrev T50:Ty:=.ref 1
abbrev T56:Ty:=.ref 1
abbrev T57:Ty:=.ref 1
abbrev T58:Ty:=.ref 1
abbrev T59:Ty:=.ref 1
abbrev T60:Ty:=.ref 1
abbrev F1:Ty:=.slice T3
abbrev T63:Ty:=.ref 1
abbrev T65:Ty:=.ref 1
abbrev T66:Ty:=.ref 1
abbrev T67:Ty:=.ref 1
abbrev T68:Ty:=.ref 1
abbrev T70:Ty:=.ref 1
abbrev T71:Ty:=.ref 1
abbrev T72:Ty:=.ref 1
abbrev T73:Ty:=.ref 1
abbrev T74:Ty:=.ref 1
abbrev T75:Ty:=.ref 1
abbrev T76:Ty:=.ref 1
abbrev T78:Ty:=.ref 1
abbrev T80:Ty:=.ref 1
abbrev T81:Ty:=.ref 1
abbrev T82:Ty:=.ref 1
abbrev T84:Ty:=.ref 1
abbrev T85:Ty:=.ref 1
abbrev T87:Ty:=.ref 1
abbrev T89:Ty:=.ref 1
abbrev T90:Ty:=.ref 1
abbrev T94:Ty:=.ref 1
abbrev GH:Ty:=.slice T9
abbrev T96:Ty:=.ref 1
abbrev T97:Ty:=.ref 1
abbrev T98:Ty:=.ref 1
abbrev T99:Ty:=.ref 1
abbrev AAK:Ty:=.ref 1
abbrev AAL:Ty:=.ref 1
abbrev AAM:Ty:=.ref 1
abbrev AAN:Ty:=.ref 1
abbrev AAO:Ty:=.agg (.prod T3 (T3))
abbrev AU:Ty:=.agg (.prod T3 (T3))
abbrev AAP:Ty:=.ref 1
abbrev AAQ:Ty:=.ref 0
abbrev AAR:Ty:=.ref 1
abbrev AAS:Ty:=.ref 1
abbrev AAT:Ty:=.ref 1
abbrev AAU:Ty:=.ref 1
abbrev AAV:Ty:=.ref 2
abbrev AAW:Ty:=.ref 1
abbrev AAX:Ty:=.ref 1
abbrev AAY:Ty:=.ref 1
abbrev AAZ:Ty:=.ref 1
abbrev AB0:Ty:=.ref 1
abbrev AB1:Ty:=.ref 1
abbrev AB2:Ty:=.ref 1
abbrev AB3:Ty:=.ref 1
abbrev AB4:Ty:=.ref 1
abbrev AB5:Ty:=.ref 1
abbrev AB6:Ty:=.ref 1
abbrev AB7:Ty:=.ref 1
abbrev AB8:Ty:=.ref 1
abbrev AB9:Ty:=.ref 1
abbrev ABa:Ty:=.ref 1
abbrev ABb:Ty:=.ref 1
abbrev ABc:Ty:=.ref 1
abbrev ABd:Ty:=.ref 1
abbrev ABe:Ty:=.ref 1
abbrev ABf:Ty:=.ref 1
abbrev ABg:Ty:=.ref 1
abbrev ABh:Ty:=.ref 1
abbrev ABi:Ty:=.ref 1
abbrev ABj:Ty:=.agg (.prod T9 (T9))
abbrev mV:Ty:=.agg (.prod T9 (T9))
abbrev ABk:Ty:=.agg (.prod T9 (T3))
abbrev A2N:Ty:=.agg (.prod T9 (T3))
abbrev ABl:Ty:=.ref 1
abbrev ABm:Ty:=.ref 1
abbrev ABn:Ty:=.ref 1
abbrev ABo:Ty:=.ref 1
abbrev ABp:Ty:=.ref 1
abbrev ABq:Ty:=.agg (.prod T3 (T3))
abbrev A2O:Ty:=.agg (.prod T3 (T3))
abbrev ABr:Ty:=.ref 1
abbrev R6:Ty:=.agg (.prod T3 (T3))
abbrev ABs:Ty:=.slice R6
abbrev ABt:Ty:=.ref 1
abbrev ABu:Ty:=.ref 1
abbrev ABv:Ty:=.ref 1
abbrev ABw:Ty:=.ref 2
abbrev ABx:Ty:=.ref 1
abbrev ABy:Ty:=.ref 1
abbrev ABz:Ty:=.ref 1
abbrev ABA:Ty:=.ref 1
abbrev ABB:Ty:=.ref 0
abbrev ABC:Ty:=.ref 1
abbrev QU:Ty:=.int .u64
abbrev ABD:Ty:=.ref 1
abbrev ABE:Ty:=.ref 1
abbrev ABF:Ty:=.ref 1
abbrev ABG:Ty:=.ref 1
abbrev ABH:Ty:=.ref 1
abbrev ABI:Ty:=.ref 1
abbrev ABJ:Ty:=.ref 1
abbrev ABK:Ty:=.ref 1
abbrev ABL:Ty:=.ref 1
abbrev ABM:Ty:=.ref 1
abbrev ABN:Ty:=.ref 1
abbrev ABO:Ty:=.ref 1
abbrev ABP:Ty:=.ref 1
abbrev ABQ:Ty:=.ref 0
abbrev ABR:Ty:=.ref 1
abbrev ABS:Ty:=.ref 1
abbrev ABT:Ty:=.ref 1
abbrev ABU:Ty:=.ref 1
abbrev ABV:Ty:=.ref 1
abbrev ABW:Ty:=.ref 1
abbrev ABX:Ty:=.ref 1
abbrev ABY:Ty:=.ref 1
abbrev ABZ:Ty:=.ref 1
abbrev AC0:Ty:=.ref 1
abbrev AC1:Ty:=.ref 1
abbrev AC2:Ty:=.ref 1
abbrev AC3:Ty:=.ref 1
abbrev AC4:Ty:=.ref 1
abbrev AC5:Ty:=.ref 1
abbrev AC6:Ty:=.ref 1
abbrev AC7:Ty:=.ref 1
abbrev AC8:Ty:=.ref 1
abbrev AC9:Ty:=.ref 1
abbrev ACa:Ty:=.ref 1
abbrev ACb:Ty:=.ref 1
abbrev ACc:Ty:=.ref 1
abbrev ACd:Ty:=.ref 1
abbrev ACe:Ty:=.ref 1
abbrev ACf:Ty:=.ref 1
abbrev ACg:Ty:=.ref 1
abbrev ACh:Ty:=.ref 1
abbrev ACi:Ty:=.ref 1
abbrev ACj:Ty:=.ref 1
abbrev ACk:Ty:=.ref 1
abbrev ACl:Ty:=.ref 1
abbrev ACm:Ty:=.ref 1
abbrev ACn:Ty:=.ref 1
abbrev ACo:Ty:=.ref 1
abbrev ACp:Ty:=.ref 1
abbrev ACq:Ty:=.ref 1
abbrev ACr:Ty:=.int .u64
abbrev ACs:Ty:=.ref 1
abbrev ACt:Ty:=.ref 1
abbrev ACu:Ty:=.ref 1
abbrev ACv:Ty:=.ref 1
abbrev ACw:Ty:=.ref 1
abbrev ACx:Ty:=.ref 1
abbrev ACy:Ty:=.ref 1
abbrev ACz:Ty:=.ref 1
abbrev ACA:Ty:=.int .i64
abbrev ACB:Ty:=.ref 1
abbrev ACC:Ty:=.ref 1
abbrev ACD:Ty:=.ref 1
abbrev ACE:Ty:=.ref 1
abbrev ACF:Ty:=.ref 1
abbrev ACG:Ty:=.int .u32
abbrev ACH:Ty:=.ref 1
abbrev ACI:Ty:=.ref 1
abbrev ACJ:Ty:=.ref 1
abbrev ACK:Ty:=.int .u64
abbrev ACL:Ty:=.ref 1
abbrev ACM:Ty:=.ref 1
abbrev ACN:Ty:=.ref 1
abbrev ACO:Ty:=.ref 0
abbrev ACP:Ty:=.ref 1
abbrev ACQ:Ty:=.ref 0
abbrev ACR:Ty:=.ref 1
abbrev ACS:Ty:=.ref 1
abbrev ACT:Ty:=.ref 1
abbrev ACU:Ty:=.ref 1
abbrev ACV:Ty:=.ref 0
abbrev ACW:Ty:=.agg (.prod T9 (T9))
abbrev A9z:Ty:=.agg (.prod T9 (T9))
abbrev rE:Ty:=.slice A2N
abbrev T51:Ty:=.slice A9z
abbrev T52:Ty:=.agg (.prod T3 (T51))
abbrev T53:Ty:=.agg (.prod T3 (T51))
abbrev Cm:Ty:=.slice AU
abbrev T92:Ty:=.agg (.prod T3 (Cm))
abbrev Hd:Ty:=.agg (.prod T3 (Cm))
abbrev A60:Ty:=.slice Cm
abbrev ACX:Ty:=.slice QU
abbrev BG:Ty:=.slice QU
abbrev bF:Ty:=.slice A2O
abbrev ACY:Ty:=.agg (.prod T9 (.prod BG (.prod F1 (bF))))
abbrev mW:Ty:=.agg (.prod T9 (.prod BG (.prod F1 (bF))))
abbrev A61:Ty:=.slice bF
abbrev ACZ:Ty:=.agg (.prod T9 (BG))
abbrev bG:Ty:=.agg (.prod T9 (BG))
abbrev fZ:Ty:=.slice mV
abbrev AD0:Ty:=.agg (.prod T9 (.prod GH (fZ)))
abbrev A0h:Ty:=.agg (.prod T9 (.prod GH (fZ)))
abbrev UQ:Ty:=.slice BG
abbrev E8:Ty:=.slice A0h
abbrev G2:Ty:=.slice Hd
abbrev T24:Ty:=.agg (G2)
abbrev DE:Ty:=.agg (G2)
abbrev T26:Ty:=.agg (.prod T9 (.prod T3 (DE)))
abbrev T27:Ty:=.agg (.prod T9 (.prod T3 (DE)))
abbrev lF:Ty:=.slice mW
abbrev T30:Ty:=.agg (.prod lF (rE))
abbrev Dn:Ty:=.agg (.prod lF (rE))
abbrev Ni:Ty:=.slice DE
abbrev T39:Ty:=.agg (.prod E8 (.prod T27 (.prod Ni (Ni))))
abbrev T40:Ty:=.agg (.prod E8 (.prod T27 (.prod Ni (Ni))))
abbrev T54:Ty:=.agg (.prod T9 (.prod T53 (DE)))
abbrev T55:Ty:=.agg (.prod T9 (.prod T53 (DE)))
abbrev AD1:Ty:=.agg (.prod Dn (.prod F1 (.prod F1 (A60))))
abbrev AD2:Ty:=.agg (.prod Dn (.prod F1 (.prod F1 (A60))))
abbrev AD3:Ty:=.agg (.prod Dn (.prod T3 (.prod T3 (.prod T3 (.prod T3 (.prod T3 (.prod T3 (.prod T3 (T3)))))))))
abbrev WE:Ty:=.agg (.prod Dn (.prod T3 (.prod T3 (.prod T3 (.prod T3 (.prod T3 (.prod T3 (.prod T3 (T3)))))))))
abbrev KA:Ty:=.slice bG
abbrev AD4:Ty:=.agg (.prod DE (.prod F1 (F1)))
abbrev AD5:Ty:=.agg (.prod DE (.prod F1 (F1)))
abbrev AD6:Ty:=.agg (.prod Dn (.prod F1 (F1)))
abbrev AD7:Ty:=.agg (.prod Dn (.prod F1 (F1)))
set_option maxRecDepth 100000
def AI:List (Nat×TI):=[(1,⟨T1,[],0,8⟩),
 (2,⟨T2,[],0,8⟩),
 (3,⟨T3,[],0,8⟩),
 (4,⟨T4,[],0,1⟩),
 (5,⟨T5,[],0,1⟩),
 (9,⟨T9,[],0,16⟩),
 (12,⟨T12,[],0,8⟩),
 (21,⟨T21,[],0,4⟩),
 (22,⟨E8,[],158,24⟩),
 (23,⟨G2,[],93,24⟩),
 (24,⟨T24,[(0,1)],0,24⟩),
 (25,⟨DE,[(0,1)],0,24⟩),
 (26,⟨T26,[(0,1),(1,1),(2,1)],0,48⟩),
 (27,⟨T27,[(0,1),(1,1),(2,1)],0,48⟩),
 (28,⟨lF,[],144,24⟩),
 (29,⟨rE,[],163,24⟩),
 (30,⟨T30,[(0,1),(1,1)],0,48⟩),
 (31,⟨Dn,[(0,1),(1,1)],0,48⟩),
 (32,⟨T32,[],0,8⟩),
 (33,⟨T33,[],0,8⟩),
 (34,⟨T34,[],0,8⟩),
 (35,⟨GI,[],0,8⟩),
 (36,⟨T36,[],0,8⟩),
 (37,⟨T37,[],0,8⟩),
 (38,⟨Ni,[],25,24⟩),
 (39,⟨T39,[(0,1),(1,3),(4,1),(5,1)],0,120⟩),
 (40,⟨T40,[(0,1),(1,3),(4,1),(5,1)],0,120⟩),
 (41,⟨T41,[],0,8⟩),
 (43,⟨T43,[],0,8⟩),
 (44,⟨T44,[],0,8⟩),
 (45,⟨T45,[],0,8⟩),
 (46,⟨T46,[],0,8⟩),
 (47,⟨T47,[],0,8⟩),
 (48,⟨T48,[],0,8⟩),
 (49,⟨T49,[],0,8⟩),
 (50,⟨T50,[],0,8⟩),
 (51,⟨T51,[],288,24⟩),
 (52,⟨T52,[(0,1),(1,1)],0,32⟩),
 (53,⟨T53,[(0,1),(1,1)],0,32⟩),
 (54,⟨T54,[(0,1),(1,2),(3,1)],0,72⟩),
 (55,⟨T55,[(0,1),(1,2),(3,1)],0,72⟩),
 (56,⟨T56,[],0,8⟩),
 (57,⟨T57,[],0,8⟩),
 (58,⟨T58,[],0,8⟩),
 (59,⟨T59,[],0,8⟩),
 (60,⟨T60,[],0,8⟩),
 (61,⟨F1,[],3,24⟩),
 (63,⟨T63,[],0,8⟩),
 (65,⟨T65,[],0,8⟩),
 (66,⟨T66,[],0,8⟩),
 (67,⟨T67,[],0,8⟩),
 (68,⟨T68,[],0,8⟩),
 (70,⟨T70,[],0,8⟩),
 (71,⟨T71,[],0,8⟩),
 (72,⟨T72,[],0,8⟩),
 (73,⟨T73,[],0,8⟩),
 (74,⟨T74,[],0,8⟩),
 (75,⟨T75,[],0,8⟩),
 (76,⟨T76,[],0,8⟩),
 (78,⟨T78,[],0,8⟩),
 (80,⟨T80,[],0,8⟩),
 (81,⟨T81,[],0,8⟩),
 (82,⟨T82,[],0,8⟩),
 (84,⟨T84,[],0,8⟩),
 (85,⟨T85,[],0,8⟩),
 (87,⟨T87,[],0,8⟩),
 (89,⟨T89,[],0,8⟩),
 (90,⟨T90,[],0,8⟩),
 (91,⟨Cm,[],106,24⟩),
 (92,⟨T92,[(0,1),(1,1)],0,32⟩),
 (93,⟨Hd,[(0,1),(1,1)],0,32⟩),
 (94,⟨T94,[],0,8⟩),
 (95,⟨GH,[],9,24⟩),
 (96,⟨T96,[],0,8⟩),
 (97,⟨T97,[],0,8⟩),
 (98,⟨T98,[],0,8⟩),
 (99,⟨T99,[],0,8⟩),
 (100,⟨AAK,[],0,8⟩),
 (101,⟨AAL,[],0,8⟩),
 (103,⟨AAM,[],0,8⟩),
 (104,⟨AAN,[],0,8⟩),
 (105,⟨AAO,[(0,1),(1,1)],0,16⟩),
 (106,⟨AU,[(0,1),(1,1)],0,16⟩),
 (107,⟨AAP,[],0,8⟩),
 (108,⟨AAQ,[],0,8⟩),
 (109,⟨A60,[],91,24⟩),
 (110,⟨AD1,[(0,2),(2,1),(3,1),(4,1)],0,120⟩),
 (111,⟨AD2,[(0,2),(2,1),(3,1),(4,1)],0,120⟩),
 (112,⟨AAR,[],0,8⟩),
 (113,⟨AAS,[],0,8⟩),
 (114,⟨AD3,[(0,2),(2,1),(3,1),(4,1),(5,1),(6,1),(7,1),(8,1),(9,1)],0,112⟩),
 (115,⟨WE,[(0,2),(2,1),(3,1),(4,1),(5,1),(6,1),(7,1),(8,1),(9,1)],0,112⟩),
 (117,⟨AAT,[],0,8⟩),
 (118,⟨AAU,[],0,8⟩),
 (119,⟨AAV,[(3,4)],0,8⟩),
 (120,⟨AAW,[],0,8⟩),
 (121,⟨AAX,[],0,8⟩),
 (122,⟨AAY,[],0,8⟩),
 (123,⟨AAZ,[],0,8⟩),
 (124,⟨AB0,[],0,8⟩),
 (125,⟨AB1,[],0,8⟩),
 (126,⟨AB2,[],0,8⟩),
 (127,⟨AB3,[],0,8⟩),
 (128,⟨AB4,[],0,8⟩),
 (129,⟨AB5,[],0,8⟩),
 (130,⟨AB6,[],0,8⟩),
 (132,⟨AB7,[],0,8⟩),
 (133,⟨AB8,[],0,8⟩),
 (134,⟨AB9,[],0,8⟩),
 (136,⟨ABa,[],0,8⟩),
 (137,⟨ABb,[],0,8⟩),
 (138,⟨ABc,[],0,8⟩),
 (139,⟨ACX,[],186,24⟩),
 (140,⟨BG,[],186,24⟩),
 (141,⟨ABd,[],0,8⟩),
 (142,⟨bF,[],170,24⟩),
 (143,⟨ACY,[(0,1),(1,1),(2,1),(3,1)],0,88⟩),
 (144,⟨mW,[(0,1),(1,1),(2,1),(3,1)],0,88⟩),
 (145,⟨A61,[],142,24⟩),
 (147,⟨ABe,[],0,8⟩),
 (148,⟨KA,[],152,24⟩),
 (150,⟨ABf,[],0,8⟩),
 (151,⟨ACZ,[(0,1),(1,1)],0,40⟩),
 (152,⟨bG,[(0,1),(1,1)],0,40⟩),
 (153,⟨ABg,[],0,8⟩),
 (155,⟨ABh,[],0,8⟩),
 (156,⟨fZ,[],161,24⟩),
 (157,⟨AD0,[(0,1),(1,1),(2,1)],0,64⟩),
 (158,⟨A0h,[(0,1),(1,1),(2,1)],0,64⟩),
 (159,⟨ABi,[],0,8⟩),
 (160,⟨ABj,[(0,1),(1,1)],0,32⟩),
 (161,⟨mV,[(0,1),(1,1)],0,32⟩),
 (162,⟨ABk,[(0,1),(1,1)],0,24⟩),
 (163,⟨A2N,[(0,1),(1,1)],0,24⟩),
 (164,⟨ABl,[],0,8⟩),
 (165,⟨ABm,[],0,8⟩),
 (166,⟨ABn,[],0,8⟩),
 (167,⟨ABo,[],0,8⟩),
 (168,⟨ABp,[],0,8⟩),
 (169,⟨ABq,[(0,1),(1,1)],0,16⟩),
 (170,⟨A2O,[(0,1),(1,1)],0,16⟩),
 (171,⟨ABr,[],0,8⟩),
 (172,⟨R6,[(0,1),(1,1)],3,16⟩),
 (173,⟨ABs,[],172,24⟩),
 (174,⟨ABt,[],0,8⟩),
 (175,⟨ABu,[],0,8⟩),
 (176,⟨ABv,[],0,8⟩),
 (177,⟨ABw,[(3,3)],0,8⟩),
 (178,⟨ABx,[],0,8⟩),
 (179,⟨ABy,[],0,8⟩),
 (180,⟨ABz,[],0,8⟩),
 (181,⟨ABA,[],0,8⟩),
 (182,⟨ABB,[],0,8⟩),
 (183,⟨AD4,[(0,1),(1,1),(2,1)],0,72⟩),
 (184,⟨AD5,[(0,1),(1,1),(2,1)],0,72⟩),
 (185,⟨ABC,[],0,8⟩),
 (186,⟨QU,[],0,8⟩),
 (187,⟨ABD,[],0,8⟩),
 (188,⟨ABE,[],0,8⟩),
 (189,⟨ABF,[],0,8⟩),
 (190,⟨ABG,[],0,8⟩),
 (192,⟨ABH,[],0,8⟩),
 (193,⟨ABI,[],0,8⟩),
 (194,⟨UQ,[],140,24⟩),
 (195,⟨ABJ,[],0,8⟩),
 (196,⟨ABK,[],0,8⟩),
 (197,⟨ABL,[],0,8⟩),
 (198,⟨ABM,[],0,8⟩),
 (199,⟨ABN,[],0,8⟩),
 (201,⟨ABO,[],0,8⟩),
 (202,⟨ABP,[],0,8⟩),
 (203,⟨ABQ,[],0,8⟩),
 (204,⟨AD6,[(0,2),(2,1),(3,1)],0,96⟩),
 (205,⟨AD7,[(0,2),(2,1),(3,1)],0,96⟩),
 (206,⟨ABR,[],0,8⟩),
 (207,⟨ABS,[],0,8⟩),
 (208,⟨ABT,[],0,8⟩),
 (209,⟨ABU,[],0,8⟩),
 (210,⟨ABV,[],0,8⟩),
 (211,⟨ABW,[],0,8⟩),
 (212,⟨ABX,[],0,8⟩),
 (213,⟨ABY,[],0,8⟩),
 (214,⟨ABZ,[],0,8⟩),
 (215,⟨AC0,[],0,8⟩),
 (216,⟨AC1,[],0,8⟩),
 (217,⟨AC2,[],0,8⟩),
 (218,⟨AC3,[],0,8⟩),
 (219,⟨AC4,[],0,8⟩),
 (220,⟨AC5,[],0,8⟩),
 (221,⟨AC6,[],0,8⟩),
 (222,⟨AC7,[],0,8⟩),
 (223,⟨AC8,[],0,8⟩),
 (224,⟨AC9,[],0,8⟩),
 (225,⟨ACa,[],0,8⟩),
 (226,⟨ACb,[],0,8⟩),
 (228,⟨ACc,[],0,8⟩),
 (229,⟨ACd,[],0,8⟩),
 (230,⟨ACe,[],0,8⟩),
 (231,⟨ACf,[],0,8⟩),
 (232,⟨ACg,[],0,8⟩),
 (233,⟨ACh,[],0,8⟩),
 (234,⟨ACi,[],0,8⟩),
 (235,⟨ACj,[],0,8⟩),
 (236,⟨ACk,[],0,8⟩),
 (237,⟨ACl,[],0,8⟩),
 (238,⟨ACm,[],0,8⟩),
 (239,⟨ACn,[],0,8⟩),
 (240,⟨ACo,[],0,8⟩),
 (241,⟨ACp,[],0,8⟩),
 (242,⟨ACq,[],0,8⟩),
 (243,⟨ACr,[],0,8⟩),
 (244,⟨ACs,[],0,8⟩),
 (245,⟨ACt,[],0,8⟩),
 (246,⟨ACu,[],0,8⟩),
 (247,⟨ACv,[],0,8⟩),
 (248,⟨ACw,[],0,8⟩),
 (249,⟨ACx,[],0,8⟩),
 (250,⟨ACy,[],0,8⟩),
 (251,⟨ACz,[],0,8⟩),
 (252,⟨ACA,[],0,8⟩),
 (254,⟨ACB,[],0,8⟩),
 (255,⟨ACC,[],0,8⟩),
 (256,⟨ACD,[],0,8⟩),
 (257,⟨ACE,[],0,8⟩),
 (258,⟨ACF,[],0,8⟩),
 (259,⟨ACG,[],0,4⟩),
 (260,⟨ACH,[],0,8⟩),
 (261,⟨ACI,[],0,8⟩),
 (262,⟨ACJ,[],0,8⟩),
 (263,⟨ACK,[],0,8⟩),
 (264,⟨ACL,[],0,8⟩),
 (265,⟨ACM,[],0,8⟩),
 (266,⟨ACN,[],0,8⟩),
 (267,⟨ACO,[],0,8⟩),
 (268,⟨ACP,[],0,8⟩),
 (269,⟨ACQ,[],0,8⟩),
 (271,⟨ACR,[],0,8⟩),
 (272,⟨ACS,[],0,8⟩),
 (278,⟨ACT,[],0,8⟩),
 (281,⟨ACU,[],0,8⟩),
 (282,⟨ACV,[],0,8⟩),
 (287,⟨ACW,[(0,1),(1,1)],0,32⟩),
 (288,⟨A9z,[(0,1),(1,1)],0,32⟩)]
theorem tyTab_ok (f) (a:List Nat) (b:List Nat:=[]) (ne:List (Nat×TypeId):=[]):DH Tryz.prog ⟨AI,f,b,ne,a⟩:=A5q (by kernel_rfl)
theorem drawsAny:Tryz.prog.follows .mixedOrders=true:=by kernel_rfl
theorem ty1:lk 1 AI=some ⟨T1,[],0,8⟩:=rfl
theorem ty2:lk 2 AI=some ⟨T2,[],0,8⟩:=rfl
theorem ty3:lk 3 AI=some ⟨T3,[],0,8⟩:=rfl
theorem ty4:lk 4 AI=some ⟨T4,[],0,1⟩:=rfl
theorem ty5:lk 5 AI=some ⟨T5,[],0,1⟩:=rfl
theorem ty9:lk 9 AI=some ⟨T9,[],0,16⟩:=rfl
theorem A62:lk 12 AI=some ⟨T12,[],0,8⟩:=rfl
theorem A63:lk 21 AI=some ⟨T21,[],0,4⟩:=rfl
theorem A64:lk 22 AI=some ⟨E8,[],158,24⟩:=rfl
theorem A65:lk 23 AI=some ⟨G2,[],93,24⟩:=rfl
theorem A66:lk 24 AI=some ⟨T24,[(0,1)],0,24⟩:=rfl
theorem A67:lk 25 AI=some ⟨DE,[(0,1)],0,24⟩:=rfl
theorem A68:lk 26 AI=some ⟨T26,[(0,1),(1,1),(2,1)],0,48⟩:=rfl
theorem A69:lk 27 AI=some ⟨T27,[(0,1),(1,1),(2,1)],0,48⟩:=rfl
theorem A6a:lk 28 AI=some ⟨lF,[],144,24⟩:=rfl
theorem A6b:lk 29 AI=some ⟨rE,[],163,24⟩:=rfl
theorem A6c:lk 30 AI=some ⟨T30,[(0,1),(1,1)],0,48⟩:=rfl
theorem A6d:lk 31 AI=some ⟨Dn,[(0,1),(1,1)],0,48⟩:=rfl
theorem A6e:lk 32 AI=some ⟨T32,[],0,8⟩:=rfl
theorem A6f:lk 33 AI=some ⟨T33,[],0,8⟩:=rfl
theorem A6g:lk 34 AI=some ⟨T34,[],0,8⟩:=rfl
theorem A6h:lk 35 AI=some ⟨GI,[],0,8⟩:=rfl
theorem A6i:lk 36 AI=some ⟨T36,[],0,8⟩:=rfl
theorem A6j:lk 37 AI=some ⟨T37,[],0,8⟩:=rfl
theorem A6k:lk 38 AI=some ⟨Ni,[],25,24⟩:=rfl
theorem A6l:lk 39 AI=some ⟨T39,[(0,1),(1,3),(4,1),(5,1)],0,120⟩:=rfl
theorem A6m:lk 40 AI=some ⟨T40,[(0,1),(1,3),(4,1),(5,1)],0,120⟩:=rfl
theorem A6n:lk 41 AI=some ⟨T41,[],0,8⟩:=rfl
theorem A6o:lk 43 AI=some ⟨T43,[],0,8⟩:=rfl
theorem A6p:lk 44 AI=some ⟨T44,[],0,8⟩:=rfl
theorem A6q:lk 45 AI=some ⟨T45,[],0,8⟩:=rfl
theorem A6r:lk 46 AI=some ⟨T46,[],0,8⟩:=rfl
theorem A6s:lk 47 AI=some ⟨T47,[],0,8⟩:=rfl
theorem A6t:lk 48 AI=some ⟨T48,[],0,8⟩:=rfl
theorem A6u:lk 49 AI=some ⟨T49,[],0,8⟩:=rfl
theorem A6v:lk 50 AI=some ⟨T50,[],0,8⟩:=rfl
theorem A6w:lk 51 AI=some ⟨T51,[],288,24⟩:=rfl
theorem A6x:lk 52 AI=some ⟨T52,[(0,1),(1,1)],0,32⟩:=rfl
theorem A6y:lk 53 AI=some ⟨T53,[(0,1),(1,1)],0,32⟩:=rfl
theorem A6z:lk 54 AI=some ⟨T54,[(0,1),(1,2),(3,1)],0,72⟩:=rfl
theorem A6A:lk 55 AI=some ⟨T55,[(0,1),(1,2),(3,1)],0,72⟩:=rfl
theorem A6B:lk 56 AI=some ⟨T56,[],0,8⟩:=rfl
theorem A6C:lk 57 AI=some ⟨T57,[],0,8⟩:=rfl
theorem A6D:lk 58 AI=some ⟨T58,[],0,8⟩:=rfl
theorem A6E:lk 59 AI=some ⟨T59,[],0,8⟩:=rfl
theorem A6F:lk 60 AI=some ⟨T60,[],0,8⟩:=rfl
theorem A6G:lk 61 AI=some ⟨F1,[],3,24⟩:=rfl
theorem A6H:lk 63 AI=some ⟨T63,[],0,8⟩:=rfl
theorem A6I:lk 65 AI=some ⟨T65,[],0,8⟩:=rfl
theorem A6J:lk 66 AI=some ⟨T66,[],0,8⟩:=rfl
theorem A6K:lk 67 AI=some ⟨T67,[],0,8⟩:=rfl
theorem A6L:lk 68 AI=some ⟨T68,[],0,8⟩:=rfl
theorem A6M:lk 70 AI=some ⟨T70,[],0,8⟩:=rfl
theorem A6N:lk 71 AI=some ⟨T71,[],0,8⟩:=rfl
theorem A6O:lk 72 AI=some ⟨T72,[],0,8⟩:=rfl
theorem A6P:lk 73 AI=some ⟨T73,[],0,8⟩:=rfl
theorem A6Q:lk 74 AI=some ⟨T74,[],0,8⟩:=rfl
theorem A6R:lk 75 AI=some ⟨T75,[],0,8⟩:=rfl
theorem A6S:lk 76 AI=some ⟨T76,[],0,8⟩:=rfl
theorem A6T:lk 78 AI=some ⟨T78,[],0,8⟩:=rfl
theorem A6U:lk 80 AI=some ⟨T80,[],0,8⟩:=rfl
theorem A6V:lk 81 AI=some ⟨T81,[],0,8⟩:=rfl
theorem A6W:lk 82 AI=some ⟨T82,[],0,8⟩:=rfl
theorem A6X:lk 84 AI=some ⟨T84,[],0,8⟩:=rfl
theorem A6Y:lk 85 AI=some ⟨T85,[],0,8⟩:=rfl
theorem A6Z:lk 87 AI=some ⟨T87,[],0,8⟩:=rfl
theorem A70:lk 89 AI=some ⟨T89,[],0,8⟩:=rfl
theorem A71:lk 90 AI=some ⟨T90,[],0,8⟩:=rfl
theorem A72:lk 91 AI=some ⟨Cm,[],106,24⟩:=rfl
theorem A73:lk 92 AI=some ⟨T92,[(0,1),(1,1)],0,32⟩:=rfl
theorem A74:lk 93 AI=some ⟨Hd,[(0,1),(1,1)],0,32⟩:=rfl
theorem A75:lk 94 AI=some ⟨T94,[],0,8⟩:=rfl
theorem A76:lk 95 AI=some ⟨GH,[],9,24⟩:=rfl
theorem A77:lk 96 AI=some ⟨T96,[],0,8⟩:=rfl
theorem A78:lk 97 AI=some ⟨T97,[],0,8⟩:=rfl
theorem A79:lk 98 AI=some ⟨T98,[],0,8⟩:=rfl
theorem A7a:lk 99 AI=some ⟨T99,[],0,8⟩:=rfl
theorem rF:lk 100 AI=some ⟨AAK,[],0,8⟩:=rfl
theorem rG:lk 101 AI=some ⟨AAL,[],0,8⟩:=rfl
theorem rH:lk 103 AI=some ⟨AAM,[],0,8⟩:=rfl
theorem rI:lk 104 AI=some ⟨AAN,[],0,8⟩:=rfl
theorem rJ:lk 105 AI=some ⟨AAO,[(0,1),(1,1)],0,16⟩:=rfl
theorem rK:lk 106 AI=some ⟨AU,[(0,1),(1,1)],0,16⟩:=rfl
theorem rO:lk 107 AI=some ⟨AAP,[],0,8⟩:=rfl
theorem rQ:lk 108 AI=some ⟨AAQ,[],0,8⟩:=rfl
theorem rR:lk 109 AI=some ⟨A60,[],91,24⟩:=rfl
theorem rS:lk 110 AI=some ⟨AD1,[(0,2),(2,1),(3,1),(4,1)],0,120⟩:=rfl
theorem rT:lk 111 AI=some ⟨AD2,[(0,2),(2,1),(3,1),(4,1)],0,120⟩:=rfl
theorem rU:lk 112 AI=some ⟨AAR,[],0,8⟩:=rfl
theorem rV:lk 113 AI=some ⟨AAS,[],0,8⟩:=rfl
theorem rW:lk 114 AI=some ⟨AD3,[(0,2),(2,1),(3,1),(4,1),(5,1),(6,1),(7,1),(8,1),(9,1)],0,112⟩:=rfl
theorem rZ:lk 115 AI=some ⟨WE,[(0,2),(2,1),(3,1),(4,1),(5,1),(6,1),(7,1),(8,1),(9,1)],0,112⟩:=rfl
theorem r7:lk 117 AI=some ⟨AAT,[],0,8⟩:=rfl
theorem r8:lk 118 AI=some ⟨AAU,[],0,8⟩:=rfl
theorem r9:lk 119 AI=some ⟨AAV,[(3,4)],0,8⟩:=rfl
theorem sC:lk 120 AI=some ⟨AAW,[],0,8⟩:=rfl
theorem sD:lk 121 AI=some ⟨AAX,[],0,8⟩:=rfl
theorem sE:lk 122 AI=some ⟨AAY,[],0,8⟩:=rfl
theorem sF:lk 123 AI=some ⟨AAZ,[],0,8⟩:=rfl
theorem sG:lk 124 AI=some ⟨AB0,[],0,8⟩:=rfl
theorem sH:lk 125 AI=some ⟨AB1,[],0,8⟩:=rfl
theorem sI:lk 126 AI=some ⟨AB2,[],0,8⟩:=rfl
theorem sJ:lk 127 AI=some ⟨AB3,[],0,8⟩:=rfl
theorem sK:lk 128 AI=some ⟨AB4,[],0,8⟩:=rfl
theorem sL:lk 129 AI=some ⟨AB5,[],0,8⟩:=rfl
theorem sM:lk 130 AI=some ⟨AB6,[],0,8⟩:=rfl
theorem sO:lk 132 AI=some ⟨AB7,[],0,8⟩:=rfl
theorem sP:lk 133 AI=some ⟨AB8,[],0,8⟩:=rfl
theorem sQ:lk 134 AI=some ⟨AB9,[],0,8⟩:=rfl
theorem sR:lk 136 AI=some ⟨ABa,[],0,8⟩:=rfl
theorem sS:lk 137 AI=some ⟨ABb,[],0,8⟩:=rfl
theorem sT:lk 138 AI=some ⟨ABc,[],0,8⟩:=rfl
theorem sU:lk 139 AI=some ⟨ACX,[],186,24⟩:=rfl
theorem sV:lk 140 AI=some ⟨BG,[],186,24⟩:=rfl
theorem sW:lk 141 AI=some ⟨ABd,[],0,8⟩:=rfl
theorem sY:lk 142 AI=some ⟨bF,[],170,24⟩:=rfl
theorem sZ:lk 143 AI=some ⟨ACY,[(0,1),(1,1),(2,1),(3,1)],0,88⟩:=rfl
theorem s5:lk 144 AI=some ⟨mW,[(0,1),(1,1),(2,1),(3,1)],0,88⟩:=rfl
theorem s6:lk 145 AI=some ⟨A61,[],142,24⟩:=rfl
theorem s7:lk 147 AI=some ⟨ABe,[],0,8⟩:=rfl
theorem s8:lk 148 AI=some ⟨KA,[],152,24⟩:=rfl
theorem s9:lk 150 AI=some ⟨ABf,[],0,8⟩:=rfl
theorem tA:lk 151 AI=some ⟨ACZ,[(0,1),(1,1)],0,40⟩:=rfl
theorem tB:lk 152 AI=some ⟨bG,[(0,1),(1,1)],0,40⟩:=rfl
theorem tC:lk 153 AI=some ⟨ABg,[],0,8⟩:=rfl
theorem tD:lk 155 AI=some ⟨ABh,[],0,8⟩:=rfl
theorem tE:lk 156 AI=some ⟨fZ,[],161,24⟩:=rfl
theorem tF:lk 157 AI=some ⟨AD0,[(0,1),(1,1),(2,1)],0,64⟩:=rfl
theorem tG:lk 158 AI=some ⟨A0h,[(0,1),(1,1),(2,1)],0,64⟩:=rfl
theorem tH:lk 159 AI=some ⟨ABi,[],0,8⟩:=rfl
theorem tI:lk 160 AI=some ⟨ABj,[(0,1),(1,1)],0,32⟩:=rfl
theorem tJ:lk 161 AI=some ⟨mV,[(0,1),(1,1)],0,32⟩:=rfl
theorem tK:lk 162 AI=some ⟨ABk,[(0,1),(1,1)],0,24⟩:=rfl
theorem tL:lk 163 AI=some ⟨A2N,[(0,1),(1,1)],0,24⟩:=rfl
theorem tM:lk 164 AI=some ⟨ABl,[],0,8⟩:=rfl
theorem tQ:lk 165 AI=some ⟨ABm,[],0,8⟩:=rfl
theorem tR:lk 166 AI=some ⟨ABn,[],0,8⟩:=rfl
theorem tS:lk 167 AI=some ⟨ABo,[],0,8⟩:=rfl
theorem tT:lk 168 AI=some ⟨ABp,[],0,8⟩:=rfl
theorem tU:lk 169 AI=some ⟨ABq,[(0,1),(1,1)],0,16⟩:=rfl
theorem tV:lk 170 AI=some ⟨A2O,[(0,1),(1,1)],0,16⟩:=rfl
theorem tW:lk 171 AI=some ⟨ABr,[],0,8⟩:=rfl
theorem tY:lk 172 AI=some ⟨R6,[(0,1),(1,1)],3,16⟩:=rfl
theorem tZ:lk 173 AI=some ⟨ABs,[],172,24⟩:=rfl
theorem t4:lk 174 AI=some ⟨ABt,[],0,8⟩:=rfl
theorem t5:lk 175 AI=some ⟨ABu,[],0,8⟩:=rfl
theorem t6:lk 176 AI=some ⟨ABv,[],0,8⟩:=rfl
theorem t7:lk 177 AI=some ⟨ABw,[(3,3)],0,8⟩:=rfl
theorem t8:lk 178 AI=some ⟨ABx,[],0,8⟩:=rfl
theorem t9:lk 179 AI=some ⟨ABy,[],0,8⟩:=rfl
theorem uA:lk 180 AI=some ⟨ABz,[],0,8⟩:=rfl
theorem uB:lk 181 AI=some ⟨ABA,[],0,8⟩:=rfl
theorem uC:lk 182 AI=some ⟨ABB,[],0,8⟩:=rfl
theorem uD:lk 183 AI=some ⟨AD4,[(0,1),(1,1),(2,1)],0,72⟩:=rfl
theorem uE:lk 184 AI=some ⟨AD5,[(0,1),(1,1),(2,1)],0,72⟩:=rfl
theorem uF:lk 185 AI=some ⟨ABC,[],0,8⟩:=rfl
theorem uG:lk 186 AI=some ⟨QU,[],0,8⟩:=rfl
theorem uH:lk 187 AI=some ⟨ABD,[],0,8⟩:=rfl
theorem uI:lk 188 AI=some ⟨ABE,[],0,8⟩:=rfl
theorem uJ:lk 189 AI=some ⟨ABF,[],0,8⟩:=rfl
theorem uK:lk 190 AI=some ⟨ABG,[],0,8⟩:=rfl
theorem uL:lk 192 AI=some ⟨ABH,[],0,8⟩:=rfl
theorem uM:lk 193 AI=some ⟨ABI,[],0,8⟩:=rfl
theorem uN:lk 194 AI=some ⟨UQ,[],140,24⟩:=rfl
theorem uP:lk 195 AI=some ⟨ABJ,[],0,8⟩:=rfl
theorem uQ:lk 196 AI=some ⟨ABK,[],0,8⟩:=rfl
theorem uR:lk 197 AI=some ⟨ABL,[],0,8⟩:=rfl
theorem uS:lk 198 AI=some ⟨ABM,[],0,8⟩:=rfl
theorem uT:lk 199 AI=some ⟨ABN,[],0,8⟩:=rfl
theorem uU:lk 201 AI=some ⟨ABO,[],0,8⟩:=rfl
theorem uV:lk 202 AI=some ⟨ABP,[],0,8⟩:=rfl
theorem uW:lk 203 AI=some ⟨ABQ,[],0,8⟩:=rfl
theorem uX:lk 204 AI=some ⟨AD6,[(0,2),(2,1),(3,1)],0,96⟩:=rfl
theorem uY:lk 205 AI=some ⟨AD7,[(0,2),(2,1),(3,1)],0,96⟩:=rfl
theorem uZ:lk 206 AI=some ⟨ABR,[],0,8⟩:=rfl
theorem u3:lk 207 AI=some ⟨ABS,[],0,8⟩:=rfl
theorem u4:lk 208 AI=some ⟨ABT,[],0,8⟩:=rfl
theorem u5:lk 209 AI=some ⟨ABU,[],0,8⟩:=rfl
theorem u6:lk 210 AI=some ⟨ABV,[],0,8⟩:=rfl
theorem u7:lk 211 AI=some ⟨ABW,[],0,8⟩:=rfl
theorem u9:lk 212 AI=some ⟨ABX,[],0,8⟩:=rfl
theorem vC:lk 213 AI=some ⟨ABY,[],0,8⟩:=rfl
theorem vE:lk 214 AI=some ⟨ABZ,[],0,8⟩:=rfl
theorem vF:lk 215 AI=some ⟨AC0,[],0,8⟩:=rfl
theorem vG:lk 216 AI=some ⟨AC1,[],0,8⟩:=rfl
theorem vH:lk 217 AI=some ⟨AC2,[],0,8⟩:=rfl
theorem vI:lk 218 AI=some ⟨AC3,[],0,8⟩:=rfl
theorem vJ:lk 219 AI=some ⟨AC4,[],0,8⟩:=rfl
theorem vL:lk 220 AI=some ⟨AC5,[],0,8⟩:=rfl
theorem vO:lk 221 AI=some ⟨AC6,[],0,8⟩:=rfl
theorem vP:lk 222 AI=some ⟨AC7,[],0,8⟩:=rfl
theorem vQ:lk 223 AI=some ⟨AC8,[],0,8⟩:=rfl
theorem vS:lk 224 AI=some ⟨AC9,[],0,8⟩:=rfl
theorem vU:lk 225 AI=some ⟨ACa,[],0,8⟩:=rfl
theorem vV:lk 226 AI=some ⟨ACb,[],0,8⟩:=rfl
theorem vW:lk 228 AI=some ⟨ACc,[],0,8⟩:=rfl
theorem vY:lk 229 AI=some ⟨ACd,[],0,8⟩:=rfl
theorem vZ:lk 230 AI=some ⟨ACe,[],0,8⟩:=rfl
theorem v5:lk 231 AI=some ⟨ACf,[],0,8⟩:=rfl
theorem v6:lk 232 AI=some ⟨ACg,[],0,8⟩:=rfl
theorem v7:lk 233 AI=some ⟨ACh,[],0,8⟩:=rfl
theorem v8:lk 234 AI=some ⟨ACi,[],0,8⟩:=rfl
theorem v9:lk 235 AI=some ⟨ACj,[],0,8⟩:=rfl
theorem wA:lk 236 AI=some ⟨ACk,[],0,8⟩:=rfl
theorem wB:lk 237 AI=some ⟨ACl,[],0,8⟩:=rfl
theorem wC:lk 238 AI=some ⟨ACm,[],0,8⟩:=rfl
theorem wD:lk 239 AI=some ⟨ACn,[],0,8⟩:=rfl
theorem wF:lk 240 AI=some ⟨ACo,[],0,8⟩:=rfl
theorem wG:lk 241 AI=some ⟨ACp,[],0,8⟩:=rfl
theorem wH:lk 242 AI=some ⟨ACq,[],0,8⟩:=rfl
theorem wI:lk 243 AI=some ⟨ACr,[],0,8⟩:=rfl
theorem wJ:lk 244 AI=some ⟨ACs,[],0,8⟩:=rfl
theorem wK:lk 245 AI=some ⟨ACt,[],0,8⟩:=rfl
theorem wL:lk 246 AI=some ⟨ACu,[],0,8⟩:=rfl
theorem wM:lk 247 AI=some ⟨ACv,[],0,8⟩:=rfl
theorem wN:lk 248 AI=some ⟨ACw,[],0,8⟩:=rfl
theorem wP:lk 249 AI=some ⟨ACx,[],0,8⟩:=rfl
theorem wQ:lk 250 AI=some ⟨ACy,[],0,8⟩:=rfl
theorem wR:lk 251 AI=some ⟨ACz,[],0,8⟩:=rfl
theorem wS:lk 252 AI=some ⟨ACA,[],0,8⟩:=rfl
theorem wT:lk 254 AI=some ⟨ACB,[],0,8⟩:=rfl
theorem wU:lk 255 AI=some ⟨ACC,[],0,8⟩:=rfl
theorem wV:lk 256 AI=some ⟨ACD,[],0,8⟩:=rfl
theorem wW:lk 257 AI=some ⟨ACE,[],0,8⟩:=rfl
theorem wX:lk 258 AI=some ⟨ACF,[],0,8⟩:=rfl
theorem wY:lk 259 AI=some ⟨ACG,[],0,4⟩:=rfl
theorem wZ:lk 260 AI=some ⟨ACH,[],0,8⟩:=rfl
theorem w5:lk 261 AI=some ⟨ACI,[],0,8⟩:=rfl
theorem w6:lk 262 AI=some ⟨ACJ,[],0,8⟩:=rfl
theorem w9:lk 263 AI=some ⟨ACK,[],0,8⟩:=rfl
theorem xA:lk 264 AI=some ⟨ACL,[],0,8⟩:=rfl
theorem xB:lk 265 AI=some ⟨ACM,[],0,8⟩:=rfl
theorem xC:lk 266 AI=some ⟨ACN,[],0,8⟩:=rfl
theorem xE:lk 267 AI=some ⟨ACO,[],0,8⟩:=rfl
theorem xF:lk 268 AI=some ⟨ACP,[],0,8⟩:=rfl
theorem xG:lk 269 AI=some ⟨ACQ,[],0,8⟩:=rfl
theorem xH:lk 271 AI=some ⟨ACR,[],0,8⟩:=rfl
theorem xI:lk 272 AI=some ⟨ACS,[],0,8⟩:=rfl
theorem xJ:lk 278 AI=some ⟨ACT,[],0,8⟩:=rfl
theorem xL:lk 281 AI=some ⟨ACU,[],0,8⟩:=rfl
theorem xM:lk 282 AI=some ⟨ACV,[],0,8⟩:=rfl
theorem xN:lk 287 AI=some ⟨ACW,[(0,1),(1,1)],0,32⟩:=rfl
theorem xO:lk 288 AI=some ⟨A9z,[(0,1),(1,1)],0,32⟩:=rfl
end
section
open Go Go.RowKit
section
variable {c:Cx} {R:Exit->Act->World->Prop} {k:List DU} {σ σ':St}
end
end
section
open Go Go.RowKit Go.ChangeShapes Go.WideShapes
set_option maxRecDepth 100000
def xP (r:Ty->TypeId->Bool) (P:Program):Ty->Nat->List Field->Bool
 | .prod a b,o,fs=>match fs with
  | f :: fs=>f.offset==o&&P.cellsOf f.type==a.size&&r a f.type&&xP r P b (o+a.size) fs
  | []=>false
 | s,o,[f]=>f.offset==o&&P.cellsOf f.type==s.size&&r s f.type
 | _,_,_=>false
def A0i (P:Program) (m:Nat) (e:TypeId):List Field:=(List.range m).map λi=>{ (default:Field) with offset:=i*P.cellsOf e,type:=e }
def rd (P:Program):Nat->Ty->TypeId->Bool
 | 0,_,_=>false
 | _+1,.int k,t=>isI k (P.underlying t)
 | _+1,.bool,t=>match P.underlying t with|some .bool=>true|_=>false
 | _+1,.str,t=>match P.underlying t with|some .string=>true|_=>false
 | n+1,.slice e,t=>match P.underlying t with|some (.slice et)=>decide (0<P.bytesOf et)&&P.cellsOf et==e.size&&rd P n e et|_=>false
 | n+1,.agg s,t=>match P.underlying t with|some (.struct fs)=>P.cellsOf t==s.size&&xP (rd P n) P s 0 fs.toList|some (.array m e)=>P.cellsOf t==s.size&&xP (rd P n) P s 0 (A0i P m e)|_=>false
 | _+1,_,_=>false
theorem xQ {P:Program} {n:Nat} {t:TypeId} (h:rd P (n+1) .bool t=true):P.underlying t=some .bool:=by
 simp only[rd]at h;split at h
 .assumption
 cases h
theorem A2P {P:Program} {n:Nat} {t:TypeId} (h:rd P (n+1) .str t=true):P.underlying t=some .string:=by
 simp only[rd]at h;split at h
 .assumption
 cases h
theorem f5 {P:Program} {n:Nat} {e:Ty} {t:TypeId} (h:rd P (n+1) (.slice e) t=true):∃et,P.underlying t=some (.slice et)/\0<P.bytesOf et/\P.cellsOf et=e.size/\rd P n e et=true:=by
 simp only[rd]at h;split at h
 .rename_i et hu;simp only[An,Do,S1]at h;exact⟨et,hu,h.1.1,h.1.2,h.2⟩
 cases h
theorem A2Q {P:Program} {n:Nat} {s:Ty} {t:TypeId} (h:rd P (n+1) (.agg s) t=true):(∃fs,P.underlying t=some (.struct fs)/\P.cellsOf t=s.size/\xP (rd P n) P s 0 fs.toList=true)\/∃m e,P.underlying t=some (.array m e)/\P.cellsOf t=s.size/\xP (rd P n) P s 0 (A0i P m e)=true:=by
 simp only[rd]at h;split at h
 .rename_i fs hu;simp only[An,S1]at h;exact .inl ⟨fs,hu,h.1,h.2⟩
 .rename_i m e hu;simp only[An,S1]at h;exact .inr ⟨m,e,hu,h.1,h.2⟩
 cases h
theorem A0j {w:World} {base:Nat} {a:Addr} {n:Nat} {cs:List Value} (h:w.cells? base a n=some cs):cs.length=n/\∀(j:Nat) (v:Value),cs[j]?=some v->w.cell? (a.add j)=some v:=by
 unfold World.cells? at h;split at h
 .have h1:=mapM_some_length h;simp only[AEO]at h1;refine⟨h1,λj v b=>?_⟩;have c:j<n:=by
   obtain⟨c,_⟩:=RF.1 b;omega
  rw[mapM_some_get h j j (by simp[c]),b]
 cases h
section
variable {H:Type} {enc:TypeId×Value->H} {P:Program} {w:World} {spare:Nat->Bool} {held:Bool}
theorem f6 {e:TypeId}:∀ {l:List (DataW H)} {d:DataW H},d∈l->∀n∈d.weights P e,n∈DataW.weightsAll P e l
 | a :: l,d,b,n,hn=>by
  simp only[DataW.weightsAll,Is];rcases DO.1 b with rfl|b
  .exact .inl hn
  exact .inr (f6 b n hn)
 | [],_,b,_,_=>by cases b
theorem Yx {b:List TypeId} {a:List (DataW H)}:∀ {ts:List TypeId} {ds:List (DataW H)},∀n∈DataW.weightsEach P ts ds,n∈DataW.weightsEach P (ts++b) (ds++a)
 | t :: ts,d :: ds,n,hn=>by
  simp only[DataW.weightsEach,AE6,Is]at hn ⊢;rcases hn with hn|hn
  .exact .inl hn
  exact .inr (Yx n hn)
 | [],_,n,hn=>by simp[DataW.weightsEach]at hn
 | _ :: _,[],n,hn=>by simp[DataW.weightsEach]at hn
theorem Yy {e:TypeId}:∀ {m:Nat} {k:Nat} {ds:List (DataW H)},∀n∈DataW.weightsEach P (((List.range' k m).map λi=>({ (default:Field) with offset:=i*P.cellsOf e,type:=e }:Field)).map (·.type)) ds,n∈DataW.weightsAll P e ds
 | 0,_,ds,n,hn=>by simp[DataW.weightsEach]at hn
 | m+1,k,[],n,hn=>by
  rw[List.range'_succ]at hn;simp[DataW.weightsEach]at hn
 | m+1,k,d :: ds,n,hn=>by
  rw[List.range'_succ]at hn;simp only[RS,DataW.weightsEach,Is]at hn;simp only[DataW.weightsAll,Is];rcases hn with hn|hn
  .exact .inl hn
  exact .inr (Yy n hn)
theorem Tc {n:Nat} {r:Ty->TypeId->Bool}
  (y:∀ty t,r ty t=true->∀(cs:List Value) (x:DataW H×List MemPlace),DataW.trod enc P w 0 spare held n t cs=some x->(∀b∈x.1.weights P t,b<=reachBytes)->∃d:ty.den,B0 w (λ_=>False) ty cs d) (cs:List Value) :
  ∀(s:Ty) (o:Nat) (fs:List Field),xP r P s o fs=true->∀xs:List (DataW H×List MemPlace),xs.length=fs.length ->
   (∀(i:Nat) (f:Field),fs[i]?=some f->DataW.trod enc P w 0 spare held n f.type ((cs.drop f.offset).take (P.cellsOf f.type))=xs[i]?) ->
   (∀b∈DataW.weightsEach P (fs.map (·.type)) (xs.map (·.1)),b<=reachBytes)->∃d:s.den,B0 w (λ_=>False) s ((cs.drop o).take s.size) d:=by
 have one:∀(s:Ty) (o:Nat) (f:Field),(f.offset==o&&P.cellsOf f.type==s.size&&r s f.type)=true->∀x:DataW H×List MemPlace,
   DataW.trod enc P w 0 spare held n f.type ((cs.drop f.offset).take (P.cellsOf f.type))=some x ->
   (∀b∈x.1.weights P f.type,b<=reachBytes)->∃d:s.den,B0 w (λ_=>False) s ((cs.drop o).take s.size) d:=by
  intro s o f h x hx c;simp only[An,S1]at h;obtain⟨⟨rfl,l⟩,m⟩:=h;rw[<-l];exact y s f.type m _ x hx c
 have lone:∀(s:Ty) (o:Nat) (f:Field),(f.offset==o&&P.cellsOf f.type==s.size&&r s f.type)=true->∀xs:List (DataW H×List MemPlace),xs.length=[f].length ->
   (∀(i:Nat) (g:Field),[f][i]?=some g->DataW.trod enc P w 0 spare held n g.type ((cs.drop g.offset).take (P.cellsOf g.type))=xs[i]?) ->
   (∀b∈DataW.weightsEach P ([f].map (·.type)) (xs.map (·.1)),b<=reachBytes)->∃d:s.den,B0 w (λ_=>False) s ((cs.drop o).take s.size) d:=by
  intro s o f h xs hl hx c;obtain⟨x,rfl⟩:∃x,xs=[x]:=AEo.1 (by simpa using hl);exact one s o f h x (hx 0 f rfl) (λb j=>c b (by simp[DataW.weightsEach,j]))
 intro s;induction s with
 | prod a b C z =>
  intro o fs h xs hl hx c;cases fs with
  | nil=>simp[xP]at h
  | cons f fs =>
   simp only[xP,An]at h;obtain⟨⟨⟨h1,l⟩,m⟩,u⟩:=h;obtain⟨x,ys,rfl⟩:∃x ys,xs=x :: ys:=List.exists_cons_of_ne_nil (by intro h;subst h;simp at hl);obtain⟨p,A⟩:=one a o f (by simp only[h1,l,m,Bool.and_self]) x (hx 0 f rfl) (λb j=>c b (by
     simp only[RS,DataW.weightsEach,Is];exact .inl j))
   obtain⟨q,B⟩:=z (o+a.size) fs u ys (by simpa using hl) (λi g v=>hx (i+1) g v) (λb j=>c b (by
     simp only[RS,DataW.weightsEach,Is];exact .inr j))
   refine⟨(p,q),(cs.drop o).take a.size,(cs.drop (o+a.size)).take b.size,?_,A,B⟩;show (cs.drop o).take (a.size+b.size)=_;rw[List.take_add,AER]
 | int k=>intro o fs h;match fs,h with|[f],h=>exact lone _ o f (by simpa only[xP] using h)
 | bool=>intro o fs h;match fs,h with|[f],h=>exact lone _ o f (by simpa only[xP] using h)
 | str=>intro o fs h;match fs,h with|[f],h=>exact lone _ o f (by simpa only[xP] using h)
 | slice e _=>intro o fs h;match fs,h with|[f],h=>exact lone _ o f (by simpa only[xP] using h)
 | agg t _=>intro o fs h;match fs,h with|[f],h=>exact lone _ o f (by simpa only[xP] using h)
 | ref k=>intro o fs h;match fs,h with|[f],h=>exact lone _ o f (by simpa only[xP] using h)
theorem A2R:∀(k:Nat) (ty:Ty) (t:TypeId),rd P k ty t=true->∀(n:Nat) (cs:List Value) (x:DataW H×List MemPlace),
  DataW.trod enc P w 0 spare held n t cs=some x->(∀b∈x.1.weights P t,b<=reachBytes)->∃d:ty.den,B0 w (λ_=>False) ty cs d:=by
 intro k;induction k with
 | zero=>intro ty t h;simp[rd]at h
 | succ k A =>
  intro ty t h n cs x hx g;cases ty with
  | int q =>
   have hu:=VO (by simpa only[rd] using h);obtain⟨m,rfl,rfl,E⟩:=DataW.trod_int hu hx;simp only[Lit.wf,An,Do]at E;exact⟨m,rfl,E⟩
  | bool =>
   obtain⟨b,rfl,rfl⟩:=DataW.trod_bool (xQ h) hx;exact⟨b,rfl⟩
  | str =>
   obtain⟨b,rfl,rfl,_⟩:=DataW.trod_string (A2P h) hx;refine⟨b,rfl,?_⟩;have:=g b.data.toList.length (by simp only[DataW.weights];exact AAj);have o:b.data.toList.length=b.size:=AFb;simp only[reachBytes]at this;simp only[AO];omega
  | slice e =>
   obtain⟨et,hu,K,B,r⟩:=f5 h;rcases DataW.trod_slice hu hx with ⟨rfl,rfl⟩|⟨a,len,cap,elems,rest,m,rfl,rfl,rfl,-,S,-,T,O,-,-⟩
   .exact⟨[],none,0,rfl,If _,NO _,.inl rfl⟩
   have V:len<=AO:=by
    have h1:=g ((elems.length+rest.length)*P.bytesOf et) (by simp only[DataW.weights,hu,OR];exact AAj);have o:elems.length+rest.length<=(elems.length+rest.length)*P.bytesOf et:=Nat.le_mul_of_pos_right _ K;simp only[reachBytes]at h1;simp only[AO];omega
   have C:∀i,i<len->∃d:e.den,∃c:List Value,c.length=e.size/\(∀(j:Nat) (v:Value),c[j]?=some v->w.cell? (a.add (i*e.size+j))=some v)/\B0 w (λ_=>False) e c d:=by
    intro i hi;have h1:=O i hi;obtain⟨x,hx⟩:∃x,elems[i]?=some x:=⟨_,AT (by omega)⟩;rw[hx]at h1;obtain⟨c,o,F⟩:=Option.bind_eq_some_iff.1 h1;obtain⟨G,I⟩:=A0j o;obtain⟨d,l⟩:=A e et r m c x F (λb p=>g b (by
     simp only[DataW.weights,hu];exact IF _ (S2 _ (f6 (GO.2 ⟨x,oF hx,rfl⟩) b p))))
    refine⟨d,c,by rw[G,B],λj v R=>?_,l⟩;have:=I j v R
    rwa [DQ,B]at this
   have J:∃ds:List e.den,ds.length=len/\∀(i:Nat) (d:e.den),ds[i]?=some d->∃c:List Value,c.length=e.size/\(∀(j:Nat) (v:Value),c[j]?=some v->w.cell? (a.add (i*e.size+j))=some v)/\B0 w (λ_=>False) e c d:=by
    refine⟨(List.range len).pmap (λi hi=>Classical.choose (C i hi)) (λi hi=>RY.1 hi),by simp,λi d l=>?_⟩;rw[List.getElem?_pmap]at l;simp only[Option.pmap_eq_some_iff]at l;obtain⟨j,h1,o,rfl⟩:=l;have Q:j=i:=by
     obtain⟨U,r⟩:=RF.1 o;simpa using r.symm
    subst Q;exact Classical.choose_spec (C j h1)
   obtain⟨ds,M,N⟩:=J;exact⟨ds,some a,cap,by rw[M],by omega,by omega,.inr ⟨a,rfl,λh=>h,N⟩⟩
  | agg s =>
   rcases A2Q h with ⟨fs,hu,L,hf⟩|⟨q,e,hu,L,hf⟩
   .obtain⟨xs,m,rfl,rfl,hl,y,z⟩:=DataW.trod_struct hu hx;obtain⟨d,l⟩:=Tc (λty t u cs x hx g=>A ty t u m cs x hx g) cs s 0 fs.toList hf xs (by simpa using y) (λi f hi=>z i f (by simpa using hi)) (by
     simpa[DataW.weights,hu] using g)
    refine⟨d,?_⟩;show B0 w _ s cs d
    rwa [To,At (by omega)]at l
   obtain⟨xs,m,rfl,rfl,hl,y,z⟩:=DataW.trod_array hu hx;obtain⟨d,l⟩:=Tc (λty t u cs x hx g=>A ty t u m cs x hx g) cs s 0 (A0i P q e) hf xs (by simp[A0i,y]) (λi f hi=>by
    unfold A0i at hi;rw[gO]at hi;by_cases D:i<q
    .rw[AE8 D]at hi;have hi:({ (default:Field) with offset:=i*P.cellsOf e,type:=e }:Field)=f:=by simpa using hi
     rw[<-hi];exact z i D
    .rw[RP (by simp;omega)]at hi;cases hi) (λb p=>g b (by
    simp only[DataW.weights,hu];unfold A0i at p;rw[List.range_eq_range']at p;exact Yy b p))
   refine⟨d,?_⟩;show B0 w _ s cs d
   rwa [To,At (by omega)]at l
  | prod a b=>simp[rd]at h
  | ref j=>simp[rd]at h
theorem A7b {k:Nat} {ty:Ty} {t:TypeId} {v:Value} {r:Reach} {base:Nat} (h:rd P k ty t=true) (d:Value.okWide P w r base t v):v=ty.wrap v.cells.toList:=by
 cases k with
 | zero=>simp[rd]at h
 | succ k =>
  cases ty with
  | int q =>
   obtain⟨n,rfl⟩:=okWide_int (VO (by simpa only[rd] using h)) d;rfl
  | bool =>
   obtain⟨n,rfl⟩:=okWide_bool (xQ h) d;rfl
  | str =>
   obtain⟨n,rfl⟩:=okWide_string (A2P h) d;rfl
  | slice e =>
   obtain⟨et,hu,_⟩:=f5 h;obtain⟨a,l,c,rfl⟩:=okWide_slice hu d;rfl
  | agg s =>
   rcases A2Q h with ⟨fs,hu,_⟩|⟨q,e,hu,_⟩
   .obtain⟨cs,rfl,_⟩:=okWide_struct hu d;simp[Ty.wrap,Value.cells]
   simp only[Value.okWide,hu]at d;obtain⟨cs,rfl,_⟩:=d;simp[Ty.wrap,Value.cells]
  | prod a b=>simp[rd]at h
  | ref j=>simp[rd]at h
def OA (P:Program):List Ty->List TypeId->Bool
 | [],[]=>true
 | ty :: a,t :: ts=>rd P 50 ty t&&P.readableRec t&&decide (t<P.types.size)&&OA P a ts
 | _,_=>false
theorem f7 {r:Reach} {base:Nat}:∀(a:List Ty) (ts:List TypeId) (c:List Value) (ds:List (DataW H)) (p:List MemPlace),OA P a ts=true->DataW.TrodAll enc P w 0 spare held ts c ds p ->
  (∀(j:Nat) (t:TypeId) (v:Value),ts[j]?=some t->c[j]?=some v->Value.okWide P w r base t v)->(∀b∈DataW.weightsEach P ts ds,b<=reachBytes)->∃xs:Ka a,Pv w (λ_=>False) a c xs
 | [],[],c,ds,p,_,h,_,_=>by
  obtain⟨rfl,_,_⟩:=trodAll_nil h;exact⟨(),rfl⟩
 | ty :: a,t :: ts,c,ds,p,g,h,i,e=>by
  simp only[OA,An]at g;obtain⟨⟨⟨h1,_⟩,_⟩,m⟩:=g;obtain⟨v,k,d,l,C,z,rfl,rfl,rfl,⟨n,o⟩,q⟩:=trodAll_cons h;simp only[DataW.weightsEach,Is]at e;obtain⟨x,hx⟩:=A2R 50 ty t h1 n _ _ o (λb f=>e b (.inl f));obtain⟨xs,y⟩:=f7 a ts k l z m q (λj A B s u=>i (j+1) A B s u) (λb f=>e b (.inr f));exact⟨(x,xs),v,k,rfl,⟨_,hx,A7b h1 (i 0 t v rfl rfl)⟩,y⟩
 | [],_ :: _,_,_,_,h,_,_,_=>by simp[OA]at h
 | _ :: _,[],_,_,_,h,_,_,_=>by simp[OA]at h
theorem Yz (hl:laidOutB P=true) {W e:World} (f:Below W.heap.size W e):∀(c:List Ty) (ts:List TypeId) (a:List Value) (ds:List (DataW H)) (p:List MemPlace),OA P c ts=true ->
  DataW.TrodAll enc P W 0 (λ_=>true) true ts a ds p->(∀x∈p,x.block<W.heap.size)->DataW.TrodAll enc P e 0 (λb=>decide (b<W.heap.size)) true ts a ds p
 | [],[],a,ds,p,_,h,_=>by
  obtain⟨rfl,rfl,rfl⟩:=trodAll_nil h;rfl
 | ty :: c,t :: ts,a,ds,p,i,h,g=>by
  simp only[OA,An,Do]at i;obtain⟨⟨⟨_,h1⟩,l⟩,m⟩:=i;obtain⟨v,r,d,k,q,j,rfl,rfl,rfl,n,o⟩:=trodAll_cons h;exact⟨q,j,Below.trod hl h1 l n f (λx hx=>g x (S2 _ hx)),Yz hl f c ts r k j m o (λx hx=>g x (AEf _ hx)),rfl⟩
 | [],_ :: _,_,_,_,h,_,_=>by simp[OA]at h
 | _ :: _,[],_,_,_,h,_,_=>by simp[OA]at h
end
theorem A2S {w:World} {O:Nat->Prop} {u:Value} {w':World} (h:A24 w O [.p .bool true] u w'):u=.bool true/\Below w.heap.size w w':=by
 obtain⟨ρ',a⟩:=h 0;refine⟨?_,a.below⟩;obtain⟨cs,h1,b⟩:BR _ _ .bool u true:=a.av;have h1:cs=[.bool true]:=h1;rw[b,h1];rfl
theorem A2T {P:Program} {f:FuncId} {fn:Func} {sp:AZ} {s:ChangeSpec} {tb:TypeId} (F:Af P f sp) (I:∀ds,sp.pre ds) (G:∀ds,sp.out ds=[.p .bool true])
  (hl:laidOutB P=true) (r:OA P sp.ins fn.params.toList=true) (K:fn.resultTypes=#[tb]) (B:P.underlying tb=some .bool) (w:s.vars=[])
  (hs:∀(H:Type) (ds:List (DataW H)),ds.length=fn.params.size->(s.fn H ds).results=[.lit (.bool true)]/\(s.fn H ds).args=ds/\(s.fn H ds).vars=[])
  {H:Type} {enc:TypeId×Value->H} {W:World} {base:Nat} {args:Array Value} {ds l:List (DataW H)} {y:List MemPlace} {S:List TypeId}
  (O:∀(j:Nat) t v,fn.params[j]?=some t->args[j]?=some v->Value.okWide P W .any base t v)
  (n:DataW.Whole enc P fn.params.toList s.vars false W args.toList ds l y)
  (L:(DataW.weightsEach P (fn.params.toList++S) (ds++l)).all (·<=reachBytes)=true) :
  Calls P f args W λe k=>∃v,e=.returned v/\s.post enc P fn false true false false W args v k:=by
 have o:=n;obtain⟨p,q,c,m,rfl,U,V⟩:=n;rw[w]at m;obtain⟨rfl,rfl⟩:=trodVars_none m;obtain⟨xs,Q⟩:=f7 sp.ins fn.params.toList args.toList ds p r c (λj t v M N=>O j t v (by simpa using M) (by simpa using N))
  (λb a=>by simpa using ON.1 L b (Yx b a))
 have E:∀x∈p,x.block<W.heap.size:=λx hx=>by simpa using o.lt x (S2 _ hx)
 have D:ds.length=fn.params.size:=by
  have:∀(ts:List TypeId) (i:List Value) (ds:List (DataW H)) (p:List MemPlace),DataW.TrodAll enc P W 0 (λ_=>true) true ts i ds p->ds.length=ts.length:=by
   intro ts;induction ts with
   | nil=>intro i ds p h;obtain⟨_,rfl,_⟩:=trodAll_nil h;rfl
   | cons t ts R=>intro i ds p h;obtain⟨v,Z,d,T,X,Y,rfl,rfl,rfl,_,J⟩:=trodAll_cons h;simp[R _ _ _ J]
  simpa using this _ _ _ _ c
 have g:=F.2 W (λ_=>False) args.toList xs (λ_ h=>h.elim) Q (I xs);rw[G]at g;have A:args.toList.toArray=args:=by simp
 rw[A]at g;refine g.mono λe k ⟨u,C,hu⟩=>?_;obtain⟨rfl,a⟩:=A2S hu;obtain⟨e1,e2,z⟩:=hs H (ds++[]) (by simpa using D);refine⟨_,C,_,_,_,[],p,[],o,?_,?_,?_,a.frame _,λh=>by cases h⟩
 .rw[e1,K];exact trodAll_mk1 (shut_bool B _)
 .rw[e2,Ra];exact Yz hl a sp.ins _ _ _ _ r c E
 rw[z,w];rfl
end
end Go.Proofs.YtapkhdkbkodbjaaGreat.Fw

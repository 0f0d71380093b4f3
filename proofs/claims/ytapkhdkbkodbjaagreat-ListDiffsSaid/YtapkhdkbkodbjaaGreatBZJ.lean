/- This program's types; a slice compared with nil; from a contract to the given statement. -/
import Derived.Test.YtapkhdkbkodbjaaGreatBZI
import Derived.Test.YtapkhdkbkodbjaaGreatChecked
import Derived.Laws.Cover3
import Derived.Carry
import Derived.SizedLaws
import Derived.OpenShut
set_option linter.unusedVariables false
set_option linter.unusedSimpArgs false
namespace Go.Proofs.YtapkhdkbkodbjaaGreat.Fw
section
open Go
abbrev T1:Ty:=.ref 1
abbrev T2:Ty:=.int .i64
abbrev T3:Ty:=.int .i64
abbrev T4:Ty:=.bool
abbrev T5:Ty:=.int .u8
abbrev T9:Ty:=.str
abbrev T12:Ty:=.int .u64
abbrev T21:Ty:=.int .i32
abbrev T32:Ty:=.ref 1
abbrev T33:Ty:=.ref 1
abbrev T34:Ty:=.ref 1
abbrev GK:Ty:=.int .i64
abbrev T36:Ty:=.ref 1
abbrev T37:Ty:=.ref 1
abbrev T41:Ty:=.ref 1
abbrev T43:Ty:=.ref 1
abbrev T44:Ty:=.ref 1
abbrev T45:Ty:=.ref 1
abbrev T46:Ty:=.ref 1
abbrev T47:Ty:=.ref 1
abbrev T48:Ty:=.ref 1
abbrev T49:Ty:=.ref 1
abbrev T50:Ty:=.ref 1
abbrev T56:Ty:=.ref 1
abbrev T57:Ty:=.ref 1
abbrev T58:Ty:=.ref 1
abbrev T59:Ty:=.ref 1
abbrev T60:Ty:=.ref 1
abbrev FA:Ty:=.slice T3
abbrev T63:Ty:=.ref 1
abbrev T65:Ty:=.ref 1
abbrev T66:Ty:=.ref 1
abbrev T67:Ty:=.ref 1
abbrev T68:Ty:=.ref 1
abbrev T70:Ty:=.ref 1
abbrev T71:Ty:=.ref 1
abbrev T72:Ty:=.ref 1
abbrev T73:Ty:=.ref 1
abbrev T74:Ty:=.ref 1
abbrev T75:Ty:=.ref 1
abbrev T76:Ty:=.ref 1
abbrev T78:Ty:=.ref 1
abbrev T80:Ty:=.ref 1
abbrev T81:Ty:=.ref 1
abbrev T82:Ty:=.ref 1
abbrev T84:Ty:=.ref 1
abbrev T85:Ty:=.ref 1
abbrev T87:Ty:=.ref 1
abbrev T89:Ty:=.ref 1
abbrev T90:Ty:=.ref 1
abbrev T94:Ty:=.ref 1
abbrev F4:Ty:=.slice T9
abbrev T96:Ty:=.ref 1
abbrev T97:Ty:=.ref 1
abbrev T98:Ty:=.ref 1
abbrev T99:Ty:=.ref 1
abbrev AAv:Ty:=.ref 1
abbrev AAw:Ty:=.ref 1
abbrev AAx:Ty:=.ref 1
abbrev AAy:Ty:=.ref 1
abbrev AAz:Ty:=.agg (.prod T3 (T3))
abbrev AW:Ty:=.agg (.prod T3 (T3))
abbrev AAA:Ty:=.ref 1
abbrev AAB:Ty:=.ref 0
abbrev AAC:Ty:=.ref 1
abbrev AAD:Ty:=.ref 1
abbrev AAE:Ty:=.ref 1
abbrev AAF:Ty:=.ref 1
abbrev AAG:Ty:=.ref 2
abbrev AAH:Ty:=.ref 1
abbrev AAI:Ty:=.ref 1
abbrev AAJ:Ty:=.ref 1
abbrev AAK:Ty:=.ref 1
abbrev AAL:Ty:=.ref 1
abbrev AAM:Ty:=.ref 1
abbrev AAN:Ty:=.ref 1
abbrev AAO:Ty:=.ref 1
abbrev AAP:Ty:=.ref 1
abbrev AAQ:Ty:=.ref 1
abbrev AAR:Ty:=.ref 1
abbrev AAS:Ty:=.ref 1
abbrev AAT:Ty:=.ref 1
abbrev AAU:Ty:=.ref 1
abbrev AAV:Ty:=.ref 1
abbrev AAW:Ty:=.ref 1
abbrev AAX:Ty:=.ref 1
abbrev AAY:Ty:=.ref 1
abbrev AAZ:Ty:=.ref 1
abbrev AB0:Ty:=.ref 1
abbrev AB1:Ty:=.ref 1
abbrev AB2:Ty:=.ref 1
abbrev AB3:Ty:=.ref 1
abbrev AB4:Ty:=.agg (.prod T9 (T9))
abbrev oA:Ty:=.agg (.prod T9 (T9))
abbrev AB5:Ty:=.agg (.prod T9 (T3))
abbrev A2Z:Ty:=.agg (.prod T9 (T3))
abbrev AB6:Ty:=.ref 1
abbrev AB7:Ty:=.ref 1
abbrev AB8:Ty:=.ref 1
abbrev AB9:Ty:=.ref 1
abbrev ABa:Ty:=.ref 1
abbrev ABb:Ty:=.agg (.prod T3 (T3))
abbrev A30:Ty:=.agg (.prod T3 (T3))
abbrev ABc:Ty:=.ref 1
abbrev Ri:Ty:=.agg (.prod T3 (T3))
abbrev ABd:Ty:=.slice Ri
abbrev ABe:Ty:=.ref 1
abbrev ABf:Ty:=.ref 1
abbrev ABg:Ty:=.ref 1
abbrev ABh:Ty:=.ref 2
abbrev ABi:Ty:=.ref 1
abbrev ABj:Ty:=.ref 1
abbrev ABk:Ty:=.ref 1
abbrev ABl:Ty:=.ref 1
abbrev ABm:Ty:=.ref 0
abbrev ABn:Ty:=.ref 1
abbrev QM:Ty:=.int .u64
abbrev ABo:Ty:=.ref 1
abbrev ABp:Ty:=.ref 1
abbrev ABq:Ty:=.ref 1
abbrev ABr:Ty:=.ref 1
abbrev ABs:Ty:=.ref 1
abbrev ABt:Ty:=.ref 1
abbrev ABu:Ty:=.ref 1
abbrev ABv:Ty:=.ref 1
abbrev ABw:Ty:=.ref 1
abbrev ABx:Ty:=.ref 1
abbrev ABy:Ty:=.ref 1
abbrev ABz:Ty:=.ref 1
abbrev ABA:Ty:=.ref 1
abbrev ABB:Ty:=.ref 0
abbrev ABC:Ty:=.ref 1
abbrev ABD:Ty:=.ref 1
abbrev ABE:Ty:=.ref 1
abbrev ABF:Ty:=.ref 1
abbrev ABG:Ty:=.ref 1
abbrev ABH:Ty:=.ref 1
abbrev ABI:Ty:=.ref 1
abbrev ABJ:Ty:=.ref 1
abbrev ABK:Ty:=.ref 1
abbrev ABL:Ty:=.ref 1
abbrev ABM:Ty:=.ref 1
abbrev ABN:Ty:=.ref 1
abbrev ABO:Ty:=.ref 1
abbrev ABP:Ty:=.ref 1
abbrev ABQ:Ty:=.ref 1
abbrev ABR:Ty:=.ref 1
abbrev ABS:Ty:=.ref 1
abbrev ABT:Ty:=.ref 1
abbrev ABU:Ty:=.ref 1
abbrev ABV:Ty:=.ref 1
abbrev ABW:Ty:=.ref 1
abbrev ABX:Ty:=.ref 1
abbrev ABY:Ty:=.ref 1
abbrev ABZ:Ty:=.ref 1
abbrev AC0:Ty:=.ref 1
abbrev AC1:Ty:=.ref 1
abbrev AC2:Ty:=.ref 1
abbrev AC3:Ty:=.ref 1
abbrev AC4:Ty:=.ref 1
abbrev AC5:Ty:=.ref 1
abbrev AC6:Ty:=.ref 1
abbrev AC7:Ty:=.ref 1
abbrev AC8:Ty:=.ref 1
abbrev AC9:Ty:=.ref 1
abbrev ACa:Ty:=.ref 1
abbrev ACb:Ty:=.ref 1
abbrev ACc:Ty:=.int .u64
abbrev ACd:Ty:=.ref 1
abbrev ACe:Ty:=.ref 1
abbrev ACf:Ty:=.ref 1
abbrev ACg:Ty:=.ref 1
abbrev ACh:Ty:=.ref 1
abbrev ACi:Ty:=.ref 1
abbrev ACj:Ty:=.ref 1
abbrev ACk:Ty:=.ref 1
abbrev ACl:Ty:=.int .i64
abbrev ACm:Ty:=.ref 1
abbrev ACn:Ty:=.ref 1
abbrev ACo:Ty:=.ref 1
abbrev ACp:Ty:=.ref 1
abbrev ACq:Ty:=.ref 1
abbrev ACr:Ty:=.int .u32
abbrev ACs:Ty:=.ref 1
abbrev ACt:Ty:=.ref 1
abbrev ACu:Ty:=.ref 1
abbrev ACv:Ty:=.int .u64
abbrev ACw:Ty:=.ref 1
abbrev ACx:Ty:=.ref 1
abbrev ACy:Ty:=.ref 1
abbrev ACz:Ty:=.ref 0
abbrev ACA:Ty:=.ref 1
abbrev ACB:Ty:=.ref 0
abbrev ACC:Ty:=.ref 1
abbrev ACD:Ty:=.ref 1
abbrev ACE:Ty:=.ref 1
abbrev ACF:Ty:=.ref 1
abbrev ACG:Ty:=.ref 0
abbrev ACH:Ty:=.agg (.prod T9 (T9))
abbrev A9o:Ty:=.agg (.prod T9 (T9))
abbrev sL:Ty:=.slice A2Z
abbrev T51:Ty:=.slice A9o
abbrev T52:Ty:=.agg (.prod T3 (T51))
abbrev T53:Ty:=.agg (.prod T3 (T51))
abbrev DC:Ty:=.slice AW
abbrev T92:Ty:=.agg (.prod T3 (DC))
abbrev HL:Ty:=.agg (.prod T3 (DC))
abbrev A5W:Ty:=.slice DC
abbrev ACI:Ty:=.slice QM
abbrev BM:Ty:=.slice QM
abbrev dF:Ty:=.slice A30
abbrev ACJ:Ty:=.agg (.prod T9 (.prod BM (.prod FA (dF))))
abbrev oB:Ty:=.agg (.prod T9 (.prod BM (.prod FA (dF))))
abbrev A5X:Ty:=.slice dF
abbrev ACK:Ty:=.agg (.prod T9 (BM))
abbrev dG:Ty:=.agg (.prod T9 (BM))
abbrev iW:Ty:=.slice oA
abbrev ACL:Ty:=.agg (.prod T9 (.prod F4 (iW)))
abbrev A0E:Ty:=.agg (.prod T9 (.prod F4 (iW)))
abbrev Ta:Ty:=.slice BM
abbrev Eo:Ty:=.slice A0E
abbrev F6:Ty:=.slice HL
abbrev T24:Ty:=.agg (F6)
abbrev Cy:Ty:=.agg (F6)
abbrev T26:Ty:=.agg (.prod T9 (.prod T3 (Cy)))
abbrev T27:Ty:=.agg (.prod T9 (.prod T3 (Cy)))
abbrev mQ:Ty:=.slice oB
abbrev T30:Ty:=.agg (.prod mQ (sL))
abbrev ED:Ty:=.agg (.prod mQ (sL))
abbrev Tc:Ty:=.slice Cy
abbrev T39:Ty:=.agg (.prod Eo (.prod T27 (.prod Tc (Tc))))
abbrev T40:Ty:=.agg (.prod Eo (.prod T27 (.prod Tc (Tc))))
abbrev T54:Ty:=.agg (.prod T9 (.prod T53 (Cy)))
abbrev T55:Ty:=.agg (.prod T9 (.prod T53 (Cy)))
abbrev ACM:Ty:=.agg (.prod ED (.prod FA (.prod FA (A5W))))
abbrev ACN:Ty:=.agg (.prod ED (.prod FA (.prod FA (A5W))))
abbrev ACO:Ty:=.agg (.prod ED (.prod T3 (.prod T3 (.prod T3 (.prod T3 (.prod T3 (.prod T3 (.prod T3 (T3)))))))))
abbrev ZD:Ty:=.agg (.prod ED (.prod T3 (.prod T3 (.prod T3 (.prod T3 (.prod T3 (.prod T3 (.prod T3 (T3)))))))))
abbrev Jo:Ty:=.slice dG
abbrev ACP:Ty:=.agg (.prod Cy (.prod FA (FA)))
abbrev ACQ:Ty:=.agg (.prod Cy (.prod FA (FA)))
abbrev ACR:Ty:=.agg (.prod ED (.prod FA (FA)))
abbrev ACS:Ty:=.agg (.prod ED (.prod FA (FA)))
set_option maxRecDepth 100000
def AI:List (Nat×TI):=[(1,⟨T1,[],0,8⟩),
 (2,⟨T2,[],0,8⟩),
 (3,⟨T3,[],0,8⟩),
 (4,⟨T4,[],0,1⟩),
 (5,⟨T5,[],0,1⟩),
 (9,⟨T9,[],0,16⟩),
 (12,⟨T12,[],0,8⟩),
 (21,⟨T21,[],0,4⟩),
 (22,⟨Eo,[],158,24⟩),
 (23,⟨F6,[],93,24⟩),
 (24,⟨T24,[(0,1)],0,24⟩),
 (25,⟨Cy,[(0,1)],0,24⟩),
 (26,⟨T26,[(0,1),(1,1),(2,1)],0,48⟩),
 (27,⟨T27,[(0,1),(1,1),(2,1)],0,48⟩),
 (28,⟨mQ,[],144,24⟩),
 (29,⟨sL,[],163,24⟩),
 (30,⟨T30,[(0,1),(1,1)],0,48⟩),
 (31,⟨ED,[(0,1),(1,1)],0,48⟩),
 (32,⟨T32,[],0,8⟩),
 (33,⟨T33,[],0,8⟩),
 (34,⟨T34,[],0,8⟩),
 (35,⟨GK,[],0,8⟩),
 (36,⟨T36,[],0,8⟩),
 (37,⟨T37,[],0,8⟩),
 (38,⟨Tc,[],25,24⟩),
 (39,⟨T39,[(0,1),(1,3),(4,1),(5,1)],0,120⟩),
 (40,⟨T40,[(0,1),(1,3),(4,1),(5,1)],0,120⟩),
 (41,⟨T41,[],0,8⟩),
 (43,⟨T43,[],0,8⟩),
 (44,⟨T44,[],0,8⟩),
 (45,⟨T45,[],0,8⟩),
 (46,⟨T46,[],0,8⟩),
 (47,⟨T47,[],0,8⟩),
 (48,⟨T48,[],0,8⟩),
 (49,⟨T49,[],0,8⟩),
 (50,⟨T50,[],0,8⟩),
 (51,⟨T51,[],288,24⟩),
 (52,⟨T52,[(0,1),(1,1)],0,32⟩),
 (53,⟨T53,[(0,1),(1,1)],0,32⟩),
 (54,⟨T54,[(0,1),(1,2),(3,1)],0,72⟩),
 (55,⟨T55,[(0,1),(1,2),(3,1)],0,72⟩),
 (56,⟨T56,[],0,8⟩),
 (57,⟨T57,[],0,8⟩),
 (58,⟨T58,[],0,8⟩),
 (59,⟨T59,[],0,8⟩),
 (60,⟨T60,[],0,8⟩),
 (61,⟨FA,[],3,24⟩),
 (63,⟨T63,[],0,8⟩),
 (65,⟨T65,[],0,8⟩),
 (66,⟨T66,[],0,8⟩),
 (67,⟨T67,[],0,8⟩),
 (68,⟨T68,[],0,8⟩),
 (70,⟨T70,[],0,8⟩),
 (71,⟨T71,[],0,8⟩),
 (72,⟨T72,[],0,8⟩),
 (73,⟨T73,[],0,8⟩),
 (74,⟨T74,[],0,8⟩),
 (75,⟨T75,[],0,8⟩),
 (76,⟨T76,[],0,8⟩),
 (78,⟨T78,[],0,8⟩),
 (80,⟨T80,[],0,8⟩),
 (81,⟨T81,[],0,8⟩),
 (82,⟨T82,[],0,8⟩),
 (84,⟨T84,[],0,8⟩),
 (85,⟨T85,[],0,8⟩),
 (87,⟨T87,[],0,8⟩),
 (89,⟨T89,[],0,8⟩),
 (90,⟨T90,[],0,8⟩),
 (91,⟨DC,[],106,24⟩),
 (92,⟨T92,[(0,1),(1,1)],0,32⟩),
 (93,⟨HL,[(0,1),(1,1)],0,32⟩),
 (94,⟨T94,[],0,8⟩),
 (95,⟨F4,[],9,24⟩),
 (96,⟨T96,[],0,8⟩),
 (97,⟨T97,[],0,8⟩),
 (98,⟨T98,[],0,8⟩),
 (99,⟨T99,[],0,8⟩),
 (100,⟨AAv,[],0,8⟩),
 (101,⟨AAw,[],0,8⟩),
 (103,⟨AAx,[],0,8⟩),
 (104,⟨AAy,[],0,8⟩),
 (105,⟨AAz,[(0,1),(1,1)],0,16⟩),
 (106,⟨AW,[(0,1),(1,1)],0,16⟩),
 (107,⟨AAA,[],0,8⟩),
 (108,⟨AAB,[],0,8⟩),
 (109,⟨A5W,[],91,24⟩),
 (110,⟨ACM,[(0,2),(2,1),(3,1),(4,1)],0,120⟩),
 (111,⟨ACN,[(0,2),(2,1),(3,1),(4,1)],0,120⟩),
 (112,⟨AAC,[],0,8⟩),
 (113,⟨AAD,[],0,8⟩),
 (114,⟨ACO,[(0,2),(2,1),(3,1),(4,1),(5,1),(6,1),(7,1),(8,1),(9,1)],0,112⟩),
 (115,⟨ZD,[(0,2),(2,1),(3,1),(4,1),(5,1),(6,1),(7,1),(8,1),(9,1)],0,112⟩),
 (117,⟨AAE,[],0,8⟩),
 (118,⟨AAF,[],0,8⟩),
 (119,⟨AAG,[(3,4)],0,8⟩),
 (120,⟨AAH,[],0,8⟩),
 (121,⟨AAI,[],0,8⟩),
 (122,⟨AAJ,[],0,8⟩),
 (123,⟨AAK,[],0,8⟩),
 (124,⟨AAL,[],0,8⟩),
 (125,⟨AAM,[],0,8⟩),
 (126,⟨AAN,[],0,8⟩),
 (127,⟨AAO,[],0,8⟩),
 (128,⟨AAP,[],0,8⟩),
 (129,⟨AAQ,[],0,8⟩),
 (130,⟨AAR,[],0,8⟩),
 (132,⟨AAS,[],0,8⟩),
 (133,⟨AAT,[],0,8⟩),
 (134,⟨AAU,[],0,8⟩),
 (136,⟨AAV,[],0,8⟩),
 (137,⟨AAW,[],0,8⟩),
 (138,⟨AAX,[],0,8⟩),
 (139,⟨ACI,[],186,24⟩),
 (140,⟨BM,[],186,24⟩),
 (141,⟨AAY,[],0,8⟩),
 (142,⟨dF,[],170,24⟩),
 (143,⟨ACJ,[(0,1),(1,1),(2,1),(3,1)],0,88⟩),
 (144,⟨oB,[(0,1),(1,1),(2,1),(3,1)],0,88⟩),
 (145,⟨A5X,[],142,24⟩),
 (147,⟨AAZ,[],0,8⟩),
 (148,⟨Jo,[],152,24⟩),
 (150,⟨AB0,[],0,8⟩),
 (151,⟨ACK,[(0,1),(1,1)],0,40⟩),
 (152,⟨dG,[(0,1),(1,1)],0,40⟩),
 (153,⟨AB1,[],0,8⟩),
 (155,⟨AB2,[],0,8⟩),
 (156,⟨iW,[],161,24⟩),
 (157,⟨ACL,[(0,1),(1,1),(2,1)],0,64⟩),
 (158,⟨A0E,[(0,1),(1,1),(2,1)],0,64⟩),
 (159,⟨AB3,[],0,8⟩),
 (160,⟨AB4,[(0,1),(1,1)],0,32⟩),
 (161,⟨oA,[(0,1),(1,1)],0,32⟩),
 (162,⟨AB5,[(0,1),(1,1)],0,24⟩),
 (163,⟨A2Z,[(0,1),(1,1)],0,24⟩),
 (164,⟨AB6,[],0,8⟩),
 (165,⟨AB7,[],0,8⟩),
 (166,⟨AB8,[],0,8⟩),
 (167,⟨AB9,[],0,8⟩),
 (168,⟨ABa,[],0,8⟩),
 (169,⟨ABb,[(0,1),(1,1)],0,16⟩),
 (170,⟨A30,[(0,1),(1,1)],0,16⟩),
 (171,⟨ABc,[],0,8⟩),
 (172,⟨Ri,[(0,1),(1,1)],3,16⟩),
 (173,⟨ABd,[],172,24⟩),
 (174,⟨ABe,[],0,8⟩),
 (175,⟨ABf,[],0,8⟩),
 (176,⟨ABg,[],0,8⟩),
 (177,⟨ABh,[(3,3)],0,8⟩),
 (178,⟨ABi,[],0,8⟩),
 (179,⟨ABj,[],0,8⟩),
 (180,⟨ABk,[],0,8⟩),
 (181,⟨ABl,[],0,8⟩),
 (182,⟨ABm,[],0,8⟩),
 (183,⟨ACP,[(0,1),(1,1),(2,1)],0,72⟩),
 (184,⟨ACQ,[(0,1),(1,1),(2,1)],0,72⟩),
 (185,⟨ABn,[],0,8⟩),
 (186,⟨QM,[],0,8⟩),
 (187,⟨ABo,[],0,8⟩),
 (188,⟨ABp,[],0,8⟩),
 (189,⟨ABq,[],0,8⟩),
 (190,⟨ABr,[],0,8⟩),
 (192,⟨ABs,[],0,8⟩),
 (193,⟨ABt,[],0,8⟩),
 (194,⟨Ta,[],140,24⟩),
 (195,⟨ABu,[],0,8⟩),
 (196,⟨ABv,[],0,8⟩),
 (197,⟨ABw,[],0,8⟩),
 (198,⟨ABx,[],0,8⟩),
 (199,⟨ABy,[],0,8⟩),
 (201,⟨ABz,[],0,8⟩),
 (202,⟨ABA,[],0,8⟩),
 (203,⟨ABB,[],0,8⟩),
 (204,⟨ACR,[(0,2),(2,1),(3,1)],0,96⟩),
 (205,⟨ACS,[(0,2),(2,1),(3,1)],0,96⟩),
 (206,⟨ABC,[],0,8⟩),
 (207,⟨ABD,[],0,8⟩),
 (208,⟨ABE,[],0,8⟩),
 (209,⟨ABF,[],0,8⟩),
 (210,⟨ABG,[],0,8⟩),
 (211,⟨ABH,[],0,8⟩),
 (212,⟨ABI,[],0,8⟩),
 (213,⟨ABJ,[],0,8⟩),
 (214,⟨ABK,[],0,8⟩),
 (215,⟨ABL,[],0,8⟩),
 (216,⟨ABM,[],0,8⟩),
 (217,⟨ABN,[],0,8⟩),
 (218,⟨ABO,[],0,8⟩),
 (219,⟨ABP,[],0,8⟩),
 (220,⟨ABQ,[],0,8⟩),
 (221,⟨ABR,[],0,8⟩),
 (222,⟨ABS,[],0,8⟩),
 (223,⟨ABT,[],0,8⟩),
 (224,⟨ABU,[],0,8⟩),
 (225,⟨ABV,[],0,8⟩),
 (226,⟨ABW,[],0,8⟩),
 (228,⟨ABX,[],0,8⟩),
 (229,⟨ABY,[],0,8⟩),
 (230,⟨ABZ,[],0,8⟩),
 (231,⟨AC0,[],0,8⟩),
 (232,⟨AC1,[],0,8⟩),
 (233,⟨AC2,[],0,8⟩),
 (234,⟨AC3,[],0,8⟩),
 (235,⟨AC4,[],0,8⟩),
 (236,⟨AC5,[],0,8⟩),
 (237,⟨AC6,[],0,8⟩),
 (238,⟨AC7,[],0,8⟩),
 (239,⟨AC8,[],0,8⟩),
 (240,⟨AC9,[],0,8⟩),
 (241,⟨ACa,[],0,8⟩),
 (242,⟨ACb,[],0,8⟩),
 (243,⟨ACc,[],0,8⟩),
 (244,⟨ACd,[],0,8⟩),
 (245,⟨ACe,[],0,8⟩),
 (246,⟨ACf,[],0,8⟩),
 (247,⟨ACg,[],0,8⟩),
 (248,⟨ACh,[],0,8⟩),
 (249,⟨ACi,[],0,8⟩),
 (250,⟨ACj,[],0,8⟩),
 (251,⟨ACk,[],0,8⟩),
 (252,⟨ACl,[],0,8⟩),
 (254,⟨ACm,[],0,8⟩),
 (255,⟨ACn,[],0,8⟩),
 (256,⟨ACo,[],0,8⟩),
 (257,⟨ACp,[],0,8⟩),
 (258,⟨ACq,[],0,8⟩),
 (259,⟨ACr,[],0,4⟩),
 (260,⟨ACs,[],0,8⟩),
 (261,⟨ACt,[],0,8⟩),
 (262,⟨ACu,[],0,8⟩),
 (263,⟨ACv,[],0,8⟩),
 (264,⟨ACw,[],0,8⟩),
 (265,⟨ACx,[],0,8⟩),
 (266,⟨ACy,[],0,8⟩),
 (267,⟨ACz,[],0,8⟩),
 (268,⟨ACA,[],0,8⟩),
 (269,⟨ACB,[],0,8⟩),
 (271,⟨ACC,[],0,8⟩),
 (272,⟨ACD,[],0,8⟩),
 (278,⟨ACE,[],0,8⟩),
 (281,⟨ACF,[],0,8⟩),
 (282,⟨ACG,[],0,8⟩),
 (287,⟨ACH,[(0,1),(1,1)],0,32⟩),
 (288,⟨A9o,[(0,1),(1,1)],0,32⟩)]
theorem tyTab_ok (f) (a:List Nat) (b:List Nat:=[]) (ne:List (Nat×TypeId):=[]):Cw Tryz.prog ⟨AI,f,b,ne,a⟩:=A5m (by kernel_rfl)
theorem drawsAny:Tryz.prog.follows .mixedOrders=true:=by kernel_rfl
theorem ty1:lk 1 AI=some ⟨T1,[],0,8⟩:=rfl
theorem ty2:lk 2 AI=some ⟨T2,[],0,8⟩:=rfl
theorem ty3:lk 3 AI=some ⟨T3,[],0,8⟩:=rfl
theorem ty4:lk 4 AI=some ⟨T4,[],0,1⟩:=rfl
theorem ty5:lk 5 AI=some ⟨T5,[],0,1⟩:=rfl
theorem ty9:lk 9 AI=some ⟨T9,[],0,16⟩:=rfl
theorem A5Y:lk 12 AI=some ⟨T12,[],0,8⟩:=rfl
theorem A5Z:lk 21 AI=some ⟨T21,[],0,4⟩:=rfl
theorem A60:lk 22 AI=some ⟨Eo,[],158,24⟩:=rfl
theorem A61:lk 23 AI=some ⟨F6,[],93,24⟩:=rfl
theorem A62:lk 24 AI=some ⟨T24,[(0,1)],0,24⟩:=rfl
theorem A63:lk 25 AI=some ⟨Cy,[(0,1)],0,24⟩:=rfl
theorem A64:lk 26 AI=some ⟨T26,[(0,1),(1,1),(2,1)],0,48⟩:=rfl
theorem A65:lk 27 AI=some ⟨T27,[(0,1),(1,1),(2,1)],0,48⟩:=rfl
theorem A66:lk 28 AI=some ⟨mQ,[],144,24⟩:=rfl
theorem A67:lk 29 AI=some ⟨sL,[],163,24⟩:=rfl
theorem A68:lk 30 AI=some ⟨T30,[(0,1),(1,1)],0,48⟩:=rfl
theorem A69:lk 31 AI=some ⟨ED,[(0,1),(1,1)],0,48⟩:=rfl
theorem A6a:lk 32 AI=some ⟨T32,[],0,8⟩:=rfl
theorem A6b:lk 33 AI=some ⟨T33,[],0,8⟩:=rfl
theorem A6c:lk 34 AI=some ⟨T34,[],0,8⟩:=rfl
theorem A6d:lk 35 AI=some ⟨GK,[],0,8⟩:=rfl
theorem A6e:lk 36 AI=some ⟨T36,[],0,8⟩:=rfl
theorem A6f:lk 37 AI=some ⟨T37,[],0,8⟩:=rfl
theorem A6g:lk 38 AI=some ⟨Tc,[],25,24⟩:=rfl
theorem A6h:lk 39 AI=some ⟨T39,[(0,1),(1,3),(4,1),(5,1)],0,120⟩:=rfl
theorem A6i:lk 40 AI=some ⟨T40,[(0,1),(1,3),(4,1),(5,1)],0,120⟩:=rfl
theorem A6j:lk 41 AI=some ⟨T41,[],0,8⟩:=rfl
theorem A6k:lk 43 AI=some ⟨T43,[],0,8⟩:=rfl
theorem A6l:lk 44 AI=some ⟨T44,[],0,8⟩:=rfl
theorem A6m:lk 45 AI=some ⟨T45,[],0,8⟩:=rfl
theorem A6n:lk 46 AI=some ⟨T46,[],0,8⟩:=rfl
theorem A6o:lk 47 AI=some ⟨T47,[],0,8⟩:=rfl
theorem A6p:lk 48 AI=some ⟨T48,[],0,8⟩:=rfl
theorem A6q:lk 49 AI=some ⟨T49,[],0,8⟩:=rfl
theorem A6r:lk 50 AI=some ⟨T50,[],0,8⟩:=rfl
theorem A6s:lk 51 AI=some ⟨T51,[],288,24⟩:=rfl
theorem A6t:lk 52 AI=some ⟨T52,[(0,1),(1,1)],0,32⟩:=rfl
theorem A6u:lk 53 AI=some ⟨T53,[(0,1),(1,1)],0,32⟩:=rfl
theorem A6v:lk 54 AI=some ⟨T54,[(0,1),(1,2),(3,1)],0,72⟩:=rfl
theorem A6w:lk 55 AI=some ⟨T55,[(0,1),(1,2),(3,1)],0,72⟩:=rfl
theorem A6x:lk 56 AI=some ⟨T56,[],0,8⟩:=rfl
theorem A6y:lk 57 AI=some ⟨T57,[],0,8⟩:=rfl
theorem A6z:lk 58 AI=some ⟨T58,[],0,8⟩:=rfl
theorem A6A:lk 59 AI=some ⟨T59,[],0,8⟩:=rfl
theorem A6B:lk 60 AI=some ⟨T60,[],0,8⟩:=rfl
theorem A6C:lk 61 AI=some ⟨FA,[],3,24⟩:=rfl
theorem A6D:lk 63 AI=some ⟨T63,[],0,8⟩:=rfl
theorem A6E:lk 65 AI=some ⟨T65,[],0,8⟩:=rfl
theorem A6F:lk 66 AI=some ⟨T66,[],0,8⟩:=rfl
theorem A6G:lk 67 AI=some ⟨T67,[],0,8⟩:=rfl
theorem A6H:lk 68 AI=some ⟨T68,[],0,8⟩:=rfl
theorem A6I:lk 70 AI=some ⟨T70,[],0,8⟩:=rfl
theorem A6J:lk 71 AI=some ⟨T71,[],0,8⟩:=rfl
theorem A6K:lk 72 AI=some ⟨T72,[],0,8⟩:=rfl
theorem A6L:lk 73 AI=some ⟨T73,[],0,8⟩:=rfl
theorem A6M:lk 74 AI=some ⟨T74,[],0,8⟩:=rfl
theorem A6N:lk 75 AI=some ⟨T75,[],0,8⟩:=rfl
theorem A6O:lk 76 AI=some ⟨T76,[],0,8⟩:=rfl
theorem A6P:lk 78 AI=some ⟨T78,[],0,8⟩:=rfl
theorem A6Q:lk 80 AI=some ⟨T80,[],0,8⟩:=rfl
theorem A6R:lk 81 AI=some ⟨T81,[],0,8⟩:=rfl
theorem A6S:lk 82 AI=some ⟨T82,[],0,8⟩:=rfl
theorem A6T:lk 84 AI=some ⟨T84,[],0,8⟩:=rfl
theorem A6U:lk 85 AI=some ⟨T85,[],0,8⟩:=rfl
theorem A6V:lk 87 AI=some ⟨T87,[],0,8⟩:=rfl
theorem A6W:lk 89 AI=some ⟨T89,[],0,8⟩:=rfl
theorem A6X:lk 90 AI=some ⟨T90,[],0,8⟩:=rfl
theorem A6Y:lk 91 AI=some ⟨DC,[],106,24⟩:=rfl
theorem A6Z:lk 92 AI=some ⟨T92,[(0,1),(1,1)],0,32⟩:=rfl
theorem A70:lk 93 AI=some ⟨HL,[(0,1),(1,1)],0,32⟩:=rfl
theorem A71:lk 94 AI=some ⟨T94,[],0,8⟩:=rfl
theorem A72:lk 95 AI=some ⟨F4,[],9,24⟩:=rfl
theorem A73:lk 96 AI=some ⟨T96,[],0,8⟩:=rfl
theorem A74:lk 97 AI=some ⟨T97,[],0,8⟩:=rfl
theorem A75:lk 98 AI=some ⟨T98,[],0,8⟩:=rfl
theorem A76:lk 99 AI=some ⟨T99,[],0,8⟩:=rfl
theorem sM:lk 100 AI=some ⟨AAv,[],0,8⟩:=rfl
theorem sO:lk 101 AI=some ⟨AAw,[],0,8⟩:=rfl
theorem sP:lk 103 AI=some ⟨AAx,[],0,8⟩:=rfl
theorem sQ:lk 104 AI=some ⟨AAy,[],0,8⟩:=rfl
theorem sR:lk 105 AI=some ⟨AAz,[(0,1),(1,1)],0,16⟩:=rfl
theorem sS:lk 106 AI=some ⟨AW,[(0,1),(1,1)],0,16⟩:=rfl
theorem sT:lk 107 AI=some ⟨AAA,[],0,8⟩:=rfl
theorem sU:lk 108 AI=some ⟨AAB,[],0,8⟩:=rfl
theorem sV:lk 109 AI=some ⟨A5W,[],91,24⟩:=rfl
theorem sW:lk 110 AI=some ⟨ACM,[(0,2),(2,1),(3,1),(4,1)],0,120⟩:=rfl
theorem sY:lk 111 AI=some ⟨ACN,[(0,2),(2,1),(3,1),(4,1)],0,120⟩:=rfl
theorem sZ:lk 112 AI=some ⟨AAC,[],0,8⟩:=rfl
theorem s5:lk 113 AI=some ⟨AAD,[],0,8⟩:=rfl
theorem s6:lk 114 AI=some ⟨ACO,[(0,2),(2,1),(3,1),(4,1),(5,1),(6,1),(7,1),(8,1),(9,1)],0,112⟩:=rfl
theorem s7:lk 115 AI=some ⟨ZD,[(0,2),(2,1),(3,1),(4,1),(5,1),(6,1),(7,1),(8,1),(9,1)],0,112⟩:=rfl
theorem s8:lk 117 AI=some ⟨AAE,[],0,8⟩:=rfl
theorem s9:lk 118 AI=some ⟨AAF,[],0,8⟩:=rfl
theorem tA:lk 119 AI=some ⟨AAG,[(3,4)],0,8⟩:=rfl
theorem tB:lk 120 AI=some ⟨AAH,[],0,8⟩:=rfl
theorem tC:lk 121 AI=some ⟨AAI,[],0,8⟩:=rfl
theorem tD:lk 122 AI=some ⟨AAJ,[],0,8⟩:=rfl
theorem tE:lk 123 AI=some ⟨AAK,[],0,8⟩:=rfl
theorem tF:lk 124 AI=some ⟨AAL,[],0,8⟩:=rfl
theorem tG:lk 125 AI=some ⟨AAM,[],0,8⟩:=rfl
theorem tH:lk 126 AI=some ⟨AAN,[],0,8⟩:=rfl
theorem tI:lk 127 AI=some ⟨AAO,[],0,8⟩:=rfl
theorem tJ:lk 128 AI=some ⟨AAP,[],0,8⟩:=rfl
theorem tK:lk 129 AI=some ⟨AAQ,[],0,8⟩:=rfl
theorem tL:lk 130 AI=some ⟨AAR,[],0,8⟩:=rfl
theorem tM:lk 132 AI=some ⟨AAS,[],0,8⟩:=rfl
theorem tP:lk 133 AI=some ⟨AAT,[],0,8⟩:=rfl
theorem tQ:lk 134 AI=some ⟨AAU,[],0,8⟩:=rfl
theorem tR:lk 136 AI=some ⟨AAV,[],0,8⟩:=rfl
theorem tS:lk 137 AI=some ⟨AAW,[],0,8⟩:=rfl
theorem tT:lk 138 AI=some ⟨AAX,[],0,8⟩:=rfl
theorem tU:lk 139 AI=some ⟨ACI,[],186,24⟩:=rfl
theorem tV:lk 140 AI=some ⟨BM,[],186,24⟩:=rfl
theorem tW:lk 141 AI=some ⟨AAY,[],0,8⟩:=rfl
theorem tY:lk 142 AI=some ⟨dF,[],170,24⟩:=rfl
theorem tZ:lk 143 AI=some ⟨ACJ,[(0,1),(1,1),(2,1),(3,1)],0,88⟩:=rfl
theorem t4:lk 144 AI=some ⟨oB,[(0,1),(1,1),(2,1),(3,1)],0,88⟩:=rfl
theorem t5:lk 145 AI=some ⟨A5X,[],142,24⟩:=rfl
theorem t6:lk 147 AI=some ⟨AAZ,[],0,8⟩:=rfl
theorem t7:lk 148 AI=some ⟨Jo,[],152,24⟩:=rfl
theorem t8:lk 150 AI=some ⟨AB0,[],0,8⟩:=rfl
theorem t9:lk 151 AI=some ⟨ACK,[(0,1),(1,1)],0,40⟩:=rfl
theorem uA:lk 152 AI=some ⟨dG,[(0,1),(1,1)],0,40⟩:=rfl
theorem uB:lk 153 AI=some ⟨AB1,[],0,8⟩:=rfl
theorem uC:lk 155 AI=some ⟨AB2,[],0,8⟩:=rfl
theorem uD:lk 156 AI=some ⟨iW,[],161,24⟩:=rfl
theorem uE:lk 157 AI=some ⟨ACL,[(0,1),(1,1),(2,1)],0,64⟩:=rfl
theorem uF:lk 158 AI=some ⟨A0E,[(0,1),(1,1),(2,1)],0,64⟩:=rfl
theorem uG:lk 159 AI=some ⟨AB3,[],0,8⟩:=rfl
theorem uH:lk 160 AI=some ⟨AB4,[(0,1),(1,1)],0,32⟩:=rfl
theorem uI:lk 161 AI=some ⟨oA,[(0,1),(1,1)],0,32⟩:=rfl
theorem uJ:lk 162 AI=some ⟨AB5,[(0,1),(1,1)],0,24⟩:=rfl
theorem uK:lk 163 AI=some ⟨A2Z,[(0,1),(1,1)],0,24⟩:=rfl
theorem uL:lk 164 AI=some ⟨AB6,[],0,8⟩:=rfl
theorem uM:lk 165 AI=some ⟨AB7,[],0,8⟩:=rfl
theorem uN:lk 166 AI=some ⟨AB8,[],0,8⟩:=rfl
theorem uP:lk 167 AI=some ⟨AB9,[],0,8⟩:=rfl
theorem uQ:lk 168 AI=some ⟨ABa,[],0,8⟩:=rfl
theorem uR:lk 169 AI=some ⟨ABb,[(0,1),(1,1)],0,16⟩:=rfl
theorem uS:lk 170 AI=some ⟨A30,[(0,1),(1,1)],0,16⟩:=rfl
theorem uT:lk 171 AI=some ⟨ABc,[],0,8⟩:=rfl
theorem uU:lk 172 AI=some ⟨Ri,[(0,1),(1,1)],3,16⟩:=rfl
theorem uV:lk 173 AI=some ⟨ABd,[],172,24⟩:=rfl
theorem uW:lk 174 AI=some ⟨ABe,[],0,8⟩:=rfl
theorem uX:lk 175 AI=some ⟨ABf,[],0,8⟩:=rfl
theorem uY:lk 176 AI=some ⟨ABg,[],0,8⟩:=rfl
theorem uZ:lk 177 AI=some ⟨ABh,[(3,3)],0,8⟩:=rfl
theorem u3:lk 178 AI=some ⟨ABi,[],0,8⟩:=rfl
theorem u4:lk 179 AI=some ⟨ABj,[],0,8⟩:=rfl
theorem u5:lk 180 AI=some ⟨ABk,[],0,8⟩:=rfl
theorem u6:lk 181 AI=some ⟨ABl,[],0,8⟩:=rfl
theorem u7:lk 182 AI=some ⟨ABm,[],0,8⟩:=rfl
theorem u9:lk 183 AI=some ⟨ACP,[(0,1),(1,1),(2,1)],0,72⟩:=rfl
theorem vA:lk 184 AI=some ⟨ACQ,[(0,1),(1,1),(2,1)],0,72⟩:=rfl
theorem vB:lk 185 AI=some ⟨ABn,[],0,8⟩:=rfl
theorem vC:lk 186 AI=some ⟨QM,[],0,8⟩:=rfl
theorem vE:lk 187 AI=some ⟨ABo,[],0,8⟩:=rfl
theorem vF:lk 188 AI=some ⟨ABp,[],0,8⟩:=rfl
theorem vG:lk 189 AI=some ⟨ABq,[],0,8⟩:=rfl
theorem vH:lk 190 AI=some ⟨ABr,[],0,8⟩:=rfl
theorem vI:lk 192 AI=some ⟨ABs,[],0,8⟩:=rfl
theorem vJ:lk 193 AI=some ⟨ABt,[],0,8⟩:=rfl
theorem vL:lk 194 AI=some ⟨Ta,[],140,24⟩:=rfl
theorem vM:lk 195 AI=some ⟨ABu,[],0,8⟩:=rfl
theorem vO:lk 196 AI=some ⟨ABv,[],0,8⟩:=rfl
theorem vP:lk 197 AI=some ⟨ABw,[],0,8⟩:=rfl
theorem vQ:lk 198 AI=some ⟨ABx,[],0,8⟩:=rfl
theorem vS:lk 199 AI=some ⟨ABy,[],0,8⟩:=rfl
theorem vU:lk 201 AI=some ⟨ABz,[],0,8⟩:=rfl
theorem vV:lk 202 AI=some ⟨ABA,[],0,8⟩:=rfl
theorem vW:lk 203 AI=some ⟨ABB,[],0,8⟩:=rfl
theorem vX:lk 204 AI=some ⟨ACR,[(0,2),(2,1),(3,1)],0,96⟩:=rfl
theorem vY:lk 205 AI=some ⟨ACS,[(0,2),(2,1),(3,1)],0,96⟩:=rfl
theorem vZ:lk 206 AI=some ⟨ABC,[],0,8⟩:=rfl
theorem v4:lk 207 AI=some ⟨ABD,[],0,8⟩:=rfl
theorem v5:lk 208 AI=some ⟨ABE,[],0,8⟩:=rfl
theorem v6:lk 209 AI=some ⟨ABF,[],0,8⟩:=rfl
theorem v7:lk 210 AI=some ⟨ABG,[],0,8⟩:=rfl
theorem v8:lk 211 AI=some ⟨ABH,[],0,8⟩:=rfl
theorem v9:lk 212 AI=some ⟨ABI,[],0,8⟩:=rfl
theorem wA:lk 213 AI=some ⟨ABJ,[],0,8⟩:=rfl
theorem wB:lk 214 AI=some ⟨ABK,[],0,8⟩:=rfl
theorem wC:lk 215 AI=some ⟨ABL,[],0,8⟩:=rfl
theorem wD:lk 216 AI=some ⟨ABM,[],0,8⟩:=rfl
theorem wF:lk 217 AI=some ⟨ABN,[],0,8⟩:=rfl
theorem wG:lk 218 AI=some ⟨ABO,[],0,8⟩:=rfl
theorem wH:lk 219 AI=some ⟨ABP,[],0,8⟩:=rfl
theorem wI:lk 220 AI=some ⟨ABQ,[],0,8⟩:=rfl
theorem wJ:lk 221 AI=some ⟨ABR,[],0,8⟩:=rfl
theorem wK:lk 222 AI=some ⟨ABS,[],0,8⟩:=rfl
theorem wL:lk 223 AI=some ⟨ABT,[],0,8⟩:=rfl
theorem wM:lk 224 AI=some ⟨ABU,[],0,8⟩:=rfl
theorem wN:lk 225 AI=some ⟨ABV,[],0,8⟩:=rfl
theorem wP:lk 226 AI=some ⟨ABW,[],0,8⟩:=rfl
theorem wQ:lk 228 AI=some ⟨ABX,[],0,8⟩:=rfl
theorem wR:lk 229 AI=some ⟨ABY,[],0,8⟩:=rfl
theorem wS:lk 230 AI=some ⟨ABZ,[],0,8⟩:=rfl
theorem wT:lk 231 AI=some ⟨AC0,[],0,8⟩:=rfl
theorem wU:lk 232 AI=some ⟨AC1,[],0,8⟩:=rfl
theorem wV:lk 233 AI=some ⟨AC2,[],0,8⟩:=rfl
theorem wW:lk 234 AI=some ⟨AC3,[],0,8⟩:=rfl
theorem wX:lk 235 AI=some ⟨AC4,[],0,8⟩:=rfl
theorem wY:lk 236 AI=some ⟨AC5,[],0,8⟩:=rfl
theorem wZ:lk 237 AI=some ⟨AC6,[],0,8⟩:=rfl
theorem w5:lk 238 AI=some ⟨AC7,[],0,8⟩:=rfl
theorem w6:lk 239 AI=some ⟨AC8,[],0,8⟩:=rfl
theorem w9:lk 240 AI=some ⟨AC9,[],0,8⟩:=rfl
theorem xA:lk 241 AI=some ⟨ACa,[],0,8⟩:=rfl
theorem xB:lk 242 AI=some ⟨ACb,[],0,8⟩:=rfl
theorem xC:lk 243 AI=some ⟨ACc,[],0,8⟩:=rfl
theorem xE:lk 244 AI=some ⟨ACd,[],0,8⟩:=rfl
theorem xF:lk 245 AI=some ⟨ACe,[],0,8⟩:=rfl
theorem xG:lk 246 AI=some ⟨ACf,[],0,8⟩:=rfl
theorem xH:lk 247 AI=some ⟨ACg,[],0,8⟩:=rfl
theorem xI:lk 248 AI=some ⟨ACh,[],0,8⟩:=rfl
theorem xJ:lk 249 AI=some ⟨ACi,[],0,8⟩:=rfl
theorem xL:lk 250 AI=some ⟨ACj,[],0,8⟩:=rfl
theorem xM:lk 251 AI=some ⟨ACk,[],0,8⟩:=rfl
theorem xN:lk 252 AI=some ⟨ACl,[],0,8⟩:=rfl
theorem xO:lk 254 AI=some ⟨ACm,[],0,8⟩:=rfl
theorem xP:lk 255 AI=some ⟨ACn,[],0,8⟩:=rfl
theorem xQ:lk 256 AI=some ⟨ACo,[],0,8⟩:=rfl
theorem xR:lk 257 AI=some ⟨ACp,[],0,8⟩:=rfl
theorem xS:lk 258 AI=some ⟨ACq,[],0,8⟩:=rfl
theorem xT:lk 259 AI=some ⟨ACr,[],0,4⟩:=rfl
theorem xV:lk 260 AI=some ⟨ACs,[],0,8⟩:=rfl
theorem xW:lk 261 AI=some ⟨ACt,[],0,8⟩:=rfl
theorem xX:lk 262 AI=some ⟨ACu,[],0,8⟩:=rfl
theorem xY:lk 263 AI=some ⟨ACv,[],0,8⟩:=rfl
theorem xZ:lk 264 AI=some ⟨ACw,[],0,8⟩:=rfl
theorem x5:lk 265 AI=some ⟨ACx,[],0,8⟩:=rfl
theorem x6:lk 266 AI=some ⟨ACy,[],0,8⟩:=rfl
theorem x7:lk 267 AI=some ⟨ACz,[],0,8⟩:=rfl
theorem x8:lk 268 AI=some ⟨ACA,[],0,8⟩:=rfl
theorem x9:lk 269 AI=some ⟨ACB,[],0,8⟩:=rfl
theorem yA:lk 271 AI=some ⟨ACC,[],0,8⟩:=rfl
theorem yB:lk 272 AI=some ⟨ACD,[],0,8⟩:=rfl
theorem yC:lk 278 AI=some ⟨ACE,[],0,8⟩:=rfl
theorem yD:lk 281 AI=some ⟨ACF,[],0,8⟩:=rfl
theorem yE:lk 282 AI=some ⟨ACG,[],0,8⟩:=rfl
theorem yF:lk 287 AI=some ⟨ACH,[(0,1),(1,1)],0,32⟩:=rfl
theorem yG:lk 288 AI=some ⟨A9o,[(0,1),(1,1)],0,32⟩:=rfl
end
section
open Go Go.RowKit
section
variable {c:Cx} {R:Exit->Act->World->Prop} {k:List DJ} {σ σ':St}
end
end
section
open Go Go.RowKit Go.ChangeShapes Go.WideShapes
set_option maxRecDepth 100000
def yH (r:Ty->TypeId->Bool) (P:Program):Ty->Nat->List Field->Bool
 | .prod a b,o,fs=>match fs with
  | f :: fs=>f.offset==o&&P.cellsOf f.type==a.size&&r a f.type&&yH r P b (o+a.size) fs
  | []=>false
 | s,o,[f]=>f.offset==o&&P.cellsOf f.type==s.size&&r s f.type
 | _,_,_=>false
def A0F (P:Program) (m:Nat) (e:TypeId):List Field:=(List.range m).map λi=>{ (default:Field) with offset:=i*P.cellsOf e,type:=e }
def rd (P:Program):Nat->Ty->TypeId->Bool
 | 0,_,_=>false
 | _+1,.int k,t=>isI k (P.underlying t)
 | _+1,.bool,t=>match P.underlying t with|some .bool=>true|_=>false
 | _+1,.str,t=>match P.underlying t with|some .string=>true|_=>false
 | n+1,.slice e,t=>match P.underlying t with|some (.slice et)=>decide (0<P.bytesOf et)&&P.cellsOf et==e.size&&rd P n e et|_=>false
 | n+1,.agg s,t=>match P.underlying t with|some (.struct fs)=>P.cellsOf t==s.size&&yH (rd P n) P s 0 fs.toList|some (.array m e)=>P.cellsOf t==s.size&&yH (rd P n) P s 0 (A0F P m e)|_=>false
 | _+1,_,_=>false
theorem yI {P:Program} {n:Nat} {t:TypeId} (h:rd P (n+1) .bool t=true):P.underlying t=some .bool:=by
 simp only[rd]at h;split at h
 .assumption
 cases h
theorem A31 {P:Program} {n:Nat} {t:TypeId} (h:rd P (n+1) .str t=true):P.underlying t=some .string:=by
 simp only[rd]at h;split at h
 .assumption
 cases h
theorem iX {P:Program} {n:Nat} {e:Ty} {t:TypeId} (h:rd P (n+1) (.slice e) t=true):∃et,P.underlying t=some (.slice et)/\0<P.bytesOf et/\P.cellsOf et=e.size/\rd P n e et=true:=by
 simp only[rd]at h;split at h
 .rename_i et hu;simp only[An,DO,UP]at h;exact⟨et,hu,h.1.1,h.1.2,h.2⟩
 cases h
theorem A32 {P:Program} {n:Nat} {s:Ty} {t:TypeId} (h:rd P (n+1) (.agg s) t=true):(∃fs,P.underlying t=some (.struct fs)/\P.cellsOf t=s.size/\yH (rd P n) P s 0 fs.toList=true)\/∃m e,P.underlying t=some (.array m e)/\P.cellsOf t=s.size/\yH (rd P n) P s 0 (A0F P m e)=true:=by
 simp only[rd]at h;split at h
 .rename_i fs hu;simp only[An,UP]at h;exact .inl ⟨fs,hu,h.1,h.2⟩
 .rename_i m e hu;simp only[An,UP]at h;exact .inr ⟨m,e,hu,h.1,h.2⟩
 cases h
theorem A0G {w:World} {base:Nat} {a:Addr} {n:Nat} {cs:List Value} (h:w.cells? base a n=some cs):cs.length=n/\∀(j:Nat) (v:Value),cs[j]?=some v->w.cell? (a.add j)=some v:=by
 unfold World.cells? at h;split at h
 .have h1:=mapM_some_length h;simp only[ADf]at h1;refine⟨h1,λj v b=>?_⟩;have c:j<n:=by
   obtain⟨c,_⟩:=Tm.1 b;omega
  rw[mapM_some_get h j j (by simp[c]),b]
 cases h
section
variable {H:Type} {enc:TypeId×Value->H} {P:Program} {w:World} {spare:Nat->Bool} {held:Bool}
theorem iY {e:TypeId}:∀ {l:List (DataW H)} {d:DataW H},d∈l->∀n∈d.weights P e,n∈DataW.weightsAll P e l
 | a :: l,d,b,n,hn=>by
  simp only[DataW.weightsAll,IF];rcases By.1 b with rfl|b
  .exact .inl hn
  exact .inr (iY b n hn)
 | [],_,b,_,_=>by cases b
theorem Zp {b:List TypeId} {a:List (DataW H)}:∀ {ts:List TypeId} {ds:List (DataW H)},∀n∈DataW.weightsEach P ts ds,n∈DataW.weightsEach P (ts++b) (ds++a)
 | t :: ts,d :: ds,n,hn=>by
  simp only[DataW.weightsEach,Yk,IF]at hn ⊢;rcases hn with hn|hn
  .exact .inl hn
  exact .inr (Zp n hn)
 | [],_,n,hn=>by simp[DataW.weightsEach]at hn
 | _ :: _,[],n,hn=>by simp[DataW.weightsEach]at hn
theorem Zq {e:TypeId}:∀ {m:Nat} {k:Nat} {ds:List (DataW H)},∀n∈DataW.weightsEach P (((List.range' k m).map λi=>({ (default:Field) with offset:=i*P.cellsOf e,type:=e }:Field)).map (·.type)) ds,n∈DataW.weightsAll P e ds
 | 0,_,ds,n,hn=>by simp[DataW.weightsEach]at hn
 | m+1,k,[],n,hn=>by
  rw[List.range'_succ]at hn;simp[DataW.weightsEach]at hn
 | m+1,k,d :: ds,n,hn=>by
  rw[List.range'_succ]at hn;simp only[UD,DataW.weightsEach,IF]at hn;simp only[DataW.weightsAll,IF];rcases hn with hn|hn
  .exact .inl hn
  exact .inr (Zq n hn)
theorem Sx {n:Nat} {r:Ty->TypeId->Bool}
  (A:∀ty t,r ty t=true->∀(cs:List Value) (x:DataW H×List MemPlace),DataW.trod enc P w 0 spare held n t cs=some x->(∀b∈x.1.weights P t,b<=reachBytes)->∃d:ty.den,Bv w (λ_=>False) ty cs d) (cs:List Value) :
  ∀(s:Ty) (o:Nat) (fs:List Field),yH r P s o fs=true->∀xs:List (DataW H×List MemPlace),xs.length=fs.length ->
   (∀(i:Nat) (f:Field),fs[i]?=some f->DataW.trod enc P w 0 spare held n f.type ((cs.drop f.offset).take (P.cellsOf f.type))=xs[i]?) ->
   (∀b∈DataW.weightsEach P (fs.map (·.type)) (xs.map (·.1)),b<=reachBytes)->∃d:s.den,Bv w (λ_=>False) s ((cs.drop o).take s.size) d:=by
 have one:∀(s:Ty) (o:Nat) (f:Field),(f.offset==o&&P.cellsOf f.type==s.size&&r s f.type)=true->∀x:DataW H×List MemPlace,
   DataW.trod enc P w 0 spare held n f.type ((cs.drop f.offset).take (P.cellsOf f.type))=some x ->
   (∀b∈x.1.weights P f.type,b<=reachBytes)->∃d:s.den,Bv w (λ_=>False) s ((cs.drop o).take s.size) d:=by
  intro s o f h x j c;simp only[An,UP]at h;obtain⟨⟨rfl,p⟩,q⟩:=h;rw[<-p];exact A s f.type q _ x j c
 have lone:∀(s:Ty) (o:Nat) (f:Field),(f.offset==o&&P.cellsOf f.type==s.size&&r s f.type)=true->∀xs:List (DataW H×List MemPlace),xs.length=[f].length ->
   (∀(i:Nat) (g:Field),[f][i]?=some g->DataW.trod enc P w 0 spare held n g.type ((cs.drop g.offset).take (P.cellsOf g.type))=xs[i]?) ->
   (∀b∈DataW.weightsEach P ([f].map (·.type)) (xs.map (·.1)),b<=reachBytes)->∃d:s.den,Bv w (λ_=>False) s ((cs.drop o).take s.size) d:=by
  intro s o f h xs m j c;obtain⟨x,rfl⟩:∃x,xs=[x]:=Y2.1 (by simpa using m);exact one s o f h x (j 0 f rfl) (λb l=>c b (by simp[DataW.weightsEach,l]))
 intro s;induction s with
 | prod a b E B =>
  intro o fs h xs m j c;cases fs with
  | nil=>simp[yH]at h
  | cons f fs =>
   simp only[yH,An]at h;obtain⟨⟨⟨h1,p⟩,q⟩,y⟩:=h;obtain⟨x,ys,rfl⟩:∃x ys,xs=x :: ys:=List.exists_cons_of_ne_nil (by intro h;subst h;simp at m);obtain⟨u,C⟩:=one a o f (by simp only[h1,p,q,Bool.and_self]) x (j 0 f rfl) (λb l=>c b (by
     simp only[UD,DataW.weightsEach,IF];exact .inl l))
   obtain⟨v,D⟩:=B (o+a.size) fs y ys (by simpa using m) (λi g z=>j (i+1) g z) (λb l=>c b (by
     simp only[UD,DataW.weightsEach,IF];exact .inr l))
   refine⟨(u,v),(cs.drop o).take a.size,(cs.drop (o+a.size)).take b.size,?_,C,D⟩;show (cs.drop o).take (a.size+b.size)=_;rw[List.take_add,ADj]
 | int k=>intro o fs h;match fs,h with|[f],h=>exact lone _ o f (by simpa only[yH] using h)
 | bool=>intro o fs h;match fs,h with|[f],h=>exact lone _ o f (by simpa only[yH] using h)
 | str=>intro o fs h;match fs,h with|[f],h=>exact lone _ o f (by simpa only[yH] using h)
 | slice e _=>intro o fs h;match fs,h with|[f],h=>exact lone _ o f (by simpa only[yH] using h)
 | agg t _=>intro o fs h;match fs,h with|[f],h=>exact lone _ o f (by simpa only[yH] using h)
 | ref k=>intro o fs h;match fs,h with|[f],h=>exact lone _ o f (by simpa only[yH] using h)
theorem A33:∀(k:Nat) (ty:Ty) (t:TypeId),rd P k ty t=true->∀(n:Nat) (cs:List Value) (x:DataW H×List MemPlace),
  DataW.trod enc P w 0 spare held n t cs=some x->(∀b∈x.1.weights P t,b<=reachBytes)->∃d:ty.den,Bv w (λ_=>False) ty cs d:=by
 intro k;induction k with
 | zero=>intro ty t h;simp[rd]at h
 | succ k B =>
  intro ty t h n cs x c l;cases ty with
  | int q =>
   have hu:=Vp (by simpa only[rd] using h);obtain⟨m,rfl,rfl,F⟩:=DataW.trod_int hu c;simp only[Lit.wf,An,DO]at F;exact⟨m,rfl,F⟩
  | bool =>
   obtain⟨b,rfl,rfl⟩:=DataW.trod_bool (yI h) c;exact⟨b,rfl⟩
  | str =>
   obtain⟨b,rfl,rfl,_⟩:=DataW.trod_string (A31 h) c;refine⟨b,rfl,?_⟩;have:=l b.data.toList.length (by simp only[DataW.weights];exact gO);have p:b.data.toList.length=b.size:=ADW;simp only[reachBytes]at this;simp only[AO];omega
  | slice e =>
   obtain⟨et,hu,L,C,u⟩:=iX h;rcases DataW.trod_slice hu c with ⟨rfl,rfl⟩|⟨a,len,cap,elems,rest,m,rfl,rfl,rfl,-,U,-,V,Q,-,-⟩
   .exact⟨[],none,0,rfl,Is _,IS _,.inl rfl⟩
   have X:len<=AO:=by
    have h1:=l ((elems.length+rest.length)*P.bytesOf et) (by simp only[DataW.weights,hu,OF];exact gO);have p:elems.length+rest.length<=(elems.length+rest.length)*P.bytesOf et:=Nat.le_mul_of_pos_right _ L;simp only[reachBytes]at h1;simp only[AO];omega
   have D:∀i,i<len->∃d:e.den,∃g:List Value,g.length=e.size/\(∀(j:Nat) (v:Value),g[j]?=some v->w.cell? (a.add (i*e.size+j))=some v)/\Bv w (λ_=>False) e g d:=by
    intro i hi;have h1:=Q i hi;obtain⟨x,c⟩:∃x,elems[i]?=some x:=⟨_,AT (by omega)⟩;rw[c]at h1;obtain⟨g,p,G⟩:=Option.bind_eq_some_iff.1 h1;obtain⟨I,J⟩:=A0G p;obtain⟨d,o⟩:=B e et u m g x G (λb r=>l b (by
     simp only[DataW.weights,hu];exact NO _ (UK _ (iY (If.2 ⟨x,UW c,rfl⟩) b r))))
    refine⟨d,g,by rw[I,C],λj v S=>?_,o⟩;have:=J j v S
    rwa [DF,C]at this
   have K:∃ds:List e.den,ds.length=len/\∀(i:Nat) (d:e.den),ds[i]?=some d->∃g:List Value,g.length=e.size/\(∀(j:Nat) (v:Value),g[j]?=some v->w.cell? (a.add (i*e.size+j))=some v)/\Bv w (λ_=>False) e g d:=by
    refine⟨(List.range len).pmap (λi hi=>Classical.choose (D i hi)) (λi hi=>Tx.1 hi),by simp,λi d o=>?_⟩;rw[List.getElem?_pmap]at o;simp only[Option.pmap_eq_some_iff]at o;obtain⟨j,h1,p,rfl⟩:=o;have R:j=i:=by
     obtain⟨W,u⟩:=Tm.1 p;simpa using u.symm
    subst R;exact Classical.choose_spec (D j h1)
   obtain⟨ds,N,O⟩:=K;exact⟨ds,some a,cap,by rw[N],by omega,by omega,.inr ⟨a,rfl,λh=>h,O⟩⟩
  | agg s =>
   rcases A32 h with ⟨fs,hu,M,hf⟩|⟨q,e,hu,M,hf⟩
   .obtain⟨xs,m,rfl,rfl,T,z,A⟩:=DataW.trod_struct hu c;obtain⟨d,o⟩:=Sx (λty t y cs x c l=>B ty t y m cs x c l) cs s 0 fs.toList hf xs (by simpa using z) (λi f hi=>A i f (by simpa using hi)) (by
     simpa[DataW.weights,hu] using l)
    refine⟨d,?_⟩;show Bv w _ s cs d
    rwa [UR,At (by omega)]at o
   obtain⟨xs,m,rfl,rfl,T,z,A⟩:=DataW.trod_array hu c;obtain⟨d,o⟩:=Sx (λty t y cs x c l=>B ty t y m cs x c l) cs s 0 (A0F P q e) hf xs (by simp[A0F,z]) (λi f hi=>by
    unfold A0F at hi;rw[UO]at hi;by_cases E:i<q
    .rw[Ya E]at hi;have hi:({ (default:Field) with offset:=i*P.cellsOf e,type:=e }:Field)=f:=by simpa using hi
     rw[<-hi];exact A i E
    .rw[Ts (by simp;omega)]at hi;cases hi) (λb r=>l b (by
    simp only[DataW.weights,hu];unfold A0F at r;rw[List.range_eq_range']at r;exact Zq b r))
   refine⟨d,?_⟩;show Bv w _ s cs d
   rwa [UR,At (by omega)]at o
  | prod a b=>simp[rd]at h
  | ref j=>simp[rd]at h
theorem A77 {k:Nat} {ty:Ty} {t:TypeId} {v:Value} {r:Reach} {base:Nat} (h:rd P k ty t=true) (d:Value.okWide P w r base t v):v=ty.wrap v.cells.toList:=by
 cases k with
 | zero=>simp[rd]at h
 | succ k =>
  cases ty with
  | int q =>
   obtain⟨n,rfl⟩:=okWide_int (Vp (by simpa only[rd] using h)) d;rfl
  | bool =>
   obtain⟨n,rfl⟩:=okWide_bool (yI h) d;rfl
  | str =>
   obtain⟨n,rfl⟩:=okWide_string (A31 h) d;rfl
  | slice e =>
   obtain⟨et,hu,_⟩:=iX h;obtain⟨a,l,c,rfl⟩:=okWide_slice hu d;rfl
  | agg s =>
   rcases A32 h with ⟨fs,hu,_⟩|⟨q,e,hu,_⟩
   .obtain⟨cs,rfl,_⟩:=okWide_struct hu d;simp[Ty.wrap,Value.cells]
   simp only[Value.okWide,hu]at d;obtain⟨cs,rfl,_⟩:=d;simp[Ty.wrap,Value.cells]
  | prod a b=>simp[rd]at h
  | ref j=>simp[rd]at h
def Nt (P:Program):List Ty->List TypeId->Bool
 | [],[]=>true
 | ty :: a,t :: ts=>rd P 50 ty t&&P.readableRec t&&decide (t<P.types.size)&&Nt P a ts
 | _,_=>false
theorem iZ {r:Reach} {base:Nat}:∀(a:List Ty) (ts:List TypeId) (c:List Value) (ds:List (DataW H)) (p:List MemPlace),Nt P a ts=true->DataW.TrodAll enc P w 0 spare held ts c ds p ->
  (∀(j:Nat) (t:TypeId) (v:Value),ts[j]?=some t->c[j]?=some v->Value.okWide P w r base t v)->(∀b∈DataW.weightsEach P ts ds,b<=reachBytes)->∃xs:KE a,Po w (λ_=>False) a c xs
 | [],[],c,ds,p,_,h,_,_=>by
  obtain⟨rfl,_,_⟩:=trodAll_nil h;exact⟨(),rfl⟩
 | ty :: a,t :: ts,c,ds,p,g,h,i,e=>by
  simp only[Nt,An]at g;obtain⟨⟨⟨h1,_⟩,_⟩,m⟩:=g;obtain⟨v,k,d,l,D,A,rfl,rfl,rfl,⟨n,o⟩,q⟩:=trodAll_cons h;simp only[DataW.weightsEach,IF]at e;obtain⟨x,y⟩:=A33 50 ty t h1 n _ _ o (λb f=>e b (.inl f));obtain⟨xs,z⟩:=iZ a ts k l A m q (λj B C s u=>i (j+1) B C s u) (λb f=>e b (.inr f));exact⟨(x,xs),v,k,rfl,⟨_,y,A77 h1 (i 0 t v rfl rfl)⟩,z⟩
 | [],_ :: _,_,_,_,h,_,_,_=>by simp[Nt]at h
 | _ :: _,[],_,_,_,h,_,_,_=>by simp[Nt]at h
theorem Zr (i:laidOutB P=true) {W f:World} (g:Below W.heap.size W f):∀(e:List Ty) (ts:List TypeId) (a:List Value) (ds:List (DataW H)) (p:List MemPlace),Nt P e ts=true ->
  DataW.TrodAll enc P W 0 (λ_=>true) true ts a ds p->(∀x∈p,x.block<W.heap.size)->DataW.TrodAll enc P f 0 (λb=>decide (b<W.heap.size)) true ts a ds p
 | [],[],a,ds,p,_,h,_=>by
  obtain⟨rfl,rfl,rfl⟩:=trodAll_nil h;rfl
 | ty :: e,t :: ts,a,ds,p,k,h,j=>by
  simp only[Nt,An,DO]at k;obtain⟨⟨⟨_,h1⟩,n⟩,o⟩:=k;obtain⟨v,u,d,m,s,l,rfl,rfl,rfl,q,r⟩:=trodAll_cons h;exact⟨s,l,Below.trod i h1 n q g (λx c=>j x (UK _ c)),Zr i g e ts u m l o r (λx c=>j x (Yu _ c)),rfl⟩
 | [],_ :: _,_,_,_,h,_,_=>by simp[Nt]at h
 | _ :: _,[],_,_,_,h,_,_=>by simp[Nt]at h
end
theorem A34 {w:World} {O:Nat->Prop} {u:Value} {w':World} (h:A2f w O [.p .bool true] u w'):u=.bool true/\Below w.heap.size w w':=by
 obtain⟨ρ',a⟩:=h 0;refine⟨?_,a.below⟩;obtain⟨cs,h1,b⟩:BS _ _ .bool u true:=a.av;have h1:cs=[.bool true]:=h1;rw[b,h1];rfl
theorem Wh {P:Program} {f:FuncId} {fn:Func} {sp:AZ} {s:ChangeSpec} {tb:TypeId} (J:Ab P f sp) (L:∀ds,sp.pre ds) (K:∀ds,sp.out ds=[.p .bool true])
  (F:laidOutB P=true) (r:Nt P sp.ins fn.params.toList=true) (N:fn.resultTypes=#[tb]) (D:P.underlying tb=some .bool) (w:s.vars=[])
  (hs:∀(H:Type) (ds:List (DataW H)),ds.length=fn.params.size->(s.fn H ds).results=[.lit (.bool true)]/\(s.fn H ds).args=ds/\(s.fn H ds).vars=[])
  {H:Type} {enc:TypeId×Value->H} {W:World} {base:Nat} {args:Array Value} {ds l:List (DataW H)} {y:List MemPlace} {X:List TypeId}
  (S:∀(j:Nat) t v,fn.params[j]?=some t->args[j]?=some v->Value.okWide P W .any base t v)
  (n:DataW.Whole enc P fn.params.toList s.vars false W args.toList ds l y)
  (O:(DataW.weightsEach P (fn.params.toList++X) (ds++l)).all (·<=reachBytes)=true) :
  Calls P f args W λe k=>∃v,e=.returned v/\s.post enc P fn false true false false W args v k:=by
 have o:=n;obtain⟨p,q,c,m,rfl,Z,aa⟩:=n;rw[w]at m;obtain⟨rfl,rfl⟩:=trodVars_none m;obtain⟨xs,U⟩:=iZ sp.ins fn.params.toList args.toList ds p r c (λj t v Q R=>S j t v (by simpa using Q) (by simpa using R))
  (λb a=>by simpa using ON.1 O b (Zp b a))
 have I:∀x∈p,x.block<W.heap.size:=λx T=>by simpa using o.lt x (UK _ T)
 have G:ds.length=fn.params.size:=by
  have:∀(ts:List TypeId) (i:List Value) (ds:List (DataW H)) (p:List MemPlace),DataW.TrodAll enc P W 0 (λ_=>true) true ts i ds p->ds.length=ts.length:=by
   intro ts;induction ts with
   | nil=>intro i ds p h;obtain⟨_,rfl,_⟩:=trodAll_nil h;rfl
   | cons t ts V=>intro i ds p h;obtain⟨v,ae,d,Y,ab,ad,rfl,rfl,rfl,_,M⟩:=trodAll_cons h;simp[V _ _ _ M]
  simpa using this _ _ _ _ c
 have g:=J.2 W (λ_=>False) args.toList xs (λ_ h=>h.elim) U (L xs);rw[K]at g;have C:args.toList.toArray=args:=by simp
 rw[C]at g;refine g.mono λe k ⟨u,E,hu⟩=>?_;obtain⟨rfl,a⟩:=A34 hu;obtain⟨z,A,B⟩:=hs H (ds++[]) (by simpa using G);refine⟨_,E,_,_,_,[],p,[],o,?_,?_,?_,a.frame _,λh=>by cases h⟩
 .rw[z,N];exact trodAll_mk1 (shut_bool D _)
 .rw[A,UF];exact Zr F a sp.ins _ _ _ _ r c I
 rw[B,w];rfl
end
end Go.Proofs.YtapkhdkbkodbjaaGreat.Fw

/- This program's types; a slice compared with nil; from a contract to the given statement. -/
import Derived.Test.YtapkhdkbkodbjaaGreatHZI
import Derived.Test.YtapkhdkbkodbjaaGreatChecked
import Derived.Laws.Cover3
import Derived.Carry
import Derived.SizedLaws
import Derived.OpenShut
set_option linter.unusedVariables false
set_option linter.unusedSimpArgs false
namespace Go.Proofs.YtapkhdkbkodbjaaGreat.Fw
section
open Go
abbrev T1:Ty:=.ref 1
abbrev T2:Ty:=.int .i64
abbrev T3:Ty:=.int .i64
abbrev T4:Ty:=.bool
abbrev T5:Ty:=.int .u8
abbrev T9:Ty:=.str
abbrev T12:Ty:=.int .u64
abbrev T21:Ty:=.int .i32
abbrev T32:Ty:=.ref 1
abbrev T33:Ty:=.ref 1
abbrev T34:Ty:=.ref 1
abbrev Ls:Ty:=.int .i64
abbrev T36:Ty:=.ref 1
abbrev T37:Ty:=.ref 1
abbrev T41:Ty:=.ref 1
abbrev T43:Ty:=.ref 1
abbrev T44:Ty:=.ref 1
abbrev T45:Ty:=.ref 1
abbrev T46:Ty:=.ref 1
abbrev T47:Ty:=.ref 1
abbrev T48:Ty:=.ref 1
abbrev T49:Ty:=.ref 1
abbrev T50:Ty:=.ref 1
abbrev T56:Ty:=.ref 1
abbrev T57:Ty:=.ref 1
abbrev T58:Ty:=.ref 1
abbrev T59:Ty:=.ref 1
abbrev T60:Ty:=.ref 1
abbrev F3:Ty:=.slice T3
abbrev T63:Ty:=.ref 1
abbrev T65:Ty:=.ref 1
abbrev T66:Ty:=.ref 1
abbrev T67:Ty:=.ref 1
abbrev T68:Ty:=.ref 1
abbrev T70:Ty:=.ref 1
abbrev T71:Ty:=.ref 1
abbrev T72:Ty:=.ref 1
abbrev T73:Ty:=.ref 1
abbrev T74:Ty:=.ref 1
abbrev T75:Ty:=.ref 1
abbrev T76:Ty:=.ref 1
abbrev T78:Ty:=.ref 1
abbrev T80:Ty:=.ref 1
abbrev T81:Ty:=.ref 1
abbrev T82:Ty:=.ref 1
abbrev T84:Ty:=.ref 1
abbrev T85:Ty:=.ref 1
abbrev T87:Ty:=.ref 1
abbrev T89:Ty:=.ref 1
abbrev T90:Ty:=.ref 1
abbrev T94:Ty:=.ref 1
abbrev F4:Ty:=.slice T9
abbrev T96:Ty:=.ref 1
abbrev T97:Ty:=.ref 1
abbrev T98:Ty:=.ref 1
abbrev T99:Ty:=.ref 1
abbrev A9W:Ty:=.ref 1
abbrev A9X:Ty:=.ref 1
abbrev A9Y:Ty:=.ref 1
abbrev A9Z:Ty:=.ref 1
abbrev AA0:Ty:=.agg (.prod T3 (T3))
abbrev AU:Ty:=.agg (.prod T3 (T3))
abbrev AA1:Ty:=.ref 1
abbrev AA2:Ty:=.ref 0
abbrev AA3:Ty:=.ref 1
abbrev AA4:Ty:=.ref 1
abbrev AA5:Ty:=.ref 1
abbrev AA6:Ty:=.ref 1
abbrev AA7:Ty:=.ref 2
abbrev AA8:Ty:=.ref 1
abbrev AA9:Ty:=.ref 1
abbrev AAa:Ty:=.ref 1
abbrev AAb:Ty:=.ref 1
abbrev AAc:Ty:=.ref 1
abbrev AAd:Ty:=.ref 1
abbrev AAe:Ty:=.ref 1
abbrev AAf:Ty:=.ref 1
abbrev AAg:Ty:=.ref 1
abbrev AAh:Ty:=.ref 1
abbrev AAi:Ty:=.ref 1
abbrev AAj:Ty:=.ref 1
abbrev AAk:Ty:=.ref 1
abbrev AAl:Ty:=.ref 1
abbrev AAm:Ty:=.ref 1
abbrev AAn:Ty:=.ref 1
abbrev AAo:Ty:=.ref 1
abbrev AAp:Ty:=.ref 1
abbrev AAq:Ty:=.ref 1
abbrev AAr:Ty:=.ref 1
abbrev AAs:Ty:=.ref 1
abbrev AAt:Ty:=.ref 1
abbrev AAu:Ty:=.ref 1
abbrev AAv:Ty:=.agg (.prod T9 (T9))
abbrev q9:Ty:=.agg (.prod T9 (T9))
abbrev AAw:Ty:=.agg (.prod T9 (T3))
abbrev A20:Ty:=.agg (.prod T9 (T3))
abbrev AAx:Ty:=.ref 1
abbrev AAy:Ty:=.ref 1
abbrev AAz:Ty:=.ref 1
abbrev AAA:Ty:=.ref 1
abbrev AAB:Ty:=.ref 1
abbrev AAC:Ty:=.agg (.prod T3 (T3))
abbrev A21:Ty:=.agg (.prod T3 (T3))
abbrev AAD:Ty:=.ref 1
abbrev Rm:Ty:=.agg (.prod T3 (T3))
abbrev AAE:Ty:=.slice Rm
abbrev AAF:Ty:=.ref 1
abbrev AAG:Ty:=.ref 1
abbrev AAH:Ty:=.ref 1
abbrev AAI:Ty:=.ref 2
abbrev AAJ:Ty:=.ref 1
abbrev AAK:Ty:=.ref 1
abbrev AAL:Ty:=.ref 1
abbrev AAM:Ty:=.ref 1
abbrev AAN:Ty:=.ref 0
abbrev AAO:Ty:=.ref 1
abbrev QH:Ty:=.int .u64
abbrev AAP:Ty:=.ref 1
abbrev AAQ:Ty:=.ref 1
abbrev AAR:Ty:=.ref 1
abbrev AAS:Ty:=.ref 1
abbrev AAT:Ty:=.ref 1
abbrev AAU:Ty:=.ref 1
abbrev AAV:Ty:=.ref 1
abbrev AAW:Ty:=.ref 1
abbrev AAX:Ty:=.ref 1
abbrev AAY:Ty:=.ref 1
abbrev AAZ:Ty:=.ref 1
abbrev AB0:Ty:=.ref 1
abbrev AB1:Ty:=.ref 1
abbrev AB2:Ty:=.ref 0
abbrev AB3:Ty:=.ref 1
abbrev AB4:Ty:=.ref 1
abbrev AB5:Ty:=.ref 1
abbrev AB6:Ty:=.ref 1
abbrev AB7:Ty:=.ref 1
abbrev AB8:Ty:=.ref 1
abbrev AB9:Ty:=.ref 1
abbrev ABa:Ty:=.ref 1
abbrev ABb:Ty:=.ref 1
abbrev ABc:Ty:=.ref 1
abbrev ABd:Ty:=.ref 1
abbrev ABe:Ty:=.ref 1
abbrev ABf:Ty:=.ref 1
abbrev ABg:Ty:=.ref 1
abbrev ABh:Ty:=.ref 1
abbrev ABi:Ty:=.ref 1
abbrev ABj:Ty:=.ref 1
abbrev ABk:Ty:=.ref 1
abbrev ABl:Ty:=.ref 1
abbrev ABm:Ty:=.ref 1
abbrev ABn:Ty:=.ref 1
abbrev ABo:Ty:=.ref 1
abbrev ABp:Ty:=.ref 1
abbrev ABq:Ty:=.ref 1
abbrev ABr:Ty:=.ref 1
abbrev ABs:Ty:=.ref 1
abbrev ABt:Ty:=.ref 1
abbrev ABu:Ty:=.ref 1
abbrev ABv:Ty:=.ref 1
abbrev ABw:Ty:=.ref 1
abbrev ABx:Ty:=.ref 1
abbrev ABy:Ty:=.ref 1
abbrev ABz:Ty:=.ref 1
abbrev ABA:Ty:=.ref 1
abbrev ABB:Ty:=.ref 1
abbrev ABC:Ty:=.ref 1
abbrev ABD:Ty:=.int .u64
abbrev ABE:Ty:=.ref 1
abbrev ABF:Ty:=.ref 1
abbrev ABG:Ty:=.ref 1
abbrev ABH:Ty:=.ref 1
abbrev ABI:Ty:=.ref 1
abbrev ABJ:Ty:=.ref 1
abbrev ABK:Ty:=.ref 1
abbrev ABL:Ty:=.ref 1
abbrev ABM:Ty:=.int .i64
abbrev ABN:Ty:=.ref 1
abbrev ABO:Ty:=.ref 1
abbrev ABP:Ty:=.ref 1
abbrev ABQ:Ty:=.ref 1
abbrev ABR:Ty:=.ref 1
abbrev ABS:Ty:=.int .u32
abbrev ABT:Ty:=.ref 1
abbrev ABU:Ty:=.ref 1
abbrev ABV:Ty:=.ref 1
abbrev ABW:Ty:=.int .u64
abbrev ABX:Ty:=.ref 1
abbrev ABY:Ty:=.ref 1
abbrev ABZ:Ty:=.ref 1
abbrev AC0:Ty:=.ref 0
abbrev AC1:Ty:=.ref 1
abbrev AC2:Ty:=.ref 0
abbrev AC3:Ty:=.ref 1
abbrev AC4:Ty:=.ref 1
abbrev AC5:Ty:=.ref 1
abbrev AC6:Ty:=.ref 1
abbrev AC7:Ty:=.ref 0
abbrev AC8:Ty:=.agg (.prod T9 (T9))
abbrev A8F:Ty:=.agg (.prod T9 (T9))
abbrev Yu:Ty:=.slice A20
abbrev T51:Ty:=.slice A8F
abbrev T52:Ty:=.agg (.prod T3 (T51))
abbrev T53:Ty:=.agg (.prod T3 (T51))
abbrev DN:Ty:=.slice AU
abbrev T92:Ty:=.agg (.prod T3 (DN))
abbrev NN:Ty:=.agg (.prod T3 (DN))
abbrev A6c:Ty:=.slice DN
abbrev AC9:Ty:=.slice QH
abbrev BU:Ty:=.slice QH
abbrev Vs:Ty:=.slice A21
abbrev ACa:Ty:=.agg (.prod T9 (.prod BU (.prod F3 (Vs))))
abbrev rA:Ty:=.agg (.prod T9 (.prod BU (.prod F3 (Vs))))
abbrev A6d:Ty:=.slice Vs
abbrev ACb:Ty:=.agg (.prod T9 (BU))
abbrev bJ:Ty:=.agg (.prod T9 (BU))
abbrev f2:Ty:=.slice q9
abbrev ACc:Ty:=.agg (.prod T9 (.prod F4 (f2)))
abbrev y5:Ty:=.agg (.prod T9 (.prod F4 (f2)))
abbrev Tx:Ty:=.slice BU
abbrev FM:Ty:=.slice y5
abbrev Fe:Ty:=.slice NN
abbrev T24:Ty:=.agg (Fe)
abbrev Dw:Ty:=.agg (Fe)
abbrev T26:Ty:=.agg (.prod T9 (.prod T3 (Dw)))
abbrev T27:Ty:=.agg (.prod T9 (.prod T3 (Dw)))
abbrev Xz:Ty:=.slice rA
abbrev T30:Ty:=.agg (.prod Xz (Yu))
abbrev Eg:Ty:=.agg (.prod Xz (Yu))
abbrev T38:Ty:=.slice Dw
abbrev T39:Ty:=.agg (.prod FM (.prod T27 (.prod T38 (T38))))
abbrev T40:Ty:=.agg (.prod FM (.prod T27 (.prod T38 (T38))))
abbrev T54:Ty:=.agg (.prod T9 (.prod T53 (Dw)))
abbrev T55:Ty:=.agg (.prod T9 (.prod T53 (Dw)))
abbrev ACd:Ty:=.agg (.prod Eg (.prod F3 (.prod F3 (A6c))))
abbrev ACe:Ty:=.agg (.prod Eg (.prod F3 (.prod F3 (A6c))))
abbrev ACf:Ty:=.agg (.prod Eg (.prod T3 (.prod T3 (.prod T3 (.prod T3 (.prod T3 (.prod T3 (.prod T3 (T3)))))))))
abbrev f4:Ty:=.agg (.prod Eg (.prod T3 (.prod T3 (.prod T3 (.prod T3 (.prod T3 (.prod T3 (.prod T3 (T3)))))))))
abbrev KG:Ty:=.slice bJ
abbrev ACg:Ty:=.agg (.prod Dw (.prod F3 (F3)))
abbrev ACh:Ty:=.agg (.prod Dw (.prod F3 (F3)))
abbrev ACi:Ty:=.agg (.prod Eg (.prod F3 (F3)))
abbrev ACj:Ty:=.agg (.prod Eg (.prod F3 (F3)))
set_option maxRecDepth 100000
def AJ:List (Nat×TI):=[(1,⟨T1,[],0,8⟩),
 (2,⟨T2,[],0,8⟩),
 (3,⟨T3,[],0,8⟩),
 (4,⟨T4,[],0,1⟩),
 (5,⟨T5,[],0,1⟩),
 (9,⟨T9,[],0,16⟩),
 (12,⟨T12,[],0,8⟩),
 (21,⟨T21,[],0,4⟩),
 (22,⟨FM,[],158,24⟩),
 (23,⟨Fe,[],93,24⟩),
 (24,⟨T24,[(0,1)],0,24⟩),
 (25,⟨Dw,[(0,1)],0,24⟩),
 (26,⟨T26,[(0,1),(1,1),(2,1)],0,48⟩),
 (27,⟨T27,[(0,1),(1,1),(2,1)],0,48⟩),
 (28,⟨Xz,[],144,24⟩),
 (29,⟨Yu,[],163,24⟩),
 (30,⟨T30,[(0,1),(1,1)],0,48⟩),
 (31,⟨Eg,[(0,1),(1,1)],0,48⟩),
 (32,⟨T32,[],0,8⟩),
 (33,⟨T33,[],0,8⟩),
 (34,⟨T34,[],0,8⟩),
 (35,⟨Ls,[],0,8⟩),
 (36,⟨T36,[],0,8⟩),
 (37,⟨T37,[],0,8⟩),
 (38,⟨T38,[],25,24⟩),
 (39,⟨T39,[(0,1),(1,3),(4,1),(5,1)],0,120⟩),
 (40,⟨T40,[(0,1),(1,3),(4,1),(5,1)],0,120⟩),
 (41,⟨T41,[],0,8⟩),
 (43,⟨T43,[],0,8⟩),
 (44,⟨T44,[],0,8⟩),
 (45,⟨T45,[],0,8⟩),
 (46,⟨T46,[],0,8⟩),
 (47,⟨T47,[],0,8⟩),
 (48,⟨T48,[],0,8⟩),
 (49,⟨T49,[],0,8⟩),
 (50,⟨T50,[],0,8⟩),
 (51,⟨T51,[],288,24⟩),
 (52,⟨T52,[(0,1),(1,1)],0,32⟩),
 (53,⟨T53,[(0,1),(1,1)],0,32⟩),
 (54,⟨T54,[(0,1),(1,2),(3,1)],0,72⟩),
 (55,⟨T55,[(0,1),(1,2),(3,1)],0,72⟩),
 (56,⟨T56,[],0,8⟩),
 (57,⟨T57,[],0,8⟩),
 (58,⟨T58,[],0,8⟩),
 (59,⟨T59,[],0,8⟩),
 (60,⟨T60,[],0,8⟩),
 (61,⟨F3,[],3,24⟩),
 (63,⟨T63,[],0,8⟩),
 (65,⟨T65,[],0,8⟩),
 (66,⟨T66,[],0,8⟩),
 (67,⟨T67,[],0,8⟩),
 (68,⟨T68,[],0,8⟩),
 (70,⟨T70,[],0,8⟩),
 (71,⟨T71,[],0,8⟩),
 (72,⟨T72,[],0,8⟩),
 (73,⟨T73,[],0,8⟩),
 (74,⟨T74,[],0,8⟩),
 (75,⟨T75,[],0,8⟩),
 (76,⟨T76,[],0,8⟩),
 (78,⟨T78,[],0,8⟩),
 (80,⟨T80,[],0,8⟩),
 (81,⟨T81,[],0,8⟩),
 (82,⟨T82,[],0,8⟩),
 (84,⟨T84,[],0,8⟩),
 (85,⟨T85,[],0,8⟩),
 (87,⟨T87,[],0,8⟩),
 (89,⟨T89,[],0,8⟩),
 (90,⟨T90,[],0,8⟩),
 (91,⟨DN,[],106,24⟩),
 (92,⟨T92,[(0,1),(1,1)],0,32⟩),
 (93,⟨NN,[(0,1),(1,1)],0,32⟩),
 (94,⟨T94,[],0,8⟩),
 (95,⟨F4,[],9,24⟩),
 (96,⟨T96,[],0,8⟩),
 (97,⟨T97,[],0,8⟩),
 (98,⟨T98,[],0,8⟩),
 (99,⟨T99,[],0,8⟩),
 (100,⟨A9W,[],0,8⟩),
 (101,⟨A9X,[],0,8⟩),
 (103,⟨A9Y,[],0,8⟩),
 (104,⟨A9Z,[],0,8⟩),
 (105,⟨AA0,[(0,1),(1,1)],0,16⟩),
 (106,⟨AU,[(0,1),(1,1)],0,16⟩),
 (107,⟨AA1,[],0,8⟩),
 (108,⟨AA2,[],0,8⟩),
 (109,⟨A6c,[],91,24⟩),
 (110,⟨ACd,[(0,2),(2,1),(3,1),(4,1)],0,120⟩),
 (111,⟨ACe,[(0,2),(2,1),(3,1),(4,1)],0,120⟩),
 (112,⟨AA3,[],0,8⟩),
 (113,⟨AA4,[],0,8⟩),
 (114,⟨ACf,[(0,2),(2,1),(3,1),(4,1),(5,1),(6,1),(7,1),(8,1),(9,1)],0,112⟩),
 (115,⟨f4,[(0,2),(2,1),(3,1),(4,1),(5,1),(6,1),(7,1),(8,1),(9,1)],0,112⟩),
 (117,⟨AA5,[],0,8⟩),
 (118,⟨AA6,[],0,8⟩),
 (119,⟨AA7,[(3,4)],0,8⟩),
 (120,⟨AA8,[],0,8⟩),
 (121,⟨AA9,[],0,8⟩),
 (122,⟨AAa,[],0,8⟩),
 (123,⟨AAb,[],0,8⟩),
 (124,⟨AAc,[],0,8⟩),
 (125,⟨AAd,[],0,8⟩),
 (126,⟨AAe,[],0,8⟩),
 (127,⟨AAf,[],0,8⟩),
 (128,⟨AAg,[],0,8⟩),
 (129,⟨AAh,[],0,8⟩),
 (130,⟨AAi,[],0,8⟩),
 (132,⟨AAj,[],0,8⟩),
 (133,⟨AAk,[],0,8⟩),
 (134,⟨AAl,[],0,8⟩),
 (136,⟨AAm,[],0,8⟩),
 (137,⟨AAn,[],0,8⟩),
 (138,⟨AAo,[],0,8⟩),
 (139,⟨AC9,[],186,24⟩),
 (140,⟨BU,[],186,24⟩),
 (141,⟨AAp,[],0,8⟩),
 (142,⟨Vs,[],170,24⟩),
 (143,⟨ACa,[(0,1),(1,1),(2,1),(3,1)],0,88⟩),
 (144,⟨rA,[(0,1),(1,1),(2,1),(3,1)],0,88⟩),
 (145,⟨A6d,[],142,24⟩),
 (147,⟨AAq,[],0,8⟩),
 (148,⟨KG,[],152,24⟩),
 (150,⟨AAr,[],0,8⟩),
 (151,⟨ACb,[(0,1),(1,1)],0,40⟩),
 (152,⟨bJ,[(0,1),(1,1)],0,40⟩),
 (153,⟨AAs,[],0,8⟩),
 (155,⟨AAt,[],0,8⟩),
 (156,⟨f2,[],161,24⟩),
 (157,⟨ACc,[(0,1),(1,1),(2,1)],0,64⟩),
 (158,⟨y5,[(0,1),(1,1),(2,1)],0,64⟩),
 (159,⟨AAu,[],0,8⟩),
 (160,⟨AAv,[(0,1),(1,1)],0,32⟩),
 (161,⟨q9,[(0,1),(1,1)],0,32⟩),
 (162,⟨AAw,[(0,1),(1,1)],0,24⟩),
 (163,⟨A20,[(0,1),(1,1)],0,24⟩),
 (164,⟨AAx,[],0,8⟩),
 (165,⟨AAy,[],0,8⟩),
 (166,⟨AAz,[],0,8⟩),
 (167,⟨AAA,[],0,8⟩),
 (168,⟨AAB,[],0,8⟩),
 (169,⟨AAC,[(0,1),(1,1)],0,16⟩),
 (170,⟨A21,[(0,1),(1,1)],0,16⟩),
 (171,⟨AAD,[],0,8⟩),
 (172,⟨Rm,[(0,1),(1,1)],3,16⟩),
 (173,⟨AAE,[],172,24⟩),
 (174,⟨AAF,[],0,8⟩),
 (175,⟨AAG,[],0,8⟩),
 (176,⟨AAH,[],0,8⟩),
 (177,⟨AAI,[(3,3)],0,8⟩),
 (178,⟨AAJ,[],0,8⟩),
 (179,⟨AAK,[],0,8⟩),
 (180,⟨AAL,[],0,8⟩),
 (181,⟨AAM,[],0,8⟩),
 (182,⟨AAN,[],0,8⟩),
 (183,⟨ACg,[(0,1),(1,1),(2,1)],0,72⟩),
 (184,⟨ACh,[(0,1),(1,1),(2,1)],0,72⟩),
 (185,⟨AAO,[],0,8⟩),
 (186,⟨QH,[],0,8⟩),
 (187,⟨AAP,[],0,8⟩),
 (188,⟨AAQ,[],0,8⟩),
 (189,⟨AAR,[],0,8⟩),
 (190,⟨AAS,[],0,8⟩),
 (192,⟨AAT,[],0,8⟩),
 (193,⟨AAU,[],0,8⟩),
 (194,⟨Tx,[],140,24⟩),
 (195,⟨AAV,[],0,8⟩),
 (196,⟨AAW,[],0,8⟩),
 (197,⟨AAX,[],0,8⟩),
 (198,⟨AAY,[],0,8⟩),
 (199,⟨AAZ,[],0,8⟩),
 (201,⟨AB0,[],0,8⟩),
 (202,⟨AB1,[],0,8⟩),
 (203,⟨AB2,[],0,8⟩),
 (204,⟨ACi,[(0,2),(2,1),(3,1)],0,96⟩),
 (205,⟨ACj,[(0,2),(2,1),(3,1)],0,96⟩),
 (206,⟨AB3,[],0,8⟩),
 (207,⟨AB4,[],0,8⟩),
 (208,⟨AB5,[],0,8⟩),
 (209,⟨AB6,[],0,8⟩),
 (210,⟨AB7,[],0,8⟩),
 (211,⟨AB8,[],0,8⟩),
 (212,⟨AB9,[],0,8⟩),
 (213,⟨ABa,[],0,8⟩),
 (214,⟨ABb,[],0,8⟩),
 (215,⟨ABc,[],0,8⟩),
 (216,⟨ABd,[],0,8⟩),
 (217,⟨ABe,[],0,8⟩),
 (218,⟨ABf,[],0,8⟩),
 (219,⟨ABg,[],0,8⟩),
 (220,⟨ABh,[],0,8⟩),
 (221,⟨ABi,[],0,8⟩),
 (222,⟨ABj,[],0,8⟩),
 (223,⟨ABk,[],0,8⟩),
 (224,⟨ABl,[],0,8⟩),
 (225,⟨ABm,[],0,8⟩),
 (226,⟨ABn,[],0,8⟩),
 (228,⟨ABo,[],0,8⟩),
 (229,⟨ABp,[],0,8⟩),
 (230,⟨ABq,[],0,8⟩),
 (231,⟨ABr,[],0,8⟩),
 (232,⟨ABs,[],0,8⟩),
 (233,⟨ABt,[],0,8⟩),
 (234,⟨ABu,[],0,8⟩),
 (235,⟨ABv,[],0,8⟩),
 (236,⟨ABw,[],0,8⟩),
 (237,⟨ABx,[],0,8⟩),
 (238,⟨ABy,[],0,8⟩),
 (239,⟨ABz,[],0,8⟩),
 (240,⟨ABA,[],0,8⟩),
 (241,⟨ABB,[],0,8⟩),
 (242,⟨ABC,[],0,8⟩),
 (243,⟨ABD,[],0,8⟩),
 (244,⟨ABE,[],0,8⟩),
 (245,⟨ABF,[],0,8⟩),
 (246,⟨ABG,[],0,8⟩),
 (247,⟨ABH,[],0,8⟩),
 (248,⟨ABI,[],0,8⟩),
 (249,⟨ABJ,[],0,8⟩),
 (250,⟨ABK,[],0,8⟩),
 (251,⟨ABL,[],0,8⟩),
 (252,⟨ABM,[],0,8⟩),
 (254,⟨ABN,[],0,8⟩),
 (255,⟨ABO,[],0,8⟩),
 (256,⟨ABP,[],0,8⟩),
 (257,⟨ABQ,[],0,8⟩),
 (258,⟨ABR,[],0,8⟩),
 (259,⟨ABS,[],0,4⟩),
 (260,⟨ABT,[],0,8⟩),
 (261,⟨ABU,[],0,8⟩),
 (262,⟨ABV,[],0,8⟩),
 (263,⟨ABW,[],0,8⟩),
 (264,⟨ABX,[],0,8⟩),
 (265,⟨ABY,[],0,8⟩),
 (266,⟨ABZ,[],0,8⟩),
 (267,⟨AC0,[],0,8⟩),
 (268,⟨AC1,[],0,8⟩),
 (269,⟨AC2,[],0,8⟩),
 (271,⟨AC3,[],0,8⟩),
 (272,⟨AC4,[],0,8⟩),
 (278,⟨AC5,[],0,8⟩),
 (281,⟨AC6,[],0,8⟩),
 (282,⟨AC7,[],0,8⟩),
 (287,⟨AC8,[(0,1),(1,1)],0,32⟩),
 (288,⟨A8F,[(0,1),(1,1)],0,32⟩)]
theorem tyTab_ok (f) (a:List Nat) (b:List Nat:=[]) (ne:List (Nat×TypeId):=[]):DF Tryz.prog ⟨AJ,f,b,ne,a⟩:=A5A (by kernel_rfl)
theorem drawsAny:Tryz.prog.follows .mixedOrders=true:=by kernel_rfl
theorem ty1:lk 1 AJ=some ⟨T1,[],0,8⟩:=rfl
theorem ty2:lk 2 AJ=some ⟨T2,[],0,8⟩:=rfl
theorem ty3:lk 3 AJ=some ⟨T3,[],0,8⟩:=rfl
theorem ty4:lk 4 AJ=some ⟨T4,[],0,1⟩:=rfl
theorem ty5:lk 5 AJ=some ⟨T5,[],0,1⟩:=rfl
theorem ty9:lk 9 AJ=some ⟨T9,[],0,16⟩:=rfl
theorem A22:lk 12 AJ=some ⟨T12,[],0,8⟩:=rfl
theorem A23:lk 21 AJ=some ⟨T21,[],0,4⟩:=rfl
theorem A24:lk 22 AJ=some ⟨FM,[],158,24⟩:=rfl
theorem A25:lk 23 AJ=some ⟨Fe,[],93,24⟩:=rfl
theorem A26:lk 24 AJ=some ⟨T24,[(0,1)],0,24⟩:=rfl
theorem A27:lk 25 AJ=some ⟨Dw,[(0,1)],0,24⟩:=rfl
theorem A28:lk 26 AJ=some ⟨T26,[(0,1),(1,1),(2,1)],0,48⟩:=rfl
theorem A29:lk 27 AJ=some ⟨T27,[(0,1),(1,1),(2,1)],0,48⟩:=rfl
theorem A2a:lk 28 AJ=some ⟨Xz,[],144,24⟩:=rfl
theorem A2b:lk 29 AJ=some ⟨Yu,[],163,24⟩:=rfl
theorem A2c:lk 30 AJ=some ⟨T30,[(0,1),(1,1)],0,48⟩:=rfl
theorem A2d:lk 31 AJ=some ⟨Eg,[(0,1),(1,1)],0,48⟩:=rfl
theorem A2e:lk 32 AJ=some ⟨T32,[],0,8⟩:=rfl
theorem A2f:lk 33 AJ=some ⟨T33,[],0,8⟩:=rfl
theorem A2g:lk 34 AJ=some ⟨T34,[],0,8⟩:=rfl
theorem A2h:lk 35 AJ=some ⟨Ls,[],0,8⟩:=rfl
theorem A2i:lk 36 AJ=some ⟨T36,[],0,8⟩:=rfl
theorem A2j:lk 37 AJ=some ⟨T37,[],0,8⟩:=rfl
theorem A2k:lk 38 AJ=some ⟨T38,[],25,24⟩:=rfl
theorem A2l:lk 39 AJ=some ⟨T39,[(0,1),(1,3),(4,1),(5,1)],0,120⟩:=rfl
theorem A2m:lk 40 AJ=some ⟨T40,[(0,1),(1,3),(4,1),(5,1)],0,120⟩:=rfl
theorem A2n:lk 41 AJ=some ⟨T41,[],0,8⟩:=rfl
theorem A2o:lk 43 AJ=some ⟨T43,[],0,8⟩:=rfl
theorem A2p:lk 44 AJ=some ⟨T44,[],0,8⟩:=rfl
theorem A2q:lk 45 AJ=some ⟨T45,[],0,8⟩:=rfl
theorem A2r:lk 46 AJ=some ⟨T46,[],0,8⟩:=rfl
theorem A2s:lk 47 AJ=some ⟨T47,[],0,8⟩:=rfl
theorem A2t:lk 48 AJ=some ⟨T48,[],0,8⟩:=rfl
theorem A2u:lk 49 AJ=some ⟨T49,[],0,8⟩:=rfl
theorem A2v:lk 50 AJ=some ⟨T50,[],0,8⟩:=rfl
theorem A2w:lk 51 AJ=some ⟨T51,[],288,24⟩:=rfl
theorem A2x:lk 52 AJ=some ⟨T52,[(0,1),(1,1)],0,32⟩:=rfl
theorem A2y:lk 53 AJ=some ⟨T53,[(0,1),(1,1)],0,32⟩:=rfl
theorem A2z:lk 54 AJ=some ⟨T54,[(0,1),(1,2),(3,1)],0,72⟩:=rfl
theorem A2A:lk 55 AJ=some ⟨T55,[(0,1),(1,2),(3,1)],0,72⟩:=rfl
theorem A2B:lk 56 AJ=some ⟨T56,[],0,8⟩:=rfl
theorem A2C:lk 57 AJ=some ⟨T57,[],0,8⟩:=rfl
theorem A2D:lk 58 AJ=some ⟨T58,[],0,8⟩:=rfl
theorem A2E:lk 59 AJ=some ⟨T59,[],0,8⟩:=rfl
theorem A2F:lk 60 AJ=some ⟨T60,[],0,8⟩:=rfl
theorem A2G:lk 61 AJ=some ⟨F3,[],3,24⟩:=rfl
theorem A2H:lk 63 AJ=some ⟨T63,[],0,8⟩:=rfl
theorem A2I:lk 65 AJ=some ⟨T65,[],0,8⟩:=rfl
theorem A2J:lk 66 AJ=some ⟨T66,[],0,8⟩:=rfl
theorem A2K:lk 67 AJ=some ⟨T67,[],0,8⟩:=rfl
theorem A2L:lk 68 AJ=some ⟨T68,[],0,8⟩:=rfl
theorem A2M:lk 70 AJ=some ⟨T70,[],0,8⟩:=rfl
theorem A2N:lk 71 AJ=some ⟨T71,[],0,8⟩:=rfl
theorem A2O:lk 72 AJ=some ⟨T72,[],0,8⟩:=rfl
theorem A2P:lk 73 AJ=some ⟨T73,[],0,8⟩:=rfl
theorem A2Q:lk 74 AJ=some ⟨T74,[],0,8⟩:=rfl
theorem A2R:lk 75 AJ=some ⟨T75,[],0,8⟩:=rfl
theorem A2S:lk 76 AJ=some ⟨T76,[],0,8⟩:=rfl
theorem A2T:lk 78 AJ=some ⟨T78,[],0,8⟩:=rfl
theorem A2U:lk 80 AJ=some ⟨T80,[],0,8⟩:=rfl
theorem A2V:lk 81 AJ=some ⟨T81,[],0,8⟩:=rfl
theorem A2W:lk 82 AJ=some ⟨T82,[],0,8⟩:=rfl
theorem A2X:lk 84 AJ=some ⟨T84,[],0,8⟩:=rfl
theorem A2Y:lk 85 AJ=some ⟨T85,[],0,8⟩:=rfl
theorem A2Z:lk 87 AJ=some ⟨T87,[],0,8⟩:=rfl
theorem A30:lk 89 AJ=some ⟨T89,[],0,8⟩:=rfl
theorem A31:lk 90 AJ=some ⟨T90,[],0,8⟩:=rfl
theorem A32:lk 91 AJ=some ⟨DN,[],106,24⟩:=rfl
theorem A33:lk 92 AJ=some ⟨T92,[(0,1),(1,1)],0,32⟩:=rfl
theorem A34:lk 93 AJ=some ⟨NN,[(0,1),(1,1)],0,32⟩:=rfl
theorem A35:lk 94 AJ=some ⟨T94,[],0,8⟩:=rfl
theorem A36:lk 95 AJ=some ⟨F4,[],9,24⟩:=rfl
theorem A37:lk 96 AJ=some ⟨T96,[],0,8⟩:=rfl
theorem A38:lk 97 AJ=some ⟨T97,[],0,8⟩:=rfl
theorem A39:lk 98 AJ=some ⟨T98,[],0,8⟩:=rfl
theorem A3a:lk 99 AJ=some ⟨T99,[],0,8⟩:=rfl
theorem f5:lk 100 AJ=some ⟨A9W,[],0,8⟩:=rfl
theorem f6:lk 101 AJ=some ⟨A9X,[],0,8⟩:=rfl
theorem f7:lk 103 AJ=some ⟨A9Y,[],0,8⟩:=rfl
theorem f8:lk 104 AJ=some ⟨A9Z,[],0,8⟩:=rfl
theorem f9:lk 105 AJ=some ⟨AA0,[(0,1),(1,1)],0,16⟩:=rfl
theorem gB:lk 106 AJ=some ⟨AU,[(0,1),(1,1)],0,16⟩:=rfl
theorem gC:lk 107 AJ=some ⟨AA1,[],0,8⟩:=rfl
theorem gD:lk 108 AJ=some ⟨AA2,[],0,8⟩:=rfl
theorem gE:lk 109 AJ=some ⟨A6c,[],91,24⟩:=rfl
theorem gF:lk 110 AJ=some ⟨ACd,[(0,2),(2,1),(3,1),(4,1)],0,120⟩:=rfl
theorem gG:lk 111 AJ=some ⟨ACe,[(0,2),(2,1),(3,1),(4,1)],0,120⟩:=rfl
theorem gH:lk 112 AJ=some ⟨AA3,[],0,8⟩:=rfl
theorem gI:lk 113 AJ=some ⟨AA4,[],0,8⟩:=rfl
theorem gJ:lk 114 AJ=some ⟨ACf,[(0,2),(2,1),(3,1),(4,1),(5,1),(6,1),(7,1),(8,1),(9,1)],0,112⟩:=rfl
theorem gK:lk 115 AJ=some ⟨f4,[(0,2),(2,1),(3,1),(4,1),(5,1),(6,1),(7,1),(8,1),(9,1)],0,112⟩:=rfl
theorem gL:lk 117 AJ=some ⟨AA5,[],0,8⟩:=rfl
theorem gM:lk 118 AJ=some ⟨AA6,[],0,8⟩:=rfl
theorem gN:lk 119 AJ=some ⟨AA7,[(3,4)],0,8⟩:=rfl
theorem gP:lk 120 AJ=some ⟨AA8,[],0,8⟩:=rfl
theorem gQ:lk 121 AJ=some ⟨AA9,[],0,8⟩:=rfl
theorem gR:lk 122 AJ=some ⟨AAa,[],0,8⟩:=rfl
theorem gS:lk 123 AJ=some ⟨AAb,[],0,8⟩:=rfl
theorem gT:lk 124 AJ=some ⟨AAc,[],0,8⟩:=rfl
theorem gU:lk 125 AJ=some ⟨AAd,[],0,8⟩:=rfl
theorem gV:lk 126 AJ=some ⟨AAe,[],0,8⟩:=rfl
theorem gW:lk 127 AJ=some ⟨AAf,[],0,8⟩:=rfl
theorem gX:lk 128 AJ=some ⟨AAg,[],0,8⟩:=rfl
theorem gY:lk 129 AJ=some ⟨AAh,[],0,8⟩:=rfl
theorem gZ:lk 130 AJ=some ⟨AAi,[],0,8⟩:=rfl
theorem g9:lk 132 AJ=some ⟨AAj,[],0,8⟩:=rfl
theorem hC:lk 133 AJ=some ⟨AAk,[],0,8⟩:=rfl
theorem hH:lk 134 AJ=some ⟨AAl,[],0,8⟩:=rfl
theorem hZ:lk 136 AJ=some ⟨AAm,[],0,8⟩:=rfl
theorem iA:lk 137 AJ=some ⟨AAn,[],0,8⟩:=rfl
theorem iB:lk 138 AJ=some ⟨AAo,[],0,8⟩:=rfl
theorem iC:lk 139 AJ=some ⟨AC9,[],186,24⟩:=rfl
theorem iD:lk 140 AJ=some ⟨BU,[],186,24⟩:=rfl
theorem iE:lk 141 AJ=some ⟨AAp,[],0,8⟩:=rfl
theorem iG:lk 142 AJ=some ⟨Vs,[],170,24⟩:=rfl
theorem iH:lk 143 AJ=some ⟨ACa,[(0,1),(1,1),(2,1),(3,1)],0,88⟩:=rfl
theorem iI:lk 144 AJ=some ⟨rA,[(0,1),(1,1),(2,1),(3,1)],0,88⟩:=rfl
theorem iJ:lk 145 AJ=some ⟨A6d,[],142,24⟩:=rfl
theorem iK:lk 147 AJ=some ⟨AAq,[],0,8⟩:=rfl
theorem iL:lk 148 AJ=some ⟨KG,[],152,24⟩:=rfl
theorem iM:lk 150 AJ=some ⟨AAr,[],0,8⟩:=rfl
theorem iO:lk 151 AJ=some ⟨ACb,[(0,1),(1,1)],0,40⟩:=rfl
theorem iP:lk 152 AJ=some ⟨bJ,[(0,1),(1,1)],0,40⟩:=rfl
theorem iQ:lk 153 AJ=some ⟨AAs,[],0,8⟩:=rfl
theorem iR:lk 155 AJ=some ⟨AAt,[],0,8⟩:=rfl
theorem iT:lk 156 AJ=some ⟨f2,[],161,24⟩:=rfl
theorem iU:lk 157 AJ=some ⟨ACc,[(0,1),(1,1),(2,1)],0,64⟩:=rfl
theorem iV:lk 158 AJ=some ⟨y5,[(0,1),(1,1),(2,1)],0,64⟩:=rfl
theorem iW:lk 159 AJ=some ⟨AAu,[],0,8⟩:=rfl
theorem iX:lk 160 AJ=some ⟨AAv,[(0,1),(1,1)],0,32⟩:=rfl
theorem iY:lk 161 AJ=some ⟨q9,[(0,1),(1,1)],0,32⟩:=rfl
theorem iZ:lk 162 AJ=some ⟨AAw,[(0,1),(1,1)],0,24⟩:=rfl
theorem i3:lk 163 AJ=some ⟨A20,[(0,1),(1,1)],0,24⟩:=rfl
theorem i4:lk 164 AJ=some ⟨AAx,[],0,8⟩:=rfl
theorem i5:lk 165 AJ=some ⟨AAy,[],0,8⟩:=rfl
theorem i6:lk 166 AJ=some ⟨AAz,[],0,8⟩:=rfl
theorem i7:lk 167 AJ=some ⟨AAA,[],0,8⟩:=rfl
theorem i8:lk 168 AJ=some ⟨AAB,[],0,8⟩:=rfl
theorem i9:lk 169 AJ=some ⟨AAC,[(0,1),(1,1)],0,16⟩:=rfl
theorem jA:lk 170 AJ=some ⟨A21,[(0,1),(1,1)],0,16⟩:=rfl
theorem jB:lk 171 AJ=some ⟨AAD,[],0,8⟩:=rfl
theorem jC:lk 172 AJ=some ⟨Rm,[(0,1),(1,1)],3,16⟩:=rfl
theorem jD:lk 173 AJ=some ⟨AAE,[],172,24⟩:=rfl
theorem jE:lk 174 AJ=some ⟨AAF,[],0,8⟩:=rfl
theorem jF:lk 175 AJ=some ⟨AAG,[],0,8⟩:=rfl
theorem jG:lk 176 AJ=some ⟨AAH,[],0,8⟩:=rfl
theorem jH:lk 177 AJ=some ⟨AAI,[(3,3)],0,8⟩:=rfl
theorem jI:lk 178 AJ=some ⟨AAJ,[],0,8⟩:=rfl
theorem jJ:lk 179 AJ=some ⟨AAK,[],0,8⟩:=rfl
theorem jK:lk 180 AJ=some ⟨AAL,[],0,8⟩:=rfl
theorem jL:lk 181 AJ=some ⟨AAM,[],0,8⟩:=rfl
theorem jM:lk 182 AJ=some ⟨AAN,[],0,8⟩:=rfl
theorem jN:lk 183 AJ=some ⟨ACg,[(0,1),(1,1),(2,1)],0,72⟩:=rfl
theorem jO:lk 184 AJ=some ⟨ACh,[(0,1),(1,1),(2,1)],0,72⟩:=rfl
theorem jP:lk 185 AJ=some ⟨AAO,[],0,8⟩:=rfl
theorem jQ:lk 186 AJ=some ⟨QH,[],0,8⟩:=rfl
theorem jR:lk 187 AJ=some ⟨AAP,[],0,8⟩:=rfl
theorem jS:lk 188 AJ=some ⟨AAQ,[],0,8⟩:=rfl
theorem jT:lk 189 AJ=some ⟨AAR,[],0,8⟩:=rfl
theorem jU:lk 190 AJ=some ⟨AAS,[],0,8⟩:=rfl
theorem jV:lk 192 AJ=some ⟨AAT,[],0,8⟩:=rfl
theorem jW:lk 193 AJ=some ⟨AAU,[],0,8⟩:=rfl
theorem jX:lk 194 AJ=some ⟨Tx,[],140,24⟩:=rfl
theorem jY:lk 195 AJ=some ⟨AAV,[],0,8⟩:=rfl
theorem jZ:lk 196 AJ=some ⟨AAW,[],0,8⟩:=rfl
theorem j5:lk 197 AJ=some ⟨AAX,[],0,8⟩:=rfl
theorem j6:lk 198 AJ=some ⟨AAY,[],0,8⟩:=rfl
theorem j7:lk 199 AJ=some ⟨AAZ,[],0,8⟩:=rfl
theorem j8:lk 201 AJ=some ⟨AB0,[],0,8⟩:=rfl
theorem j9:lk 202 AJ=some ⟨AB1,[],0,8⟩:=rfl
theorem kA:lk 203 AJ=some ⟨AB2,[],0,8⟩:=rfl
theorem kB:lk 204 AJ=some ⟨ACi,[(0,2),(2,1),(3,1)],0,96⟩:=rfl
theorem kC:lk 205 AJ=some ⟨ACj,[(0,2),(2,1),(3,1)],0,96⟩:=rfl
theorem kD:lk 206 AJ=some ⟨AB3,[],0,8⟩:=rfl
theorem kE:lk 207 AJ=some ⟨AB4,[],0,8⟩:=rfl
theorem kF:lk 208 AJ=some ⟨AB5,[],0,8⟩:=rfl
theorem kG:lk 209 AJ=some ⟨AB6,[],0,8⟩:=rfl
theorem kH:lk 210 AJ=some ⟨AB7,[],0,8⟩:=rfl
theorem kI:lk 211 AJ=some ⟨AB8,[],0,8⟩:=rfl
theorem kJ:lk 212 AJ=some ⟨AB9,[],0,8⟩:=rfl
theorem kK:lk 213 AJ=some ⟨ABa,[],0,8⟩:=rfl
theorem kL:lk 214 AJ=some ⟨ABb,[],0,8⟩:=rfl
theorem kM:lk 215 AJ=some ⟨ABc,[],0,8⟩:=rfl
theorem kN:lk 216 AJ=some ⟨ABd,[],0,8⟩:=rfl
theorem kO:lk 217 AJ=some ⟨ABe,[],0,8⟩:=rfl
theorem kP:lk 218 AJ=some ⟨ABf,[],0,8⟩:=rfl
theorem kQ:lk 219 AJ=some ⟨ABg,[],0,8⟩:=rfl
theorem kR:lk 220 AJ=some ⟨ABh,[],0,8⟩:=rfl
theorem kS:lk 221 AJ=some ⟨ABi,[],0,8⟩:=rfl
theorem kT:lk 222 AJ=some ⟨ABj,[],0,8⟩:=rfl
theorem kU:lk 223 AJ=some ⟨ABk,[],0,8⟩:=rfl
theorem kV:lk 224 AJ=some ⟨ABl,[],0,8⟩:=rfl
theorem kW:lk 225 AJ=some ⟨ABm,[],0,8⟩:=rfl
theorem kX:lk 226 AJ=some ⟨ABn,[],0,8⟩:=rfl
theorem kY:lk 228 AJ=some ⟨ABo,[],0,8⟩:=rfl
theorem kZ:lk 229 AJ=some ⟨ABp,[],0,8⟩:=rfl
theorem k5:lk 230 AJ=some ⟨ABq,[],0,8⟩:=rfl
theorem k6:lk 231 AJ=some ⟨ABr,[],0,8⟩:=rfl
theorem k7:lk 232 AJ=some ⟨ABs,[],0,8⟩:=rfl
theorem k8:lk 233 AJ=some ⟨ABt,[],0,8⟩:=rfl
theorem k9:lk 234 AJ=some ⟨ABu,[],0,8⟩:=rfl
theorem lA:lk 235 AJ=some ⟨ABv,[],0,8⟩:=rfl
theorem lB:lk 236 AJ=some ⟨ABw,[],0,8⟩:=rfl
theorem lC:lk 237 AJ=some ⟨ABx,[],0,8⟩:=rfl
theorem lD:lk 238 AJ=some ⟨ABy,[],0,8⟩:=rfl
theorem lE:lk 239 AJ=some ⟨ABz,[],0,8⟩:=rfl
theorem lF:lk 240 AJ=some ⟨ABA,[],0,8⟩:=rfl
theorem lG:lk 241 AJ=some ⟨ABB,[],0,8⟩:=rfl
theorem lH:lk 242 AJ=some ⟨ABC,[],0,8⟩:=rfl
theorem lI:lk 243 AJ=some ⟨ABD,[],0,8⟩:=rfl
theorem lJ:lk 244 AJ=some ⟨ABE,[],0,8⟩:=rfl
theorem lK:lk 245 AJ=some ⟨ABF,[],0,8⟩:=rfl
theorem lL:lk 246 AJ=some ⟨ABG,[],0,8⟩:=rfl
theorem lM:lk 247 AJ=some ⟨ABH,[],0,8⟩:=rfl
theorem lN:lk 248 AJ=some ⟨ABI,[],0,8⟩:=rfl
theorem lO:lk 249 AJ=some ⟨ABJ,[],0,8⟩:=rfl
theorem lQ:lk 250 AJ=some ⟨ABK,[],0,8⟩:=rfl
theorem lS:lk 251 AJ=some ⟨ABL,[],0,8⟩:=rfl
theorem lU:lk 252 AJ=some ⟨ABM,[],0,8⟩:=rfl
theorem lV:lk 254 AJ=some ⟨ABN,[],0,8⟩:=rfl
theorem lW:lk 255 AJ=some ⟨ABO,[],0,8⟩:=rfl
theorem lX:lk 256 AJ=some ⟨ABP,[],0,8⟩:=rfl
theorem lY:lk 257 AJ=some ⟨ABQ,[],0,8⟩:=rfl
theorem lZ:lk 258 AJ=some ⟨ABR,[],0,8⟩:=rfl
theorem l3:lk 259 AJ=some ⟨ABS,[],0,4⟩:=rfl
theorem l4:lk 260 AJ=some ⟨ABT,[],0,8⟩:=rfl
theorem l7:lk 261 AJ=some ⟨ABU,[],0,8⟩:=rfl
theorem l8:lk 262 AJ=some ⟨ABV,[],0,8⟩:=rfl
theorem l9:lk 263 AJ=some ⟨ABW,[],0,8⟩:=rfl
theorem mA:lk 264 AJ=some ⟨ABX,[],0,8⟩:=rfl
theorem mB:lk 265 AJ=some ⟨ABY,[],0,8⟩:=rfl
theorem mC:lk 266 AJ=some ⟨ABZ,[],0,8⟩:=rfl
theorem mD:lk 267 AJ=some ⟨AC0,[],0,8⟩:=rfl
theorem mE:lk 268 AJ=some ⟨AC1,[],0,8⟩:=rfl
theorem mF:lk 269 AJ=some ⟨AC2,[],0,8⟩:=rfl
theorem mG:lk 271 AJ=some ⟨AC3,[],0,8⟩:=rfl
theorem mH:lk 272 AJ=some ⟨AC4,[],0,8⟩:=rfl
theorem mI:lk 278 AJ=some ⟨AC5,[],0,8⟩:=rfl
theorem mJ:lk 281 AJ=some ⟨AC6,[],0,8⟩:=rfl
theorem mK:lk 282 AJ=some ⟨AC7,[],0,8⟩:=rfl
theorem mL:lk 287 AJ=some ⟨AC8,[(0,1),(1,1)],0,32⟩:=rfl
theorem mM:lk 288 AJ=some ⟨A8F,[(0,1),(1,1)],0,32⟩:=rfl
end
section
open Go Go.RowKit
section
variable {c:Cx} {R:Exit->Act->World->Prop} {k:List DT} {σ σ':St}
theorem y6 {P:Program} {tb:Tb} {t:TypeId} {ti:TI} {e:Ty} (hT:EL P tb t ti) (c:ti.ty=.slice e) (w:World) (a:Option Addr) (n m:Nat):(Op.equal t (.slice a n m) (.slice none 0 0)).run P w=.ok a.isNone w:=by
 have b:=hT.2;rw[c]at b;exact run_equal_slice_nil w t ti.el a n m b.1
def mN:Option TI->Bool
 | some ⟨.slice _,_,_,_⟩=>true
 | _=>false
theorem y7 (g:c.Ok) {ops:Array Oper} {rest:List Oper} {d:Nat} {t:TypeId} {x:Operand} {r ty:TypeId} {pos:String} {after:Array Edge} {e:Ty} {l:List e.den} (neg:Bool)
  (G:Ao σ x=some (.p (.slice e) l)) (i:mN (lk t c.tb.ty)=true) (hk:∀b:Bool,(b=true->l=[])->KC c R k ops rest (σ.add (.p .bool (if neg then !b else b)) [] (some d))) :
  KC c R k ops (⟨some d,.binOp (if neg then .neq else .eql) t x (.const (.slice none 0 0)) r,ty,pos,after,none⟩ :: rest) σ:=by
 intro n z a w F;obtain⟨ρ,q⟩:=F;have y:Gv (vw w c.O0 σ ρ) σ a.eval:=FL q.env;have H:=y x _ G;obtain⟨cs,⟨ad,m,rfl,h1,N,f⟩,j⟩:=H;have j:a.eval x=.slice ad (List.length l) m:=j;unfold mN at i;split at i
 ·rename_i M offs el bytes A;have s:=g.T _ _ A;have heq:=y6 s rfl w ad (List.length l) m;unfold wpListIn;rw[BY (by simp[Region.wanted])];have D:(execOp a.eval ⟨some d,.binOp (if neg then .neq else .eql) t x (.const (.slice none 0 0)) r,ty,pos,after,none⟩).run c.P w=.ok (.value (.bool (if neg then !ad.isNone else ad.isNone))) w:=by
   have I:a.eval (.const (.slice none 0 0))=.slice none 0 0:=rfl;cases neg<;>simp[execOp,j,I,eqGuard,binOp,heq]
  refine Aw D ?_ (λcl h=>by cases neg<;>cases h);have u:ad.isNone=true->l=[]:=λhn=>by
   rcases f with f|⟨J,rfl,_⟩
   ·exact f
   ·simp at hn
  have C:QS w c.O0 σ ρ (.p .bool (if neg then !ad.isNone else ad.isNone)) [] (.bool (if neg then !ad.isNone else ad.isNone)) ρ w:=QS.still (Bn _);have E:=q.add g.K g.O (dst:=some d) (λL v=>by cases v;exact CK (n _ ADp) d rfl) rfl C;exact hk ad.isNone u (λo B=>n o (by simp[B])) z _ _ ⟨ρ,E⟩
 ·cases i
end
end
section
open Go Go.RowKit Go.ChangeShapes Go.WideShapes
set_option maxRecDepth 100000
def vP (r:Ty->TypeId->Bool) (P:Program):Ty->Nat->List Field->Bool
 | .prod a b,o,fs=>match fs with
  | f :: fs=>f.offset==o&&P.cellsOf f.type==a.size&&r a f.type&&vP r P b (o+a.size) fs
  | []=>false
 | s,o,[f]=>f.offset==o&&P.cellsOf f.type==s.size&&r s f.type
 | _,_,_=>false
def y8 (P:Program) (m:Nat) (e:TypeId):List Field:=(List.range m).map λi=>{ (default:Field) with offset:=i*P.cellsOf e,type:=e }
def rd (P:Program):Nat->Ty->TypeId->Bool
 | 0,_,_=>false
 | _+1,.int k,t=>isI k (P.underlying t)
 | _+1,.bool,t=>match P.underlying t with|some .bool=>true|_=>false
 | _+1,.str,t=>match P.underlying t with|some .string=>true|_=>false
 | n+1,.slice e,t=>match P.underlying t with|some (.slice et)=>decide (0<P.bytesOf et)&&P.cellsOf et==e.size&&rd P n e et|_=>false
 | n+1,.agg s,t=>match P.underlying t with|some (.struct fs)=>P.cellsOf t==s.size&&vP (rd P n) P s 0 fs.toList|some (.array m e)=>P.cellsOf t==s.size&&vP (rd P n) P s 0 (y8 P m e)|_=>false
 | _+1,_,_=>false
theorem vQ {P:Program} {n:Nat} {t:TypeId} (h:rd P (n+1) .bool t=true):P.underlying t=some .bool:=by
 simp only[rd]at h;split at h
 ·assumption
 ·cases h
theorem A3b {P:Program} {n:Nat} {t:TypeId} (h:rd P (n+1) .str t=true):P.underlying t=some .string:=by
 simp only[rd]at h;split at h
 ·assumption
 ·cases h
theorem mO {P:Program} {n:Nat} {e:Ty} {t:TypeId} (h:rd P (n+1) (.slice e) t=true):∃et,P.underlying t=some (.slice et)/\0<P.bytesOf et/\P.cellsOf et=e.size/\rd P n e et=true:=by
 simp only[rd]at h;split at h
 ·rename_i et hu;simp only[AT,Fj,UH]at h;exact⟨et,hu,h.1.1,h.1.2,h.2⟩
 ·cases h
theorem A3c {P:Program} {n:Nat} {s:Ty} {t:TypeId} (h:rd P (n+1) (.agg s) t=true):(∃fs,P.underlying t=some (.struct fs)/\P.cellsOf t=s.size/\vP (rd P n) P s 0 fs.toList=true)\/∃m e,P.underlying t=some (.array m e)/\P.cellsOf t=s.size/\vP (rd P n) P s 0 (y8 P m e)=true:=by
 simp only[rd]at h;split at h
 ·rename_i fs hu;simp only[AT,UH]at h;exact .inl ⟨fs,hu,h.1,h.2⟩
 ·rename_i m e hu;simp only[AT,UH]at h;exact .inr ⟨m,e,hu,h.1,h.2⟩
 ·cases h
theorem y9 {w:World} {base:Nat} {a:Addr} {n:Nat} {cs:List Value} (h:w.cells? base a n=some cs):cs.length=n/\∀(j:Nat) (v:Value),cs[j]?=some v->w.cell? (a.add j)=some v:=by
 unfold World.cells? at h;split at h
 ·have h1:=mapM_some_length h;simp only[AE5]at h1;refine⟨h1,λj v b=>?_⟩;have c:j<n:=by
   obtain⟨c,_⟩:=Sa.1 b;omega
  rw[mapM_some_get h j j (by simp[c]),b]
 ·cases h
section
variable {H:Type} {enc:TypeId×Value->H} {P:Program} {w:World} {spare:Nat->Bool} {held:Bool}
theorem mP {e:TypeId}:∀ {l:List (DataW H)} {d:DataW H},d∈l->∀n∈d.weights P e,n∈DataW.weightsAll P e l
 | a :: l,d,b,n,hn=>by
  simp only[DataW.weightsAll,No];rcases Do.1 b with rfl|b
  ·exact .inl hn
  ·exact .inr (mP b n hn)
 | [],_,b,_,_=>by cases b
theorem Yv {b:List TypeId} {a:List (DataW H)}:∀ {ts:List TypeId} {ds:List (DataW H)},∀n∈DataW.weightsEach P ts ds,n∈DataW.weightsEach P (ts++b) (ds++a)
 | t :: ts,d :: ds,n,hn=>by
  simp only[DataW.weightsEach,ADh,No]at hn ⊢;rcases hn with hn|hn
  ·exact .inl hn
  ·exact .inr (Yv n hn)
 | [],_,n,hn=>by simp[DataW.weightsEach]at hn
 | _ :: _,[],n,hn=>by simp[DataW.weightsEach]at hn
theorem Yw {e:TypeId}:∀ {m:Nat} {k:Nat} {ds:List (DataW H)},∀n∈DataW.weightsEach P (((List.range' k m).map λi=>({ (default:Field) with offset:=i*P.cellsOf e,type:=e }:Field)).map (·.type)) ds,n∈DataW.weightsAll P e ds
 | 0,_,ds,n,hn=>by simp[DataW.weightsEach]at hn
 | m+1,k,[],n,hn=>by
  rw[AEU]at hn;simp[DataW.weightsEach]at hn
 | m+1,k,d :: ds,n,hn=>by
  rw[AEU]at hn;simp only[So,DataW.weightsEach,No]at hn;simp only[DataW.weightsAll,No];rcases hn with hn|hn
  ·exact .inl hn
  ·exact .inr (Yw n hn)
theorem TG {n:Nat} {r:Ty->TypeId->Bool}
  (A:∀ty t,r ty t=true->∀(cs:List Value) (x:DataW H×List MemPlace),DataW.trod enc P w 0 spare held n t cs=some x->(∀b∈x.1.weights P t,b<=reachBytes)->∃d:ty.den,B0 w (λ_=>False) ty cs d) (cs:List Value) :
  ∀(s:Ty) (o:Nat) (fs:List Field),vP r P s o fs=true->∀xs:List (DataW H×List MemPlace),xs.length=fs.length ->
   (∀(i:Nat) (f:Field),fs[i]?=some f->DataW.trod enc P w 0 spare held n f.type ((cs.drop f.offset).take (P.cellsOf f.type))=xs[i]?) ->
   (∀b∈DataW.weightsEach P (fs.map (·.type)) (xs.map (·.1)),b<=reachBytes)->∃d:s.den,B0 w (λ_=>False) s ((cs.drop o).take s.size) d:=by
 have one:∀(s:Ty) (o:Nat) (f:Field),(f.offset==o&&P.cellsOf f.type==s.size&&r s f.type)=true->∀x:DataW H×List MemPlace,
   DataW.trod enc P w 0 spare held n f.type ((cs.drop f.offset).take (P.cellsOf f.type))=some x ->
   (∀b∈x.1.weights P f.type,b<=reachBytes)->∃d:s.den,B0 w (λ_=>False) s ((cs.drop o).take s.size) d:=by
  intro s o f h x j c;simp only[AT,UH]at h;obtain⟨⟨rfl,p⟩,q⟩:=h;rw[<-p];exact A s f.type q _ x j c
 have lone:∀(s:Ty) (o:Nat) (f:Field),(f.offset==o&&P.cellsOf f.type==s.size&&r s f.type)=true->∀xs:List (DataW H×List MemPlace),xs.length=[f].length ->
   (∀(i:Nat) (g:Field),[f][i]?=some g->DataW.trod enc P w 0 spare held n g.type ((cs.drop g.offset).take (P.cellsOf g.type))=xs[i]?) ->
   (∀b∈DataW.weightsEach P ([f].map (·.type)) (xs.map (·.1)),b<=reachBytes)->∃d:s.den,B0 w (λ_=>False) s ((cs.drop o).take s.size) d:=by
  intro s o f h xs m j c;obtain⟨x,rfl⟩:∃x,xs=[x]:=ADg.1 (by simpa using m);exact one s o f h x (j 0 f rfl) (λb l=>c b (by simp[DataW.weightsEach,l]))
 intro s;induction s with
 | prod a b E B =>
  intro o fs h xs m j c;cases fs with
  | nil=>simp[vP]at h
  | cons f fs =>
   simp only[vP,AT]at h;obtain⟨⟨⟨h1,p⟩,q⟩,y⟩:=h;obtain⟨x,ys,rfl⟩:∃x ys,xs=x :: ys:=List.exists_cons_of_ne_nil (by intro h;subst h;simp at m);obtain⟨u,C⟩:=one a o f (by simp only[h1,p,q,Bool.and_self]) x (j 0 f rfl) (λb l=>c b (by
     simp only[So,DataW.weightsEach,No];exact .inl l))
   obtain⟨v,D⟩:=B (o+a.size) fs y ys (by simpa using m) (λi g z=>j (i+1) g z) (λb l=>c b (by
     simp only[So,DataW.weightsEach,No];exact .inr l))
   refine⟨(u,v),(cs.drop o).take a.size,(cs.drop (o+a.size)).take b.size,?_,C,D⟩;show (cs.drop o).take (a.size+b.size)=_;rw[List.take_add,AE8]
 | int k=>intro o fs h;match fs,h with|[f],h=>exact lone _ o f (by simpa only[vP] using h)
 | bool=>intro o fs h;match fs,h with|[f],h=>exact lone _ o f (by simpa only[vP] using h)
 | str=>intro o fs h;match fs,h with|[f],h=>exact lone _ o f (by simpa only[vP] using h)
 | slice e _=>intro o fs h;match fs,h with|[f],h=>exact lone _ o f (by simpa only[vP] using h)
 | agg t _=>intro o fs h;match fs,h with|[f],h=>exact lone _ o f (by simpa only[vP] using h)
 | ref k=>intro o fs h;match fs,h with|[f],h=>exact lone _ o f (by simpa only[vP] using h)
theorem A3d:∀(k:Nat) (ty:Ty) (t:TypeId),rd P k ty t=true->∀(n:Nat) (cs:List Value) (x:DataW H×List MemPlace),
  DataW.trod enc P w 0 spare held n t cs=some x->(∀b∈x.1.weights P t,b<=reachBytes)->∃d:ty.den,B0 w (λ_=>False) ty cs d:=by
 intro k;induction k with
 | zero=>intro ty t h;simp[rd]at h
 | succ k B =>
  intro ty t h n cs x c l;cases ty with
  | int q =>
   have hu:=VE (by simpa only[rd] using h);obtain⟨m,rfl,rfl,F⟩:=DataW.trod_int hu c;simp only[Lit.wf,AT,Fj]at F;exact⟨m,rfl,F⟩
  | bool =>
   obtain⟨b,rfl,rfl⟩:=DataW.trod_bool (vQ h) c;exact⟨b,rfl⟩
  | str =>
   obtain⟨b,rfl,rfl,_⟩:=DataW.trod_string (A3b h) c;refine⟨b,rfl,?_⟩;have:=l b.data.toList.length (by simp only[DataW.weights];exact ADp);have p:b.data.toList.length=b.size:=AEz;simp only[reachBytes]at this;simp only[AP];omega
  | slice e =>
   obtain⟨et,hu,L,C,u⟩:=mO h;rcases DataW.trod_slice hu c with ⟨rfl,rfl⟩|⟨a,len,cap,elems,rest,m,rfl,rfl,rfl,-,U,-,V,Q,-,-⟩
   ·exact⟨[],none,0,rfl,NO _,IN _,.inl rfl⟩
   ·have X:len<=AP:=by
     have h1:=l ((elems.length+rest.length)*P.bytesOf et) (by simp only[DataW.weights,hu,SX];exact ADp);have p:elems.length+rest.length<=(elems.length+rest.length)*P.bytesOf et:=Nat.le_mul_of_pos_right _ L;simp only[reachBytes]at h1;simp only[AP];omega
    have D:∀i,i<len->∃d:e.den,∃g:List Value,g.length=e.size/\(∀(j:Nat) (v:Value),g[j]?=some v->w.cell? (a.add (i*e.size+j))=some v)/\B0 w (λ_=>False) e g d:=by
     intro i hi;have h1:=Q i hi;obtain⟨x,c⟩:∃x,elems[i]?=some x:=⟨_,As (by omega)⟩;rw[c]at h1;obtain⟨g,p,G⟩:=Option.bind_eq_some_iff.1 h1;obtain⟨I,J⟩:=y9 p;obtain⟨d,o⟩:=B e et u m g x G (λb r=>l b (by
      simp only[DataW.weights,hu];exact OF _ (UG _ (mP (IF.2 ⟨x,f3 c,rfl⟩) b r))))
     refine⟨d,g,by rw[I,C],λj v S=>?_,o⟩;have:=J j v S
     rwa [DR,C]at this
    have K:∃ds:List e.den,ds.length=len/\∀(i:Nat) (d:e.den),ds[i]?=some d->∃g:List Value,g.length=e.size/\(∀(j:Nat) (v:Value),g[j]?=some v->w.cell? (a.add (i*e.size+j))=some v)/\B0 w (λ_=>False) e g d:=by
     refine⟨(List.range len).pmap (λi hi=>Classical.choose (D i hi)) (λi hi=>Sl.1 hi),by simp,λi d o=>?_⟩;rw[List.getElem?_pmap]at o;simp only[Option.pmap_eq_some_iff]at o;obtain⟨j,h1,p,rfl⟩:=o;have R:j=i:=by
      obtain⟨W,u⟩:=Sa.1 p;simpa using u.symm
     subst R;exact Classical.choose_spec (D j h1)
    obtain⟨ds,N,O⟩:=K;exact⟨ds,some a,cap,by rw[N],by omega,by omega,.inr ⟨a,rfl,λh=>h,O⟩⟩
  | agg s =>
   rcases A3c h with ⟨fs,hu,M,hf⟩|⟨q,e,hu,M,hf⟩
   ·obtain⟨xs,m,rfl,rfl,T,z,A⟩:=DataW.trod_struct hu c;obtain⟨d,o⟩:=TG (λty t y cs x c l=>B ty t y m cs x c l) cs s 0 fs.toList hf xs (by simpa using z) (λi f hi=>A i f (by simpa using hi)) (by
     simpa[DataW.weights,hu] using l)
    refine⟨d,?_⟩;show B0 w _ s cs d
    rwa [UL,At (by omega)]at o
   ·obtain⟨xs,m,rfl,rfl,T,z,A⟩:=DataW.trod_array hu c;obtain⟨d,o⟩:=TG (λty t y cs x c l=>B ty t y m cs x c l) cs s 0 (y8 P q e) hf xs (by simp[y8,z]) (λi f hi=>by
     unfold y8 at hi;rw[iS]at hi;by_cases E:i<q
     ·rw[ADt E]at hi;have hi:({ (default:Field) with offset:=i*P.cellsOf e,type:=e }:Field)=f:=by simpa using hi
      rw[<-hi];exact A i E
     ·rw[Sj (by simp;omega)]at hi;cases hi) (λb r=>l b (by
     simp only[DataW.weights,hu];unfold y8 at r;rw[List.range_eq_range']at r;exact Yw b r))
    refine⟨d,?_⟩;show B0 w _ s cs d
    rwa [UL,At (by omega)]at o
  | prod a b=>simp[rd]at h
  | ref j=>simp[rd]at h
theorem A6e {k:Nat} {ty:Ty} {t:TypeId} {v:Value} {r:Reach} {base:Nat} (h:rd P k ty t=true) (d:Value.okWide P w r base t v):v=ty.wrap v.cells.toList:=by
 cases k with
 | zero=>simp[rd]at h
 | succ k =>
  cases ty with
  | int q =>
   obtain⟨n,rfl⟩:=okWide_int (VE (by simpa only[rd] using h)) d;rfl
  | bool =>
   obtain⟨n,rfl⟩:=okWide_bool (vQ h) d;rfl
  | str =>
   obtain⟨n,rfl⟩:=okWide_string (A3b h) d;rfl
  | slice e =>
   obtain⟨et,hu,_⟩:=mO h;obtain⟨a,l,c,rfl⟩:=okWide_slice hu d;rfl
  | agg s =>
   rcases A3c h with ⟨fs,hu,_⟩|⟨q,e,hu,_⟩
   ·obtain⟨cs,rfl,_⟩:=okWide_struct hu d;simp[Ty.wrap,Value.cells]
   ·simp only[Value.okWide,hu]at d;obtain⟨cs,rfl,_⟩:=d;simp[Ty.wrap,Value.cells]
  | prod a b=>simp[rd]at h
  | ref j=>simp[rd]at h
def OB (P:Program):List Ty->List TypeId->Bool
 | [],[]=>true
 | ty :: a,t :: ts=>rd P 50 ty t&&P.readableRec t&&decide (t<P.types.size)&&OB P a ts
 | _,_=>false
theorem mQ {r:Reach} {base:Nat}:∀(a:List Ty) (ts:List TypeId) (c:List Value) (ds:List (DataW H)) (p:List MemPlace),OB P a ts=true->DataW.TrodAll enc P w 0 spare held ts c ds p ->
  (∀(j:Nat) (t:TypeId) (v:Value),ts[j]?=some t->c[j]?=some v->Value.okWide P w r base t v)->(∀b∈DataW.weightsEach P ts ds,b<=reachBytes)->∃xs:Ka a,S2 w (λ_=>False) a c xs
 | [],[],c,ds,p,_,h,_,_=>by
  obtain⟨rfl,_,_⟩:=trodAll_nil h;exact⟨(),rfl⟩
 | ty :: a,t :: ts,c,ds,p,g,h,i,e=>by
  simp only[OB,AT]at g;obtain⟨⟨⟨h1,_⟩,_⟩,m⟩:=g;obtain⟨v,k,d,l,D,A,rfl,rfl,rfl,⟨n,o⟩,q⟩:=trodAll_cons h;simp only[DataW.weightsEach,No]at e;obtain⟨x,y⟩:=A3d 50 ty t h1 n _ _ o (λb f=>e b (.inl f));obtain⟨xs,z⟩:=mQ a ts k l A m q (λj B C s u=>i (j+1) B C s u) (λb f=>e b (.inr f));exact⟨(x,xs),v,k,rfl,⟨_,y,A6e h1 (i 0 t v rfl rfl)⟩,z⟩
 | [],_ :: _,_,_,_,h,_,_,_=>by simp[OB]at h
 | _ :: _,[],_,_,_,h,_,_,_=>by simp[OB]at h
theorem Yx (i:laidOutB P=true) {W f:World} (g:Below W.heap.size W f):∀(e:List Ty) (ts:List TypeId) (a:List Value) (ds:List (DataW H)) (p:List MemPlace),OB P e ts=true ->
  DataW.TrodAll enc P W 0 (λ_=>true) true ts a ds p->(∀x∈p,x.block<W.heap.size)->DataW.TrodAll enc P f 0 (λb=>decide (b<W.heap.size)) true ts a ds p
 | [],[],a,ds,p,_,h,_=>by
  obtain⟨rfl,rfl,rfl⟩:=trodAll_nil h;rfl
 | ty :: e,t :: ts,a,ds,p,k,h,j=>by
  simp only[OB,AT,Fj]at k;obtain⟨⟨⟨_,h1⟩,n⟩,o⟩:=k;obtain⟨v,u,d,m,s,l,rfl,rfl,rfl,q,r⟩:=trodAll_cons h;exact⟨s,l,Below.trod i h1 n q g (λx c=>j x (UG _ c)),Yx i g e ts u m l o r (λx c=>j x (ADx _ c)),rfl⟩
 | [],_ :: _,_,_,_,h,_,_=>by simp[OB]at h
 | _ :: _,[],_,_,_,h,_,_=>by simp[OB]at h
end
theorem A3e {w:World} {O:Nat->Prop} {u:Value} {w':World} (h:A1k w O [.p .bool true] u w'):u=.bool true/\Below w.heap.size w w':=by
 obtain⟨ρ',a⟩:=h 0;refine⟨?_,a.below⟩;obtain⟨cs,h1,b⟩:Bm _ _ .bool u true:=a.av;have h1:cs=[.bool true]:=h1;rw[b,h1];rfl
theorem A3f {P:Program} {f:FuncId} {fn:Func} {sp:Ac} {s:ChangeSpec} {tb:TypeId} (J:Ad P f sp) (L:∀ds,sp.pre ds) (K:∀ds,sp.out ds=[.p .bool true])
  (F:laidOutB P=true) (r:OB P sp.ins fn.params.toList=true) (N:fn.resultTypes=#[tb]) (D:P.underlying tb=some .bool) (w:s.vars=[])
  (hs:∀(H:Type) (ds:List (DataW H)),ds.length=fn.params.size->(s.fn H ds).results=[.lit (.bool true)]/\(s.fn H ds).args=ds/\(s.fn H ds).vars=[])
  {H:Type} {enc:TypeId×Value->H} {W:World} {base:Nat} {args:Array Value} {ds l:List (DataW H)} {y:List MemPlace} {X:List TypeId}
  (S:∀(j:Nat) t v,fn.params[j]?=some t->args[j]?=some v->Value.okWide P W .any base t v)
  (n:DataW.Whole enc P fn.params.toList s.vars false W args.toList ds l y)
  (O:(DataW.weightsEach P (fn.params.toList++X) (ds++l)).all (·<=reachBytes)=true) :
  Calls P f args W λe k=>∃v,e=.returned v/\s.post enc P fn false true false false W args v k:=by
 have o:=n;obtain⟨p,q,c,m,rfl,Z,aa⟩:=n;rw[w]at m;obtain⟨rfl,rfl⟩:=trodVars_none m;obtain⟨xs,U⟩:=mQ sp.ins fn.params.toList args.toList ds p r c (λj t v Q R=>S j t v (by simpa using Q) (by simpa using R))
  (λb a=>by simpa using IS.1 O b (Yv b a))
 have I:∀x∈p,x.block<W.heap.size:=λx T=>by simpa using o.lt x (UG _ T)
 have G:ds.length=fn.params.size:=by
  have:∀(ts:List TypeId) (i:List Value) (ds:List (DataW H)) (p:List MemPlace),DataW.TrodAll enc P W 0 (λ_=>true) true ts i ds p->ds.length=ts.length:=by
   intro ts;induction ts with
   | nil=>intro i ds p h;obtain⟨_,rfl,_⟩:=trodAll_nil h;rfl
   | cons t ts V=>intro i ds p h;obtain⟨v,ae,d,Y,ab,ad,rfl,rfl,rfl,_,M⟩:=trodAll_cons h;simp[V _ _ _ M]
  simpa using this _ _ _ _ c
 have g:=J.2 W (λ_=>False) args.toList xs (λ_ h=>h.elim) U (L xs);rw[K]at g;have C:args.toList.toArray=args:=by simp
 rw[C]at g;refine g.mono λe k ⟨u,E,hu⟩=>?_;obtain⟨rfl,a⟩:=A3e hu;obtain⟨z,A,B⟩:=hs H (ds++[]) (by simpa using G);refine⟨_,E,_,_,_,[],p,[],o,?_,?_,?_,a.frame _,λh=>by cases h⟩
 ·rw[z,N];exact trodAll_mk1 (shut_bool D _)
 ·rw[A,Sq];exact Yx F a sp.ins _ _ _ _ r c I
 ·rw[B,w];rfl
end
end Go.Proofs.YtapkhdkbkodbjaaGreat.Fw

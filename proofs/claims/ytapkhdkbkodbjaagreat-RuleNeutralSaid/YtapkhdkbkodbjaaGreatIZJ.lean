/- This program's types; a slice compared with nil; from a contract to the given statement. -/
import Derived.Test.YtapkhdkbkodbjaaGreatIZI
import Derived.Test.YtapkhdkbkodbjaaGreatChecked
import Derived.Laws.Cover3
import Derived.Carry
import Derived.SizedLaws
import Derived.OpenShut
set_option linter.unusedVariables false
set_option linter.unusedSimpArgs false
namespace Go.Proofs.YtapkhdkbkodbjaaGreat.Fw
section
open Go
abbrev T1:Ty:=.ref 1
abbrev T2:Ty:=.int .i64
abbrev T3:Ty:=.int .i64
abbrev T4:Ty:=.bool
abbrev T5:Ty:=.int .u8
abbrev T9:Ty:=.str
abbrev T12:Ty:=.int .u64
abbrev T21:Ty:=.int .i32
abbrev T32:Ty:=.ref 1
abbrev T33:Ty:=.ref 1
abbrev T34:Ty:=.ref 1
abbrev Lo:Ty:=.int .i64
abbrev T36:Ty:=.ref 1
abbrev T37:Ty:=.ref 1
abbrev T41:Ty:=.ref 1
abbrev T43:Ty:=.ref 1
abbrev T44:Ty:=.ref 1
abbrev T45:Ty:=.ref 1
abbrev T46:Ty:=.ref 1
abbrev T47:Ty:=.ref 1
abbrev T48:Ty:=.ref 1
abbrev T49:Ty:=.ref 1
abbrev T50:Ty:=.ref 1
abbrev T56:Ty:=.ref 1
abbrev T57:Ty:=.ref 1
abbrev T58:Ty:=.ref 1
abbrev T59:Ty:=.ref 1
abbrev T60:Ty:=.ref 1
abbrev Fv:Ty:=.slice T3
abbrev T63:Ty:=.ref 1
abbrev T65:Ty:=.ref 1
abbrev T66:Ty:=.ref 1
abbrev T67:Ty:=.ref 1
abbrev T68:Ty:=.ref 1
abbrev T70:Ty:=.ref 1
abbrev T71:Ty:=.ref 1
abbrev T72:Ty:=.ref 1
abbrev T73:Ty:=.ref 1
abbrev T74:Ty:=.ref 1
abbrev T75:Ty:=.ref 1
abbrev T76:Ty:=.ref 1
abbrev T78:Ty:=.ref 1
abbrev T80:Ty:=.ref 1
abbrev T81:Ty:=.ref 1
abbrev T82:Ty:=.ref 1
abbrev T84:Ty:=.ref 1
abbrev T85:Ty:=.ref 1
abbrev T87:Ty:=.ref 1
abbrev T89:Ty:=.ref 1
abbrev T90:Ty:=.ref 1
abbrev T94:Ty:=.ref 1
abbrev Fy:Ty:=.slice T9
abbrev T96:Ty:=.ref 1
abbrev T97:Ty:=.ref 1
abbrev T98:Ty:=.ref 1
abbrev T99:Ty:=.ref 1
abbrev AAH:Ty:=.ref 1
abbrev AAI:Ty:=.ref 1
abbrev AAJ:Ty:=.ref 1
abbrev AAK:Ty:=.ref 1
abbrev AAL:Ty:=.agg (.prod T3 (T3))
abbrev AW:Ty:=.agg (.prod T3 (T3))
abbrev AAM:Ty:=.ref 1
abbrev AAN:Ty:=.ref 0
abbrev AAO:Ty:=.ref 1
abbrev AAP:Ty:=.ref 1
abbrev AAQ:Ty:=.ref 1
abbrev AAR:Ty:=.ref 1
abbrev AAS:Ty:=.ref 2
abbrev AAT:Ty:=.ref 1
abbrev AAU:Ty:=.ref 1
abbrev AAV:Ty:=.ref 1
abbrev AAW:Ty:=.ref 1
abbrev AAX:Ty:=.ref 1
abbrev AAY:Ty:=.ref 1
abbrev AAZ:Ty:=.ref 1
abbrev AB0:Ty:=.ref 1
abbrev AB1:Ty:=.ref 1
abbrev AB2:Ty:=.ref 1
abbrev AB3:Ty:=.ref 1
abbrev AB4:Ty:=.ref 1
abbrev AB5:Ty:=.ref 1
abbrev AB6:Ty:=.ref 1
abbrev AB7:Ty:=.ref 1
abbrev AB8:Ty:=.ref 1
abbrev AB9:Ty:=.ref 1
abbrev ABa:Ty:=.ref 1
abbrev ABb:Ty:=.ref 1
abbrev ABc:Ty:=.ref 1
abbrev ABd:Ty:=.ref 1
abbrev ABe:Ty:=.ref 1
abbrev ABf:Ty:=.ref 1
abbrev ABg:Ty:=.agg (.prod T9 (T9))
abbrev mL:Ty:=.agg (.prod T9 (T9))
abbrev ABh:Ty:=.agg (.prod T9 (T3))
abbrev A2y:Ty:=.agg (.prod T9 (T3))
abbrev ABi:Ty:=.ref 1
abbrev ABj:Ty:=.ref 1
abbrev ABk:Ty:=.ref 1
abbrev ABl:Ty:=.ref 1
abbrev ABm:Ty:=.ref 1
abbrev ABn:Ty:=.agg (.prod T3 (T3))
abbrev A2z:Ty:=.agg (.prod T3 (T3))
abbrev ABo:Ty:=.ref 1
abbrev SL:Ty:=.agg (.prod T3 (T3))
abbrev ABp:Ty:=.slice SL
abbrev ABq:Ty:=.ref 1
abbrev ABr:Ty:=.ref 1
abbrev ABs:Ty:=.ref 1
abbrev ABt:Ty:=.ref 2
abbrev ABu:Ty:=.ref 1
abbrev ABv:Ty:=.ref 1
abbrev ABw:Ty:=.ref 1
abbrev ABx:Ty:=.ref 1
abbrev ABy:Ty:=.ref 0
abbrev ABz:Ty:=.ref 1
abbrev QN:Ty:=.int .u64
abbrev ABA:Ty:=.ref 1
abbrev ABB:Ty:=.ref 1
abbrev ABC:Ty:=.ref 1
abbrev ABD:Ty:=.ref 1
abbrev ABE:Ty:=.ref 1
abbrev ABF:Ty:=.ref 1
abbrev ABG:Ty:=.ref 1
abbrev ABH:Ty:=.ref 1
abbrev ABI:Ty:=.ref 1
abbrev ABJ:Ty:=.ref 1
abbrev ABK:Ty:=.ref 1
abbrev ABL:Ty:=.ref 1
abbrev ABM:Ty:=.ref 1
abbrev ABN:Ty:=.ref 0
abbrev ABO:Ty:=.ref 1
abbrev ABP:Ty:=.ref 1
abbrev ABQ:Ty:=.ref 1
abbrev ABR:Ty:=.ref 1
abbrev ABS:Ty:=.ref 1
abbrev ABT:Ty:=.ref 1
abbrev ABU:Ty:=.ref 1
abbrev ABV:Ty:=.ref 1
abbrev ABW:Ty:=.ref 1
abbrev ABX:Ty:=.ref 1
abbrev ABY:Ty:=.ref 1
abbrev ABZ:Ty:=.ref 1
abbrev AC0:Ty:=.ref 1
abbrev AC1:Ty:=.ref 1
abbrev AC2:Ty:=.ref 1
abbrev AC3:Ty:=.ref 1
abbrev AC4:Ty:=.ref 1
abbrev AC5:Ty:=.ref 1
abbrev AC6:Ty:=.ref 1
abbrev AC7:Ty:=.ref 1
abbrev AC8:Ty:=.ref 1
abbrev AC9:Ty:=.ref 1
abbrev ACa:Ty:=.ref 1
abbrev ACb:Ty:=.ref 1
abbrev ACc:Ty:=.ref 1
abbrev ACd:Ty:=.ref 1
abbrev ACe:Ty:=.ref 1
abbrev ACf:Ty:=.ref 1
abbrev ACg:Ty:=.ref 1
abbrev ACh:Ty:=.ref 1
abbrev ACi:Ty:=.ref 1
abbrev ACj:Ty:=.ref 1
abbrev ACk:Ty:=.ref 1
abbrev ACl:Ty:=.ref 1
abbrev ACm:Ty:=.ref 1
abbrev ACn:Ty:=.ref 1
abbrev ACo:Ty:=.int .u64
abbrev ACp:Ty:=.ref 1
abbrev ACq:Ty:=.ref 1
abbrev ACr:Ty:=.ref 1
abbrev ACs:Ty:=.ref 1
abbrev ACt:Ty:=.ref 1
abbrev ACu:Ty:=.ref 1
abbrev ACv:Ty:=.ref 1
abbrev ACw:Ty:=.ref 1
abbrev ACx:Ty:=.int .i64
abbrev ACy:Ty:=.ref 1
abbrev ACz:Ty:=.ref 1
abbrev ACA:Ty:=.ref 1
abbrev ACB:Ty:=.ref 1
abbrev ACC:Ty:=.ref 1
abbrev ACD:Ty:=.int .u32
abbrev ACE:Ty:=.ref 1
abbrev ACF:Ty:=.ref 1
abbrev ACG:Ty:=.ref 1
abbrev ACH:Ty:=.int .u64
abbrev ACI:Ty:=.ref 1
abbrev ACJ:Ty:=.ref 1
abbrev ACK:Ty:=.ref 1
abbrev ACL:Ty:=.ref 0
abbrev ACM:Ty:=.ref 1
abbrev ACN:Ty:=.ref 0
abbrev ACO:Ty:=.ref 1
abbrev ACP:Ty:=.ref 1
abbrev ACQ:Ty:=.ref 1
abbrev ACR:Ty:=.ref 1
abbrev ACS:Ty:=.ref 0
abbrev ACT:Ty:=.agg (.prod T9 (T9))
abbrev A9p:Ty:=.agg (.prod T9 (T9))
abbrev YV:Ty:=.slice A2y
abbrev T51:Ty:=.slice A9p
abbrev T52:Ty:=.agg (.prod T3 (T51))
abbrev T53:Ty:=.agg (.prod T3 (T51))
abbrev DN:Ty:=.slice AW
abbrev T92:Ty:=.agg (.prod T3 (DN))
abbrev NJ:Ty:=.agg (.prod T3 (DN))
abbrev A5I:Ty:=.slice DN
abbrev ACU:Ty:=.slice QN
abbrev BT:Ty:=.slice QN
abbrev WM:Ty:=.slice A2z
abbrev ACV:Ty:=.agg (.prod T9 (.prod BT (.prod Fv (WM))))
abbrev mM:Ty:=.agg (.prod T9 (.prod BT (.prod Fv (WM))))
abbrev A5J:Ty:=.slice WM
abbrev ACW:Ty:=.agg (.prod T9 (BT))
abbrev b7:Ty:=.agg (.prod T9 (BT))
abbrev gP:Ty:=.slice mL
abbrev ACX:Ty:=.agg (.prod T9 (.prod Fy (gP)))
abbrev z4:Ty:=.agg (.prod T9 (.prod Fy (gP)))
abbrev UZ:Ty:=.slice BT
abbrev FF:Ty:=.slice z4
abbrev FY:Ty:=.slice NJ
abbrev T24:Ty:=.agg (FY)
abbrev DR:Ty:=.agg (FY)
abbrev T26:Ty:=.agg (.prod T9 (.prod T3 (DR)))
abbrev T27:Ty:=.agg (.prod T9 (.prod T3 (DR)))
abbrev WN:Ty:=.slice mM
abbrev T30:Ty:=.agg (.prod WN (YV))
abbrev ER:Ty:=.agg (.prod WN (YV))
abbrev T38:Ty:=.slice DR
abbrev T39:Ty:=.agg (.prod FF (.prod T27 (.prod T38 (T38))))
abbrev T40:Ty:=.agg (.prod FF (.prod T27 (.prod T38 (T38))))
abbrev T54:Ty:=.agg (.prod T9 (.prod T53 (DR)))
abbrev T55:Ty:=.agg (.prod T9 (.prod T53 (DR)))
abbrev ACY:Ty:=.agg (.prod ER (.prod Fv (.prod Fv (A5I))))
abbrev ACZ:Ty:=.agg (.prod ER (.prod Fv (.prod Fv (A5I))))
abbrev AD0:Ty:=.agg (.prod ER (.prod T3 (.prod T3 (.prod T3 (.prod T3 (.prod T3 (.prod T3 (.prod T3 (T3)))))))))
abbrev gQ:Ty:=.agg (.prod ER (.prod T3 (.prod T3 (.prod T3 (.prod T3 (.prod T3 (.prod T3 (.prod T3 (T3)))))))))
abbrev J6:Ty:=.slice b7
abbrev AD1:Ty:=.agg (.prod DR (.prod Fv (Fv)))
abbrev AD2:Ty:=.agg (.prod DR (.prod Fv (Fv)))
abbrev AD3:Ty:=.agg (.prod ER (.prod Fv (Fv)))
abbrev AD4:Ty:=.agg (.prod ER (.prod Fv (Fv)))
set_option maxRecDepth 100000
def AJ:List (Nat×TI):=[(1,⟨T1,[],0,8⟩),
 (2,⟨T2,[],0,8⟩),
 (3,⟨T3,[],0,8⟩),
 (4,⟨T4,[],0,1⟩),
 (5,⟨T5,[],0,1⟩),
 (9,⟨T9,[],0,16⟩),
 (12,⟨T12,[],0,8⟩),
 (21,⟨T21,[],0,4⟩),
 (22,⟨FF,[],158,24⟩),
 (23,⟨FY,[],93,24⟩),
 (24,⟨T24,[(0,1)],0,24⟩),
 (25,⟨DR,[(0,1)],0,24⟩),
 (26,⟨T26,[(0,1),(1,1),(2,1)],0,48⟩),
 (27,⟨T27,[(0,1),(1,1),(2,1)],0,48⟩),
 (28,⟨WN,[],144,24⟩),
 (29,⟨YV,[],163,24⟩),
 (30,⟨T30,[(0,1),(1,1)],0,48⟩),
 (31,⟨ER,[(0,1),(1,1)],0,48⟩),
 (32,⟨T32,[],0,8⟩),
 (33,⟨T33,[],0,8⟩),
 (34,⟨T34,[],0,8⟩),
 (35,⟨Lo,[],0,8⟩),
 (36,⟨T36,[],0,8⟩),
 (37,⟨T37,[],0,8⟩),
 (38,⟨T38,[],25,24⟩),
 (39,⟨T39,[(0,1),(1,3),(4,1),(5,1)],0,120⟩),
 (40,⟨T40,[(0,1),(1,3),(4,1),(5,1)],0,120⟩),
 (41,⟨T41,[],0,8⟩),
 (43,⟨T43,[],0,8⟩),
 (44,⟨T44,[],0,8⟩),
 (45,⟨T45,[],0,8⟩),
 (46,⟨T46,[],0,8⟩),
 (47,⟨T47,[],0,8⟩),
 (48,⟨T48,[],0,8⟩),
 (49,⟨T49,[],0,8⟩),
 (50,⟨T50,[],0,8⟩),
 (51,⟨T51,[],288,24⟩),
 (52,⟨T52,[(0,1),(1,1)],0,32⟩),
 (53,⟨T53,[(0,1),(1,1)],0,32⟩),
 (54,⟨T54,[(0,1),(1,2),(3,1)],0,72⟩),
 (55,⟨T55,[(0,1),(1,2),(3,1)],0,72⟩),
 (56,⟨T56,[],0,8⟩),
 (57,⟨T57,[],0,8⟩),
 (58,⟨T58,[],0,8⟩),
 (59,⟨T59,[],0,8⟩),
 (60,⟨T60,[],0,8⟩),
 (61,⟨Fv,[],3,24⟩),
 (63,⟨T63,[],0,8⟩),
 (65,⟨T65,[],0,8⟩),
 (66,⟨T66,[],0,8⟩),
 (67,⟨T67,[],0,8⟩),
 (68,⟨T68,[],0,8⟩),
 (70,⟨T70,[],0,8⟩),
 (71,⟨T71,[],0,8⟩),
 (72,⟨T72,[],0,8⟩),
 (73,⟨T73,[],0,8⟩),
 (74,⟨T74,[],0,8⟩),
 (75,⟨T75,[],0,8⟩),
 (76,⟨T76,[],0,8⟩),
 (78,⟨T78,[],0,8⟩),
 (80,⟨T80,[],0,8⟩),
 (81,⟨T81,[],0,8⟩),
 (82,⟨T82,[],0,8⟩),
 (84,⟨T84,[],0,8⟩),
 (85,⟨T85,[],0,8⟩),
 (87,⟨T87,[],0,8⟩),
 (89,⟨T89,[],0,8⟩),
 (90,⟨T90,[],0,8⟩),
 (91,⟨DN,[],106,24⟩),
 (92,⟨T92,[(0,1),(1,1)],0,32⟩),
 (93,⟨NJ,[(0,1),(1,1)],0,32⟩),
 (94,⟨T94,[],0,8⟩),
 (95,⟨Fy,[],9,24⟩),
 (96,⟨T96,[],0,8⟩),
 (97,⟨T97,[],0,8⟩),
 (98,⟨T98,[],0,8⟩),
 (99,⟨T99,[],0,8⟩),
 (100,⟨AAH,[],0,8⟩),
 (101,⟨AAI,[],0,8⟩),
 (103,⟨AAJ,[],0,8⟩),
 (104,⟨AAK,[],0,8⟩),
 (105,⟨AAL,[(0,1),(1,1)],0,16⟩),
 (106,⟨AW,[(0,1),(1,1)],0,16⟩),
 (107,⟨AAM,[],0,8⟩),
 (108,⟨AAN,[],0,8⟩),
 (109,⟨A5I,[],91,24⟩),
 (110,⟨ACY,[(0,2),(2,1),(3,1),(4,1)],0,120⟩),
 (111,⟨ACZ,[(0,2),(2,1),(3,1),(4,1)],0,120⟩),
 (112,⟨AAO,[],0,8⟩),
 (113,⟨AAP,[],0,8⟩),
 (114,⟨AD0,[(0,2),(2,1),(3,1),(4,1),(5,1),(6,1),(7,1),(8,1),(9,1)],0,112⟩),
 (115,⟨gQ,[(0,2),(2,1),(3,1),(4,1),(5,1),(6,1),(7,1),(8,1),(9,1)],0,112⟩),
 (117,⟨AAQ,[],0,8⟩),
 (118,⟨AAR,[],0,8⟩),
 (119,⟨AAS,[(3,4)],0,8⟩),
 (120,⟨AAT,[],0,8⟩),
 (121,⟨AAU,[],0,8⟩),
 (122,⟨AAV,[],0,8⟩),
 (123,⟨AAW,[],0,8⟩),
 (124,⟨AAX,[],0,8⟩),
 (125,⟨AAY,[],0,8⟩),
 (126,⟨AAZ,[],0,8⟩),
 (127,⟨AB0,[],0,8⟩),
 (128,⟨AB1,[],0,8⟩),
 (129,⟨AB2,[],0,8⟩),
 (130,⟨AB3,[],0,8⟩),
 (132,⟨AB4,[],0,8⟩),
 (133,⟨AB5,[],0,8⟩),
 (134,⟨AB6,[],0,8⟩),
 (136,⟨AB7,[],0,8⟩),
 (137,⟨AB8,[],0,8⟩),
 (138,⟨AB9,[],0,8⟩),
 (139,⟨ACU,[],186,24⟩),
 (140,⟨BT,[],186,24⟩),
 (141,⟨ABa,[],0,8⟩),
 (142,⟨WM,[],170,24⟩),
 (143,⟨ACV,[(0,1),(1,1),(2,1),(3,1)],0,88⟩),
 (144,⟨mM,[(0,1),(1,1),(2,1),(3,1)],0,88⟩),
 (145,⟨A5J,[],142,24⟩),
 (147,⟨ABb,[],0,8⟩),
 (148,⟨J6,[],152,24⟩),
 (150,⟨ABc,[],0,8⟩),
 (151,⟨ACW,[(0,1),(1,1)],0,40⟩),
 (152,⟨b7,[(0,1),(1,1)],0,40⟩),
 (153,⟨ABd,[],0,8⟩),
 (155,⟨ABe,[],0,8⟩),
 (156,⟨gP,[],161,24⟩),
 (157,⟨ACX,[(0,1),(1,1),(2,1)],0,64⟩),
 (158,⟨z4,[(0,1),(1,1),(2,1)],0,64⟩),
 (159,⟨ABf,[],0,8⟩),
 (160,⟨ABg,[(0,1),(1,1)],0,32⟩),
 (161,⟨mL,[(0,1),(1,1)],0,32⟩),
 (162,⟨ABh,[(0,1),(1,1)],0,24⟩),
 (163,⟨A2y,[(0,1),(1,1)],0,24⟩),
 (164,⟨ABi,[],0,8⟩),
 (165,⟨ABj,[],0,8⟩),
 (166,⟨ABk,[],0,8⟩),
 (167,⟨ABl,[],0,8⟩),
 (168,⟨ABm,[],0,8⟩),
 (169,⟨ABn,[(0,1),(1,1)],0,16⟩),
 (170,⟨A2z,[(0,1),(1,1)],0,16⟩),
 (171,⟨ABo,[],0,8⟩),
 (172,⟨SL,[(0,1),(1,1)],3,16⟩),
 (173,⟨ABp,[],172,24⟩),
 (174,⟨ABq,[],0,8⟩),
 (175,⟨ABr,[],0,8⟩),
 (176,⟨ABs,[],0,8⟩),
 (177,⟨ABt,[(3,3)],0,8⟩),
 (178,⟨ABu,[],0,8⟩),
 (179,⟨ABv,[],0,8⟩),
 (180,⟨ABw,[],0,8⟩),
 (181,⟨ABx,[],0,8⟩),
 (182,⟨ABy,[],0,8⟩),
 (183,⟨AD1,[(0,1),(1,1),(2,1)],0,72⟩),
 (184,⟨AD2,[(0,1),(1,1),(2,1)],0,72⟩),
 (185,⟨ABz,[],0,8⟩),
 (186,⟨QN,[],0,8⟩),
 (187,⟨ABA,[],0,8⟩),
 (188,⟨ABB,[],0,8⟩),
 (189,⟨ABC,[],0,8⟩),
 (190,⟨ABD,[],0,8⟩),
 (192,⟨ABE,[],0,8⟩),
 (193,⟨ABF,[],0,8⟩),
 (194,⟨UZ,[],140,24⟩),
 (195,⟨ABG,[],0,8⟩),
 (196,⟨ABH,[],0,8⟩),
 (197,⟨ABI,[],0,8⟩),
 (198,⟨ABJ,[],0,8⟩),
 (199,⟨ABK,[],0,8⟩),
 (201,⟨ABL,[],0,8⟩),
 (202,⟨ABM,[],0,8⟩),
 (203,⟨ABN,[],0,8⟩),
 (204,⟨AD3,[(0,2),(2,1),(3,1)],0,96⟩),
 (205,⟨AD4,[(0,2),(2,1),(3,1)],0,96⟩),
 (206,⟨ABO,[],0,8⟩),
 (207,⟨ABP,[],0,8⟩),
 (208,⟨ABQ,[],0,8⟩),
 (209,⟨ABR,[],0,8⟩),
 (210,⟨ABS,[],0,8⟩),
 (211,⟨ABT,[],0,8⟩),
 (212,⟨ABU,[],0,8⟩),
 (213,⟨ABV,[],0,8⟩),
 (214,⟨ABW,[],0,8⟩),
 (215,⟨ABX,[],0,8⟩),
 (216,⟨ABY,[],0,8⟩),
 (217,⟨ABZ,[],0,8⟩),
 (218,⟨AC0,[],0,8⟩),
 (219,⟨AC1,[],0,8⟩),
 (220,⟨AC2,[],0,8⟩),
 (221,⟨AC3,[],0,8⟩),
 (222,⟨AC4,[],0,8⟩),
 (223,⟨AC5,[],0,8⟩),
 (224,⟨AC6,[],0,8⟩),
 (225,⟨AC7,[],0,8⟩),
 (226,⟨AC8,[],0,8⟩),
 (228,⟨AC9,[],0,8⟩),
 (229,⟨ACa,[],0,8⟩),
 (230,⟨ACb,[],0,8⟩),
 (231,⟨ACc,[],0,8⟩),
 (232,⟨ACd,[],0,8⟩),
 (233,⟨ACe,[],0,8⟩),
 (234,⟨ACf,[],0,8⟩),
 (235,⟨ACg,[],0,8⟩),
 (236,⟨ACh,[],0,8⟩),
 (237,⟨ACi,[],0,8⟩),
 (238,⟨ACj,[],0,8⟩),
 (239,⟨ACk,[],0,8⟩),
 (240,⟨ACl,[],0,8⟩),
 (241,⟨ACm,[],0,8⟩),
 (242,⟨ACn,[],0,8⟩),
 (243,⟨ACo,[],0,8⟩),
 (244,⟨ACp,[],0,8⟩),
 (245,⟨ACq,[],0,8⟩),
 (246,⟨ACr,[],0,8⟩),
 (247,⟨ACs,[],0,8⟩),
 (248,⟨ACt,[],0,8⟩),
 (249,⟨ACu,[],0,8⟩),
 (250,⟨ACv,[],0,8⟩),
 (251,⟨ACw,[],0,8⟩),
 (252,⟨ACx,[],0,8⟩),
 (254,⟨ACy,[],0,8⟩),
 (255,⟨ACz,[],0,8⟩),
 (256,⟨ACA,[],0,8⟩),
 (257,⟨ACB,[],0,8⟩),
 (258,⟨ACC,[],0,8⟩),
 (259,⟨ACD,[],0,4⟩),
 (260,⟨ACE,[],0,8⟩),
 (261,⟨ACF,[],0,8⟩),
 (262,⟨ACG,[],0,8⟩),
 (263,⟨ACH,[],0,8⟩),
 (264,⟨ACI,[],0,8⟩),
 (265,⟨ACJ,[],0,8⟩),
 (266,⟨ACK,[],0,8⟩),
 (267,⟨ACL,[],0,8⟩),
 (268,⟨ACM,[],0,8⟩),
 (269,⟨ACN,[],0,8⟩),
 (271,⟨ACO,[],0,8⟩),
 (272,⟨ACP,[],0,8⟩),
 (278,⟨ACQ,[],0,8⟩),
 (281,⟨ACR,[],0,8⟩),
 (282,⟨ACS,[],0,8⟩),
 (287,⟨ACT,[(0,1),(1,1)],0,32⟩),
 (288,⟨A9p,[(0,1),(1,1)],0,32⟩)]
theorem tyTab_ok (f) (a:List Nat) (b:List Nat:=[]) (ne:List (Nat×TypeId):=[]):DD Tryz.prog ⟨AJ,f,b,ne,a⟩:=A56 (by kernel_rfl)
theorem drawsAny:Tryz.prog.follows .mixedOrders=true:=by kernel_rfl
theorem ty1:lk 1 AJ=some ⟨T1,[],0,8⟩:=rfl
theorem ty2:lk 2 AJ=some ⟨T2,[],0,8⟩:=rfl
theorem ty3:lk 3 AJ=some ⟨T3,[],0,8⟩:=rfl
theorem ty4:lk 4 AJ=some ⟨T4,[],0,1⟩:=rfl
theorem ty5:lk 5 AJ=some ⟨T5,[],0,1⟩:=rfl
theorem ty9:lk 9 AJ=some ⟨T9,[],0,16⟩:=rfl
theorem A5L:lk 12 AJ=some ⟨T12,[],0,8⟩:=rfl
theorem A5M:lk 21 AJ=some ⟨T21,[],0,4⟩:=rfl
theorem A5N:lk 22 AJ=some ⟨FF,[],158,24⟩:=rfl
theorem A5O:lk 23 AJ=some ⟨FY,[],93,24⟩:=rfl
theorem A5P:lk 24 AJ=some ⟨T24,[(0,1)],0,24⟩:=rfl
theorem A5Q:lk 25 AJ=some ⟨DR,[(0,1)],0,24⟩:=rfl
theorem A5R:lk 26 AJ=some ⟨T26,[(0,1),(1,1),(2,1)],0,48⟩:=rfl
theorem A5S:lk 27 AJ=some ⟨T27,[(0,1),(1,1),(2,1)],0,48⟩:=rfl
theorem A5T:lk 28 AJ=some ⟨WN,[],144,24⟩:=rfl
theorem A5U:lk 29 AJ=some ⟨YV,[],163,24⟩:=rfl
theorem A5V:lk 30 AJ=some ⟨T30,[(0,1),(1,1)],0,48⟩:=rfl
theorem A5W:lk 31 AJ=some ⟨ER,[(0,1),(1,1)],0,48⟩:=rfl
theorem A5X:lk 32 AJ=some ⟨T32,[],0,8⟩:=rfl
theorem A5Y:lk 33 AJ=some ⟨T33,[],0,8⟩:=rfl
theorem A5Z:lk 34 AJ=some ⟨T34,[],0,8⟩:=rfl
theorem A60:lk 35 AJ=some ⟨Lo,[],0,8⟩:=rfl
theorem A61:lk 36 AJ=some ⟨T36,[],0,8⟩:=rfl
theorem A62:lk 37 AJ=some ⟨T37,[],0,8⟩:=rfl
theorem A63:lk 38 AJ=some ⟨T38,[],25,24⟩:=rfl
theorem A64:lk 39 AJ=some ⟨T39,[(0,1),(1,3),(4,1),(5,1)],0,120⟩:=rfl
theorem A65:lk 40 AJ=some ⟨T40,[(0,1),(1,3),(4,1),(5,1)],0,120⟩:=rfl
theorem A66:lk 41 AJ=some ⟨T41,[],0,8⟩:=rfl
theorem A67:lk 43 AJ=some ⟨T43,[],0,8⟩:=rfl
theorem A68:lk 44 AJ=some ⟨T44,[],0,8⟩:=rfl
theorem A69:lk 45 AJ=some ⟨T45,[],0,8⟩:=rfl
theorem A6a:lk 46 AJ=some ⟨T46,[],0,8⟩:=rfl
theorem A6b:lk 47 AJ=some ⟨T47,[],0,8⟩:=rfl
theorem A6c:lk 48 AJ=some ⟨T48,[],0,8⟩:=rfl
theorem A6d:lk 49 AJ=some ⟨T49,[],0,8⟩:=rfl
theorem A6e:lk 50 AJ=some ⟨T50,[],0,8⟩:=rfl
theorem A6f:lk 51 AJ=some ⟨T51,[],288,24⟩:=rfl
theorem A6g:lk 52 AJ=some ⟨T52,[(0,1),(1,1)],0,32⟩:=rfl
theorem A6h:lk 53 AJ=some ⟨T53,[(0,1),(1,1)],0,32⟩:=rfl
theorem A6i:lk 54 AJ=some ⟨T54,[(0,1),(1,2),(3,1)],0,72⟩:=rfl
theorem A6j:lk 55 AJ=some ⟨T55,[(0,1),(1,2),(3,1)],0,72⟩:=rfl
theorem A6k:lk 56 AJ=some ⟨T56,[],0,8⟩:=rfl
theorem A6l:lk 57 AJ=some ⟨T57,[],0,8⟩:=rfl
theorem A6m:lk 58 AJ=some ⟨T58,[],0,8⟩:=rfl
theorem A6n:lk 59 AJ=some ⟨T59,[],0,8⟩:=rfl
theorem A6o:lk 60 AJ=some ⟨T60,[],0,8⟩:=rfl
theorem A6p:lk 61 AJ=some ⟨Fv,[],3,24⟩:=rfl
theorem A6q:lk 63 AJ=some ⟨T63,[],0,8⟩:=rfl
theorem A6r:lk 65 AJ=some ⟨T65,[],0,8⟩:=rfl
theorem A6s:lk 66 AJ=some ⟨T66,[],0,8⟩:=rfl
theorem A6t:lk 67 AJ=some ⟨T67,[],0,8⟩:=rfl
theorem A6u:lk 68 AJ=some ⟨T68,[],0,8⟩:=rfl
theorem A6v:lk 70 AJ=some ⟨T70,[],0,8⟩:=rfl
theorem A6w:lk 71 AJ=some ⟨T71,[],0,8⟩:=rfl
theorem A6x:lk 72 AJ=some ⟨T72,[],0,8⟩:=rfl
theorem A6y:lk 73 AJ=some ⟨T73,[],0,8⟩:=rfl
theorem A6z:lk 74 AJ=some ⟨T74,[],0,8⟩:=rfl
theorem A6A:lk 75 AJ=some ⟨T75,[],0,8⟩:=rfl
theorem A6B:lk 76 AJ=some ⟨T76,[],0,8⟩:=rfl
theorem A6C:lk 78 AJ=some ⟨T78,[],0,8⟩:=rfl
theorem A6D:lk 80 AJ=some ⟨T80,[],0,8⟩:=rfl
theorem A6E:lk 81 AJ=some ⟨T81,[],0,8⟩:=rfl
theorem A6F:lk 82 AJ=some ⟨T82,[],0,8⟩:=rfl
theorem A6G:lk 84 AJ=some ⟨T84,[],0,8⟩:=rfl
theorem A6H:lk 85 AJ=some ⟨T85,[],0,8⟩:=rfl
theorem A6I:lk 87 AJ=some ⟨T87,[],0,8⟩:=rfl
theorem A6J:lk 89 AJ=some ⟨T89,[],0,8⟩:=rfl
theorem A6K:lk 90 AJ=some ⟨T90,[],0,8⟩:=rfl
theorem A6L:lk 91 AJ=some ⟨DN,[],106,24⟩:=rfl
theorem A6M:lk 92 AJ=some ⟨T92,[(0,1),(1,1)],0,32⟩:=rfl
theorem A6N:lk 93 AJ=some ⟨NJ,[(0,1),(1,1)],0,32⟩:=rfl
theorem A6O:lk 94 AJ=some ⟨T94,[],0,8⟩:=rfl
theorem A6P:lk 95 AJ=some ⟨Fy,[],9,24⟩:=rfl
theorem A6Q:lk 96 AJ=some ⟨T96,[],0,8⟩:=rfl
theorem A6R:lk 97 AJ=some ⟨T97,[],0,8⟩:=rfl
theorem A6S:lk 98 AJ=some ⟨T98,[],0,8⟩:=rfl
theorem A6T:lk 99 AJ=some ⟨T99,[],0,8⟩:=rfl
theorem qR:lk 100 AJ=some ⟨AAH,[],0,8⟩:=rfl
theorem qS:lk 101 AJ=some ⟨AAI,[],0,8⟩:=rfl
theorem qT:lk 103 AJ=some ⟨AAJ,[],0,8⟩:=rfl
theorem qU:lk 104 AJ=some ⟨AAK,[],0,8⟩:=rfl
theorem qV:lk 105 AJ=some ⟨AAL,[(0,1),(1,1)],0,16⟩:=rfl
theorem qW:lk 106 AJ=some ⟨AW,[(0,1),(1,1)],0,16⟩:=rfl
theorem qX:lk 107 AJ=some ⟨AAM,[],0,8⟩:=rfl
theorem qY:lk 108 AJ=some ⟨AAN,[],0,8⟩:=rfl
theorem qZ:lk 109 AJ=some ⟨A5I,[],91,24⟩:=rfl
theorem q9:lk 110 AJ=some ⟨ACY,[(0,2),(2,1),(3,1),(4,1)],0,120⟩:=rfl
theorem rA:lk 111 AJ=some ⟨ACZ,[(0,2),(2,1),(3,1),(4,1)],0,120⟩:=rfl
theorem rB:lk 112 AJ=some ⟨AAO,[],0,8⟩:=rfl
theorem rD:lk 113 AJ=some ⟨AAP,[],0,8⟩:=rfl
theorem rE:lk 114 AJ=some ⟨AD0,[(0,2),(2,1),(3,1),(4,1),(5,1),(6,1),(7,1),(8,1),(9,1)],0,112⟩:=rfl
theorem rF:lk 115 AJ=some ⟨gQ,[(0,2),(2,1),(3,1),(4,1),(5,1),(6,1),(7,1),(8,1),(9,1)],0,112⟩:=rfl
theorem rG:lk 117 AJ=some ⟨AAQ,[],0,8⟩:=rfl
theorem rH:lk 118 AJ=some ⟨AAR,[],0,8⟩:=rfl
theorem rI:lk 119 AJ=some ⟨AAS,[(3,4)],0,8⟩:=rfl
theorem rJ:lk 120 AJ=some ⟨AAT,[],0,8⟩:=rfl
theorem rK:lk 121 AJ=some ⟨AAU,[],0,8⟩:=rfl
theorem rO:lk 122 AJ=some ⟨AAV,[],0,8⟩:=rfl
theorem rQ:lk 123 AJ=some ⟨AAW,[],0,8⟩:=rfl
theorem rR:lk 124 AJ=some ⟨AAX,[],0,8⟩:=rfl
theorem rS:lk 125 AJ=some ⟨AAY,[],0,8⟩:=rfl
theorem rU:lk 126 AJ=some ⟨AAZ,[],0,8⟩:=rfl
theorem rV:lk 127 AJ=some ⟨AB0,[],0,8⟩:=rfl
theorem rW:lk 128 AJ=some ⟨AB1,[],0,8⟩:=rfl
theorem rZ:lk 129 AJ=some ⟨AB2,[],0,8⟩:=rfl
theorem r7:lk 130 AJ=some ⟨AB3,[],0,8⟩:=rfl
theorem r8:lk 132 AJ=some ⟨AB4,[],0,8⟩:=rfl
theorem r9:lk 133 AJ=some ⟨AB5,[],0,8⟩:=rfl
theorem sA:lk 134 AJ=some ⟨AB6,[],0,8⟩:=rfl
theorem sB:lk 136 AJ=some ⟨AB7,[],0,8⟩:=rfl
theorem sC:lk 137 AJ=some ⟨AB8,[],0,8⟩:=rfl
theorem sD:lk 138 AJ=some ⟨AB9,[],0,8⟩:=rfl
theorem sE:lk 139 AJ=some ⟨ACU,[],186,24⟩:=rfl
theorem sF:lk 140 AJ=some ⟨BT,[],186,24⟩:=rfl
theorem sG:lk 141 AJ=some ⟨ABa,[],0,8⟩:=rfl
theorem sH:lk 142 AJ=some ⟨WM,[],170,24⟩:=rfl
theorem sI:lk 143 AJ=some ⟨ACV,[(0,1),(1,1),(2,1),(3,1)],0,88⟩:=rfl
theorem sJ:lk 144 AJ=some ⟨mM,[(0,1),(1,1),(2,1),(3,1)],0,88⟩:=rfl
theorem sK:lk 145 AJ=some ⟨A5J,[],142,24⟩:=rfl
theorem sL:lk 147 AJ=some ⟨ABb,[],0,8⟩:=rfl
theorem sM:lk 148 AJ=some ⟨J6,[],152,24⟩:=rfl
theorem sN:lk 150 AJ=some ⟨ABc,[],0,8⟩:=rfl
theorem sO:lk 151 AJ=some ⟨ACW,[(0,1),(1,1)],0,40⟩:=rfl
theorem sP:lk 152 AJ=some ⟨b7,[(0,1),(1,1)],0,40⟩:=rfl
theorem sQ:lk 153 AJ=some ⟨ABd,[],0,8⟩:=rfl
theorem sR:lk 155 AJ=some ⟨ABe,[],0,8⟩:=rfl
theorem sS:lk 156 AJ=some ⟨gP,[],161,24⟩:=rfl
theorem sT:lk 157 AJ=some ⟨ACX,[(0,1),(1,1),(2,1)],0,64⟩:=rfl
theorem sU:lk 158 AJ=some ⟨z4,[(0,1),(1,1),(2,1)],0,64⟩:=rfl
theorem sV:lk 159 AJ=some ⟨ABf,[],0,8⟩:=rfl
theorem sW:lk 160 AJ=some ⟨ABg,[(0,1),(1,1)],0,32⟩:=rfl
theorem sY:lk 161 AJ=some ⟨mL,[(0,1),(1,1)],0,32⟩:=rfl
theorem sZ:lk 162 AJ=some ⟨ABh,[(0,1),(1,1)],0,24⟩:=rfl
theorem s5:lk 163 AJ=some ⟨A2y,[(0,1),(1,1)],0,24⟩:=rfl
theorem s6:lk 164 AJ=some ⟨ABi,[],0,8⟩:=rfl
theorem s7:lk 165 AJ=some ⟨ABj,[],0,8⟩:=rfl
theorem s8:lk 166 AJ=some ⟨ABk,[],0,8⟩:=rfl
theorem s9:lk 167 AJ=some ⟨ABl,[],0,8⟩:=rfl
theorem tA:lk 168 AJ=some ⟨ABm,[],0,8⟩:=rfl
theorem tB:lk 169 AJ=some ⟨ABn,[(0,1),(1,1)],0,16⟩:=rfl
theorem tC:lk 170 AJ=some ⟨A2z,[(0,1),(1,1)],0,16⟩:=rfl
theorem tD:lk 171 AJ=some ⟨ABo,[],0,8⟩:=rfl
theorem tE:lk 172 AJ=some ⟨SL,[(0,1),(1,1)],3,16⟩:=rfl
theorem tF:lk 173 AJ=some ⟨ABp,[],172,24⟩:=rfl
theorem tG:lk 174 AJ=some ⟨ABq,[],0,8⟩:=rfl
theorem tH:lk 175 AJ=some ⟨ABr,[],0,8⟩:=rfl
theorem tI:lk 176 AJ=some ⟨ABs,[],0,8⟩:=rfl
theorem tJ:lk 177 AJ=some ⟨ABt,[(3,3)],0,8⟩:=rfl
theorem tK:lk 178 AJ=some ⟨ABu,[],0,8⟩:=rfl
theorem tL:lk 179 AJ=some ⟨ABv,[],0,8⟩:=rfl
theorem tM:lk 180 AJ=some ⟨ABw,[],0,8⟩:=rfl
theorem tN:lk 181 AJ=some ⟨ABx,[],0,8⟩:=rfl
theorem tP:lk 182 AJ=some ⟨ABy,[],0,8⟩:=rfl
theorem tQ:lk 183 AJ=some ⟨AD1,[(0,1),(1,1),(2,1)],0,72⟩:=rfl
theorem tR:lk 184 AJ=some ⟨AD2,[(0,1),(1,1),(2,1)],0,72⟩:=rfl
theorem tS:lk 185 AJ=some ⟨ABz,[],0,8⟩:=rfl
theorem tT:lk 186 AJ=some ⟨QN,[],0,8⟩:=rfl
theorem tU:lk 187 AJ=some ⟨ABA,[],0,8⟩:=rfl
theorem tV:lk 188 AJ=some ⟨ABB,[],0,8⟩:=rfl
theorem tW:lk 189 AJ=some ⟨ABC,[],0,8⟩:=rfl
theorem tY:lk 190 AJ=some ⟨ABD,[],0,8⟩:=rfl
theorem tZ:lk 192 AJ=some ⟨ABE,[],0,8⟩:=rfl
theorem t8:lk 193 AJ=some ⟨ABF,[],0,8⟩:=rfl
theorem t9:lk 194 AJ=some ⟨UZ,[],140,24⟩:=rfl
theorem uA:lk 195 AJ=some ⟨ABG,[],0,8⟩:=rfl
theorem uB:lk 196 AJ=some ⟨ABH,[],0,8⟩:=rfl
theorem uC:lk 197 AJ=some ⟨ABI,[],0,8⟩:=rfl
theorem uD:lk 198 AJ=some ⟨ABJ,[],0,8⟩:=rfl
theorem uE:lk 199 AJ=some ⟨ABK,[],0,8⟩:=rfl
theorem uF:lk 201 AJ=some ⟨ABL,[],0,8⟩:=rfl
theorem uG:lk 202 AJ=some ⟨ABM,[],0,8⟩:=rfl
theorem uH:lk 203 AJ=some ⟨ABN,[],0,8⟩:=rfl
theorem uI:lk 204 AJ=some ⟨AD3,[(0,2),(2,1),(3,1)],0,96⟩:=rfl
theorem uJ:lk 205 AJ=some ⟨AD4,[(0,2),(2,1),(3,1)],0,96⟩:=rfl
theorem uK:lk 206 AJ=some ⟨ABO,[],0,8⟩:=rfl
theorem uL:lk 207 AJ=some ⟨ABP,[],0,8⟩:=rfl
theorem uM:lk 208 AJ=some ⟨ABQ,[],0,8⟩:=rfl
theorem uN:lk 209 AJ=some ⟨ABR,[],0,8⟩:=rfl
theorem uP:lk 210 AJ=some ⟨ABS,[],0,8⟩:=rfl
theorem uQ:lk 211 AJ=some ⟨ABT,[],0,8⟩:=rfl
theorem uR:lk 212 AJ=some ⟨ABU,[],0,8⟩:=rfl
theorem uS:lk 213 AJ=some ⟨ABV,[],0,8⟩:=rfl
theorem uT:lk 214 AJ=some ⟨ABW,[],0,8⟩:=rfl
theorem uU:lk 215 AJ=some ⟨ABX,[],0,8⟩:=rfl
theorem uV:lk 216 AJ=some ⟨ABY,[],0,8⟩:=rfl
theorem uW:lk 217 AJ=some ⟨ABZ,[],0,8⟩:=rfl
theorem uX:lk 218 AJ=some ⟨AC0,[],0,8⟩:=rfl
theorem uY:lk 219 AJ=some ⟨AC1,[],0,8⟩:=rfl
theorem uZ:lk 220 AJ=some ⟨AC2,[],0,8⟩:=rfl
theorem u3:lk 221 AJ=some ⟨AC3,[],0,8⟩:=rfl
theorem u4:lk 222 AJ=some ⟨AC4,[],0,8⟩:=rfl
theorem u5:lk 223 AJ=some ⟨AC5,[],0,8⟩:=rfl
theorem u6:lk 224 AJ=some ⟨AC6,[],0,8⟩:=rfl
theorem u7:lk 225 AJ=some ⟨AC7,[],0,8⟩:=rfl
theorem u9:lk 226 AJ=some ⟨AC8,[],0,8⟩:=rfl
theorem vA:lk 228 AJ=some ⟨AC9,[],0,8⟩:=rfl
theorem vB:lk 229 AJ=some ⟨ACa,[],0,8⟩:=rfl
theorem vC:lk 230 AJ=some ⟨ACb,[],0,8⟩:=rfl
theorem vD:lk 231 AJ=some ⟨ACc,[],0,8⟩:=rfl
theorem vE:lk 232 AJ=some ⟨ACd,[],0,8⟩:=rfl
theorem vF:lk 233 AJ=some ⟨ACe,[],0,8⟩:=rfl
theorem vG:lk 234 AJ=some ⟨ACf,[],0,8⟩:=rfl
theorem vH:lk 235 AJ=some ⟨ACg,[],0,8⟩:=rfl
theorem vI:lk 236 AJ=some ⟨ACh,[],0,8⟩:=rfl
theorem vJ:lk 237 AJ=some ⟨ACi,[],0,8⟩:=rfl
theorem vK:lk 238 AJ=some ⟨ACj,[],0,8⟩:=rfl
theorem vL:lk 239 AJ=some ⟨ACk,[],0,8⟩:=rfl
theorem vM:lk 240 AJ=some ⟨ACl,[],0,8⟩:=rfl
theorem vN:lk 241 AJ=some ⟨ACm,[],0,8⟩:=rfl
theorem vO:lk 242 AJ=some ⟨ACn,[],0,8⟩:=rfl
theorem vP:lk 243 AJ=some ⟨ACo,[],0,8⟩:=rfl
theorem vQ:lk 244 AJ=some ⟨ACp,[],0,8⟩:=rfl
theorem vS:lk 245 AJ=some ⟨ACq,[],0,8⟩:=rfl
theorem vT:lk 246 AJ=some ⟨ACr,[],0,8⟩:=rfl
theorem vU:lk 247 AJ=some ⟨ACs,[],0,8⟩:=rfl
theorem vV:lk 248 AJ=some ⟨ACt,[],0,8⟩:=rfl
theorem vW:lk 249 AJ=some ⟨ACu,[],0,8⟩:=rfl
theorem vY:lk 250 AJ=some ⟨ACv,[],0,8⟩:=rfl
theorem vZ:lk 251 AJ=some ⟨ACw,[],0,8⟩:=rfl
theorem v4:lk 252 AJ=some ⟨ACx,[],0,8⟩:=rfl
theorem v5:lk 254 AJ=some ⟨ACy,[],0,8⟩:=rfl
theorem v6:lk 255 AJ=some ⟨ACz,[],0,8⟩:=rfl
theorem v7:lk 256 AJ=some ⟨ACA,[],0,8⟩:=rfl
theorem v8:lk 257 AJ=some ⟨ACB,[],0,8⟩:=rfl
theorem v9:lk 258 AJ=some ⟨ACC,[],0,8⟩:=rfl
theorem wA:lk 259 AJ=some ⟨ACD,[],0,4⟩:=rfl
theorem wB:lk 260 AJ=some ⟨ACE,[],0,8⟩:=rfl
theorem wC:lk 261 AJ=some ⟨ACF,[],0,8⟩:=rfl
theorem wD:lk 262 AJ=some ⟨ACG,[],0,8⟩:=rfl
theorem wF:lk 263 AJ=some ⟨ACH,[],0,8⟩:=rfl
theorem wG:lk 264 AJ=some ⟨ACI,[],0,8⟩:=rfl
theorem wH:lk 265 AJ=some ⟨ACJ,[],0,8⟩:=rfl
theorem wI:lk 266 AJ=some ⟨ACK,[],0,8⟩:=rfl
theorem wJ:lk 267 AJ=some ⟨ACL,[],0,8⟩:=rfl
theorem wK:lk 268 AJ=some ⟨ACM,[],0,8⟩:=rfl
theorem wL:lk 269 AJ=some ⟨ACN,[],0,8⟩:=rfl
theorem wM:lk 271 AJ=some ⟨ACO,[],0,8⟩:=rfl
theorem wN:lk 272 AJ=some ⟨ACP,[],0,8⟩:=rfl
theorem wP:lk 278 AJ=some ⟨ACQ,[],0,8⟩:=rfl
theorem wQ:lk 281 AJ=some ⟨ACR,[],0,8⟩:=rfl
theorem wR:lk 282 AJ=some ⟨ACS,[],0,8⟩:=rfl
theorem wS:lk 287 AJ=some ⟨ACT,[(0,1),(1,1)],0,32⟩:=rfl
theorem wT:lk 288 AJ=some ⟨A9p,[(0,1),(1,1)],0,32⟩:=rfl
end
section
open Go Go.RowKit
section
variable {c:Cx} {R:Exit->Act->World->Prop} {k:List DW} {σ σ':St}
theorem z5 {P:Program} {tb:Tb} {t:TypeId} {ti:TI} {e:Ty} (hT:ED P tb t ti) (c:ti.ty=.slice e) (w:World) (a:Option Addr) (n m:Nat):(Op.equal t (.slice a n m) (.slice none 0 0)).run P w=.ok a.isNone w:=by
 have b:=hT.2;rw[c]at b;exact run_equal_slice_nil w t ti.el a n m b.1
def gR:Option TI->Bool
 | some ⟨.slice _,_,_,_⟩=>true
 | _=>false
theorem z6 (g:c.Ok) {ops:Array Oper} {rest:List Oper} {d:Nat} {t:TypeId} {x:Operand} {r ty:TypeId} {pos:String} {after:Array Edge} {e:Ty} {l:List e.den} (neg:Bool)
  (G:Am σ x=some (.p (.slice e) l)) (i:gR (lk t c.tb.ty)=true) (hk:∀b:Bool,(b=true->l=[])->Jx c R k ops rest (σ.add (.p .bool (if neg then !b else b)) [] (some d))) :
  Jx c R k ops (⟨some d,.binOp (if neg then .neq else .eql) t x (.const (.slice none 0 0)) r,ty,pos,after,none⟩ :: rest) σ:=by
 intro n z a w F;obtain⟨ρ,q⟩:=F;have y:Gq (vw w c.O0 σ ρ) σ a.eval:=FE q.env;have H:=y x _ G;obtain⟨cs,⟨ad,m,rfl,h1,N,f⟩,j⟩:=H;have j:a.eval x=.slice ad (List.length l) m:=j;unfold gR at i;split at i
 ·rename_i M offs el bytes A;have s:=g.T _ _ A;have heq:=z5 s rfl w ad (List.length l) m;unfold wpListIn;rw[BY (by simp[Region.wanted])];have D:(execOp a.eval ⟨some d,.binOp (if neg then .neq else .eql) t x (.const (.slice none 0 0)) r,ty,pos,after,none⟩).run c.P w=.ok (.value (.bool (if neg then !ad.isNone else ad.isNone))) w:=by
   have I:a.eval (.const (.slice none 0 0))=.slice none 0 0:=rfl;cases neg<;>simp[execOp,j,I,eqGuard,binOp,heq]
  refine Aw D ?_ (λcl h=>by cases neg<;>cases h);have u:ad.isNone=true->l=[]:=λhn=>by
   rcases f with f|⟨J,rfl,_⟩
   ·exact f
   ·simp at hn
  have C:QS w c.O0 σ ρ (.p .bool (if neg then !ad.isNone else ad.isNone)) [] (.bool (if neg then !ad.isNone else ad.isNone)) ρ w:=QS.still (Bl _);have E:=q.add g.K g.O (dst:=some d) (λL v=>by cases v;exact CL (n _ ADH) d rfl) rfl C;exact hk ad.isNone u (λo B=>n o (by simp[B])) z _ _ ⟨ρ,E⟩
 ·cases i
end
end
section
open Go Go.RowKit Go.ChangeShapes Go.WideShapes
set_option maxRecDepth 100000
def wU (r:Ty->TypeId->Bool) (P:Program):Ty->Nat->List Field->Bool
 | .prod a b,o,fs=>match fs with
  | f :: fs=>f.offset==o&&P.cellsOf f.type==a.size&&r a f.type&&wU r P b (o+a.size) fs
  | []=>false
 | s,o,[f]=>f.offset==o&&P.cellsOf f.type==s.size&&r s f.type
 | _,_,_=>false
def z7 (P:Program) (m:Nat) (e:TypeId):List Field:=(List.range m).map λi=>{ (default:Field) with offset:=i*P.cellsOf e,type:=e }
def rd (P:Program):Nat->Ty->TypeId->Bool
 | 0,_,_=>false
 | _+1,.int k,t=>isI k (P.underlying t)
 | _+1,.bool,t=>match P.underlying t with|some .bool=>true|_=>false
 | _+1,.str,t=>match P.underlying t with|some .string=>true|_=>false
 | n+1,.slice e,t=>match P.underlying t with|some (.slice et)=>decide (0<P.bytesOf et)&&P.cellsOf et==e.size&&rd P n e et|_=>false
 | n+1,.agg s,t=>match P.underlying t with|some (.struct fs)=>P.cellsOf t==s.size&&wU (rd P n) P s 0 fs.toList|some (.array m e)=>P.cellsOf t==s.size&&wU (rd P n) P s 0 (z7 P m e)|_=>false
 | _+1,_,_=>false
theorem wV {P:Program} {n:Nat} {t:TypeId} (h:rd P (n+1) .bool t=true):P.underlying t=some .bool:=by
 simp only[rd]at h;split at h
 ·assumption
 ·cases h
theorem A2A {P:Program} {n:Nat} {t:TypeId} (h:rd P (n+1) .str t=true):P.underlying t=some .string:=by
 simp only[rd]at h;split at h
 ·assumption
 ·cases h
theorem gS {P:Program} {n:Nat} {e:Ty} {t:TypeId} (h:rd P (n+1) (.slice e) t=true):∃et,P.underlying t=some (.slice et)/\0<P.bytesOf et/\P.cellsOf et=e.size/\rd P n e et=true:=by
 simp only[rd]at h;split at h
 ·rename_i et hu;simp only[AT,Ff,TC]at h;exact⟨et,hu,h.1.1,h.1.2,h.2⟩
 ·cases h
theorem A2B {P:Program} {n:Nat} {s:Ty} {t:TypeId} (h:rd P (n+1) (.agg s) t=true):(∃fs,P.underlying t=some (.struct fs)/\P.cellsOf t=s.size/\wU (rd P n) P s 0 fs.toList=true)\/∃m e,P.underlying t=some (.array m e)/\P.cellsOf t=s.size/\wU (rd P n) P s 0 (z7 P m e)=true:=by
 simp only[rd]at h;split at h
 ·rename_i fs hu;simp only[AT,TC]at h;exact .inl ⟨fs,hu,h.1,h.2⟩
 ·rename_i m e hu;simp only[AT,TC]at h;exact .inr ⟨m,e,hu,h.1,h.2⟩
 ·cases h
theorem z8 {w:World} {base:Nat} {a:Addr} {n:Nat} {cs:List Value} (h:w.cells? base a n=some cs):cs.length=n/\∀(j:Nat) (v:Value),cs[j]?=some v->w.cell? (a.add j)=some v:=by
 unfold World.cells? at h;split at h
 ·have h1:=mapM_some_length h;simp only[AEF]at h1;refine⟨h1,λj v b=>?_⟩;have c:j<n:=by
   obtain⟨c,_⟩:=Ra.1 b;omega
  rw[mapM_some_get h j j (by simp[c]),b]
 ·cases h
section
variable {H:Type} {enc:TypeId×Value->H} {P:Program} {w:World} {spare:Nat->Bool} {held:Bool}
theorem gT {e:TypeId}:∀ {l:List (DataW H)} {d:DataW H},d∈l->∀n∈d.weights P e,n∈DataW.weightsAll P e l
 | a :: l,d,b,n,hn=>by
  simp only[DataW.weightsAll,No];rcases DO.1 b with rfl|b
  ·exact .inl hn
  ·exact .inr (gT b n hn)
 | [],_,b,_,_=>by cases b
theorem Y9 {b:List TypeId} {a:List (DataW H)}:∀ {ts:List TypeId} {ds:List (DataW H)},∀n∈DataW.weightsEach P ts ds,n∈DataW.weightsEach P (ts++b) (ds++a)
 | t :: ts,d :: ds,n,hn=>by
  simp only[DataW.weightsEach,ADQ,No]at hn ⊢;rcases hn with hn|hn
  ·exact .inl hn
  ·exact .inr (Y9 n hn)
 | [],_,n,hn=>by simp[DataW.weightsEach]at hn
 | _ :: _,[],n,hn=>by simp[DataW.weightsEach]at hn
theorem ZA {e:TypeId}:∀ {m:Nat} {k:Nat} {ds:List (DataW H)},∀n∈DataW.weightsEach P (((List.range' k m).map λi=>({ (default:Field) with offset:=i*P.cellsOf e,type:=e }:Field)).map (·.type)) ds,n∈DataW.weightsAll P e ds
 | 0,_,ds,n,hn=>by simp[DataW.weightsEach]at hn
 | m+1,k,[],n,hn=>by
  rw[AFv]at hn;simp[DataW.weightsEach]at hn
 | m+1,k,d :: ds,n,hn=>by
  rw[AFv]at hn;simp only[Rp,DataW.weightsEach,No]at hn;simp only[DataW.weightsAll,No];rcases hn with hn|hn
  ·exact .inl hn
  ·exact .inr (ZA n hn)
theorem Tm {n:Nat} {r:Ty->TypeId->Bool}
  (A:∀ty t,r ty t=true->∀(cs:List Value) (x:DataW H×List MemPlace),DataW.trod enc P w 0 spare held n t cs=some x->(∀b∈x.1.weights P t,b<=reachBytes)->∃d:ty.den,B0 w (λ_=>False) ty cs d) (cs:List Value) :
  ∀(s:Ty) (o:Nat) (fs:List Field),wU r P s o fs=true->∀xs:List (DataW H×List MemPlace),xs.length=fs.length ->
   (∀(i:Nat) (f:Field),fs[i]?=some f->DataW.trod enc P w 0 spare held n f.type ((cs.drop f.offset).take (P.cellsOf f.type))=xs[i]?) ->
   (∀b∈DataW.weightsEach P (fs.map (·.type)) (xs.map (·.1)),b<=reachBytes)->∃d:s.den,B0 w (λ_=>False) s ((cs.drop o).take s.size) d:=by
 have one:∀(s:Ty) (o:Nat) (f:Field),(f.offset==o&&P.cellsOf f.type==s.size&&r s f.type)=true->∀x:DataW H×List MemPlace,
   DataW.trod enc P w 0 spare held n f.type ((cs.drop f.offset).take (P.cellsOf f.type))=some x ->
   (∀b∈x.1.weights P f.type,b<=reachBytes)->∃d:s.den,B0 w (λ_=>False) s ((cs.drop o).take s.size) d:=by
  intro s o f h x j c;simp only[AT,TC]at h;obtain⟨⟨rfl,p⟩,q⟩:=h;rw[<-p];exact A s f.type q _ x j c
 have lone:∀(s:Ty) (o:Nat) (f:Field),(f.offset==o&&P.cellsOf f.type==s.size&&r s f.type)=true->∀xs:List (DataW H×List MemPlace),xs.length=[f].length ->
   (∀(i:Nat) (g:Field),[f][i]?=some g->DataW.trod enc P w 0 spare held n g.type ((cs.drop g.offset).take (P.cellsOf g.type))=xs[i]?) ->
   (∀b∈DataW.weightsEach P ([f].map (·.type)) (xs.map (·.1)),b<=reachBytes)->∃d:s.den,B0 w (λ_=>False) s ((cs.drop o).take s.size) d:=by
  intro s o f h xs m j c;obtain⟨x,rfl⟩:∃x,xs=[x]:=ADO.1 (by simpa using m);exact one s o f h x (j 0 f rfl) (λb l=>c b (by simp[DataW.weightsEach,l]))
 intro s;induction s with
 | prod a b E B =>
  intro o fs h xs m j c;cases fs with
  | nil=>simp[wU]at h
  | cons f fs =>
   simp only[wU,AT]at h;obtain⟨⟨⟨h1,p⟩,q⟩,y⟩:=h;obtain⟨x,ys,rfl⟩:∃x ys,xs=x :: ys:=List.exists_cons_of_ne_nil (by intro h;subst h;simp at m);obtain⟨u,C⟩:=one a o f (by simp only[h1,p,q,Bool.and_self]) x (j 0 f rfl) (λb l=>c b (by
     simp only[Rp,DataW.weightsEach,No];exact .inl l))
   obtain⟨v,D⟩:=B (o+a.size) fs y ys (by simpa using m) (λi g z=>j (i+1) g z) (λb l=>c b (by
     simp only[Rp,DataW.weightsEach,No];exact .inr l))
   refine⟨(u,v),(cs.drop o).take a.size,(cs.drop (o+a.size)).take b.size,?_,C,D⟩;show (cs.drop o).take (a.size+b.size)=_;rw[List.take_add,AEJ]
 | int k=>intro o fs h;match fs,h with|[f],h=>exact lone _ o f (by simpa only[wU] using h)
 | bool=>intro o fs h;match fs,h with|[f],h=>exact lone _ o f (by simpa only[wU] using h)
 | str=>intro o fs h;match fs,h with|[f],h=>exact lone _ o f (by simpa only[wU] using h)
 | slice e _=>intro o fs h;match fs,h with|[f],h=>exact lone _ o f (by simpa only[wU] using h)
 | agg t _=>intro o fs h;match fs,h with|[f],h=>exact lone _ o f (by simpa only[wU] using h)
 | ref k=>intro o fs h;match fs,h with|[f],h=>exact lone _ o f (by simpa only[wU] using h)
theorem A2C:∀(k:Nat) (ty:Ty) (t:TypeId),rd P k ty t=true->∀(n:Nat) (cs:List Value) (x:DataW H×List MemPlace),
  DataW.trod enc P w 0 spare held n t cs=some x->(∀b∈x.1.weights P t,b<=reachBytes)->∃d:ty.den,B0 w (λ_=>False) ty cs d:=by
 intro k;induction k with
 | zero=>intro ty t h;simp[rd]at h
 | succ k B =>
  intro ty t h n cs x c l;cases ty with
  | int q =>
   have hu:=VX (by simpa only[rd] using h);obtain⟨m,rfl,rfl,F⟩:=DataW.trod_int hu c;simp only[Lit.wf,AT,Ff]at F;exact⟨m,rfl,F⟩
  | bool =>
   obtain⟨b,rfl,rfl⟩:=DataW.trod_bool (wV h) c;exact⟨b,rfl⟩
  | str =>
   obtain⟨b,rfl,rfl,_⟩:=DataW.trod_string (A2A h) c;refine⟨b,rfl,?_⟩;have:=l b.data.toList.length (by simp only[DataW.weights];exact ADH);have p:b.data.toList.length=b.size:=AF9;simp only[reachBytes]at this;simp only[AP];omega
  | slice e =>
   obtain⟨et,hu,L,C,u⟩:=gS h;rcases DataW.trod_slice hu c with ⟨rfl,rfl⟩|⟨a,len,cap,elems,rest,m,rfl,rfl,rfl,-,U,-,V,Q,-,-⟩
   ·exact⟨[],none,0,rfl,NO _,IN _,.inl rfl⟩
   ·have X:len<=AP:=by
     have h1:=l ((elems.length+rest.length)*P.bytesOf et) (by simp only[DataW.weights,hu,RU];exact ADH);have p:elems.length+rest.length<=(elems.length+rest.length)*P.bytesOf et:=Nat.le_mul_of_pos_right _ L;simp only[reachBytes]at h1;simp only[AP];omega
    have D:∀i,i<len->∃d:e.den,∃g:List Value,g.length=e.size/\(∀(j:Nat) (v:Value),g[j]?=some v->w.cell? (a.add (i*e.size+j))=some v)/\B0 w (λ_=>False) e g d:=by
     intro i hi;have h1:=Q i hi;obtain⟨x,c⟩:∃x,elems[i]?=some x:=⟨_,At (by omega)⟩;rw[c]at h1;obtain⟨g,p,G⟩:=Option.bind_eq_some_iff.1 h1;obtain⟨I,J⟩:=z8 p;obtain⟨d,o⟩:=B e et u m g x G (λb r=>l b (by
      simp only[DataW.weights,hu];exact OF _ (TB _ (gT (GO.2 ⟨x,iF c,rfl⟩) b r))))
     refine⟨d,g,by rw[I,C],λj v S=>?_,o⟩;have:=J j v S
     rwa [DS,C]at this
    have K:∃ds:List e.den,ds.length=len/\∀(i:Nat) (d:e.den),ds[i]?=some d->∃g:List Value,g.length=e.size/\(∀(j:Nat) (v:Value),g[j]?=some v->w.cell? (a.add (i*e.size+j))=some v)/\B0 w (λ_=>False) e g d:=by
     refine⟨(List.range len).pmap (λi hi=>Classical.choose (D i hi)) (λi hi=>Ri.1 hi),by simp,λi d o=>?_⟩;rw[List.getElem?_pmap]at o;simp only[Option.pmap_eq_some_iff]at o;obtain⟨j,h1,p,rfl⟩:=o;have R:j=i:=by
      obtain⟨W,u⟩:=Ra.1 p;simpa using u.symm
     subst R;exact Classical.choose_spec (D j h1)
    obtain⟨ds,N,O⟩:=K;exact⟨ds,some a,cap,by rw[N],by omega,by omega,.inr ⟨a,rfl,λh=>h,O⟩⟩
  | agg s =>
   rcases A2B h with ⟨fs,hu,M,hf⟩|⟨q,e,hu,M,hf⟩
   ·obtain⟨xs,m,rfl,rfl,T,z,A⟩:=DataW.trod_struct hu c;obtain⟨d,o⟩:=Tm (λty t y cs x c l=>B ty t y m cs x c l) cs s 0 fs.toList hf xs (by simpa using z) (λi f hi=>A i f (by simpa using hi)) (by
     simpa[DataW.weights,hu] using l)
    refine⟨d,?_⟩;show B0 w _ s cs d
    rwa [TG,As (by omega)]at o
   ·obtain⟨xs,m,rfl,rfl,T,z,A⟩:=DataW.trod_array hu c;obtain⟨d,o⟩:=Tm (λty t y cs x c l=>B ty t y m cs x c l) cs s 0 (z7 P q e) hf xs (by simp[z7,z]) (λi f hi=>by
     unfold z7 at hi;rw[aT]at hi;by_cases E:i<q
     ·rw[ADS E]at hi;have hi:({ (default:Field) with offset:=i*P.cellsOf e,type:=e }:Field)=f:=by simpa using hi
      rw[<-hi];exact A i E
     ·rw[Rj (by simp;omega)]at hi;cases hi) (λb r=>l b (by
     simp only[DataW.weights,hu];unfold z7 at r;rw[List.range_eq_range']at r;exact ZA b r))
    refine⟨d,?_⟩;show B0 w _ s cs d
    rwa [TG,As (by omega)]at o
  | prod a b=>simp[rd]at h
  | ref j=>simp[rd]at h
theorem A6U {k:Nat} {ty:Ty} {t:TypeId} {v:Value} {r:Reach} {base:Nat} (h:rd P k ty t=true) (d:Value.okWide P w r base t v):v=ty.wrap v.cells.toList:=by
 cases k with
 | zero=>simp[rd]at h
 | succ k =>
  cases ty with
  | int q =>
   obtain⟨n,rfl⟩:=okWide_int (VX (by simpa only[rd] using h)) d;rfl
  | bool =>
   obtain⟨n,rfl⟩:=okWide_bool (wV h) d;rfl
  | str =>
   obtain⟨n,rfl⟩:=okWide_string (A2A h) d;rfl
  | slice e =>
   obtain⟨et,hu,_⟩:=gS h;obtain⟨a,l,c,rfl⟩:=okWide_slice hu d;rfl
  | agg s =>
   rcases A2B h with ⟨fs,hu,_⟩|⟨q,e,hu,_⟩
   ·obtain⟨cs,rfl,_⟩:=okWide_struct hu d;simp[Ty.wrap,Value.cells]
   ·simp only[Value.okWide,hu]at d;obtain⟨cs,rfl,_⟩:=d;simp[Ty.wrap,Value.cells]
  | prod a b=>simp[rd]at h
  | ref j=>simp[rd]at h
def Ny (P:Program):List Ty->List TypeId->Bool
 | [],[]=>true
 | ty :: a,t :: ts=>rd P 50 ty t&&P.readableRec t&&decide (t<P.types.size)&&Ny P a ts
 | _,_=>false
theorem gU {r:Reach} {base:Nat}:∀(a:List Ty) (ts:List TypeId) (c:List Value) (ds:List (DataW H)) (p:List MemPlace),Ny P a ts=true->DataW.TrodAll enc P w 0 spare held ts c ds p ->
  (∀(j:Nat) (t:TypeId) (v:Value),ts[j]?=some t->c[j]?=some v->Value.okWide P w r base t v)->(∀b∈DataW.weightsEach P ts ds,b<=reachBytes)->∃xs:KR a,TX w (λ_=>False) a c xs
 | [],[],c,ds,p,_,h,_,_=>by
  obtain⟨rfl,_,_⟩:=trodAll_nil h;exact⟨(),rfl⟩
 | ty :: a,t :: ts,c,ds,p,g,h,i,e=>by
  simp only[Ny,AT]at g;obtain⟨⟨⟨h1,_⟩,_⟩,m⟩:=g;obtain⟨v,k,d,l,D,A,rfl,rfl,rfl,⟨n,o⟩,q⟩:=trodAll_cons h;simp only[DataW.weightsEach,No]at e;obtain⟨x,y⟩:=A2C 50 ty t h1 n _ _ o (λb f=>e b (.inl f));obtain⟨xs,z⟩:=gU a ts k l A m q (λj B C s u=>i (j+1) B C s u) (λb f=>e b (.inr f));exact⟨(x,xs),v,k,rfl,⟨_,y,A6U h1 (i 0 t v rfl rfl)⟩,z⟩
 | [],_ :: _,_,_,_,h,_,_,_=>by simp[Ny]at h
 | _ :: _,[],_,_,_,h,_,_,_=>by simp[Ny]at h
theorem ZB (i:laidOutB P=true) {W f:World} (g:Below W.heap.size W f):∀(e:List Ty) (ts:List TypeId) (a:List Value) (ds:List (DataW H)) (p:List MemPlace),Ny P e ts=true ->
  DataW.TrodAll enc P W 0 (λ_=>true) true ts a ds p->(∀x∈p,x.block<W.heap.size)->DataW.TrodAll enc P f 0 (λb=>decide (b<W.heap.size)) true ts a ds p
 | [],[],a,ds,p,_,h,_=>by
  obtain⟨rfl,rfl,rfl⟩:=trodAll_nil h;rfl
 | ty :: e,t :: ts,a,ds,p,k,h,j=>by
  simp only[Ny,AT,Ff]at k;obtain⟨⟨⟨_,h1⟩,n⟩,o⟩:=k;obtain⟨v,u,d,m,s,l,rfl,rfl,rfl,q,r⟩:=trodAll_cons h;exact⟨s,l,Below.trod i h1 n q g (λx c=>j x (TB _ c)),ZB i g e ts u m l o r (λx c=>j x (AE8 _ c)),rfl⟩
 | [],_ :: _,_,_,_,h,_,_=>by simp[Ny]at h
 | _ :: _,[],_,_,_,h,_,_=>by simp[Ny]at h
end
theorem A2D {w:World} {O:Nat->Prop} {u:Value} {w':World} (h:A1Q w O [.p .bool true] u w'):u=.bool true/\Below w.heap.size w w':=by
 obtain⟨ρ',a⟩:=h 0;refine⟨?_,a.below⟩;obtain⟨cs,h1,b⟩:Bk _ _ .bool u true:=a.av;have h1:cs=[.bool true]:=h1;rw[b,h1];rfl
theorem A2E {P:Program} {f:FuncId} {fn:Func} {sp:Aa} {s:ChangeSpec} {tb:TypeId} (J:Ad P f sp) (L:∀ds,sp.pre ds) (K:∀ds,sp.out ds=[.p .bool true])
  (F:laidOutB P=true) (r:Ny P sp.ins fn.params.toList=true) (N:fn.resultTypes=#[tb]) (D:P.underlying tb=some .bool) (w:s.vars=[])
  (hs:∀(H:Type) (ds:List (DataW H)),ds.length=fn.params.size->(s.fn H ds).results=[.lit (.bool true)]/\(s.fn H ds).args=ds/\(s.fn H ds).vars=[])
  {H:Type} {enc:TypeId×Value->H} {W:World} {base:Nat} {args:Array Value} {ds l:List (DataW H)} {y:List MemPlace} {X:List TypeId}
  (S:∀(j:Nat) t v,fn.params[j]?=some t->args[j]?=some v->Value.okWide P W .any base t v)
  (n:DataW.Whole enc P fn.params.toList s.vars false W args.toList ds l y)
  (O:(DataW.weightsEach P (fn.params.toList++X) (ds++l)).all (·<=reachBytes)=true) :
  Calls P f args W λe k=>∃v,e=.returned v/\s.post enc P fn false true false false W args v k:=by
 have o:=n;obtain⟨p,q,c,m,rfl,Z,aa⟩:=n;rw[w]at m;obtain⟨rfl,rfl⟩:=trodVars_none m;obtain⟨xs,U⟩:=gU sp.ins fn.params.toList args.toList ds p r c (λj t v Q R=>S j t v (by simpa using Q) (by simpa using R))
  (λb a=>by simpa using If.1 O b (Y9 b a))
 have I:∀x∈p,x.block<W.heap.size:=λx T=>by simpa using o.lt x (TB _ T)
 have G:ds.length=fn.params.size:=by
  have:∀(ts:List TypeId) (i:List Value) (ds:List (DataW H)) (p:List MemPlace),DataW.TrodAll enc P W 0 (λ_=>true) true ts i ds p->ds.length=ts.length:=by
   intro ts;induction ts with
   | nil=>intro i ds p h;obtain⟨_,rfl,_⟩:=trodAll_nil h;rfl
   | cons t ts V=>intro i ds p h;obtain⟨v,ae,d,Y,ab,ad,rfl,rfl,rfl,_,M⟩:=trodAll_cons h;simp[V _ _ _ M]
  simpa using this _ _ _ _ c
 have g:=J.2 W (λ_=>False) args.toList xs (λ_ h=>h.elim) U (L xs);rw[K]at g;have C:args.toList.toArray=args:=by simp
 rw[C]at g;refine g.mono λe k ⟨u,E,hu⟩=>?_;obtain⟨rfl,a⟩:=A2D hu;obtain⟨z,A,B⟩:=hs H (ds++[]) (by simpa using G);refine⟨_,E,_,_,_,[],p,[],o,?_,?_,?_,a.frame _,λh=>by cases h⟩
 ·rw[z,N];exact trodAll_mk1 (shut_bool D _)
 ·rw[A,Rq];exact ZB F a sp.ins _ _ _ _ r c I
 ·rw[B,w];rfl
end
end Go.Proofs.YtapkhdkbkodbjaaGreat.Fw

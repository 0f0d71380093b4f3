/- This program's types; a slice compared with nil; from a contract to the given statement. -/
import Derived.Test.YtapkhdkbkodbjaaGreatCZI
import Derived.Test.YtapkhdkbkodbjaaGreatChecked
import Derived.Laws.Cover3
import Derived.Carry
import Derived.SizedLaws
import Derived.OpenShut
set_option linter.unusedVariables false
set_option linter.unusedSimpArgs false
namespace Go.Proofs.YtapkhdkbkodbjaaGreat.Fw
section
open Go
abbrev T1:Ty:=.ref 1
abbrev T2:Ty:=.int .i64
abbrev T3:Ty:=.int .i64
abbrev T4:Ty:=.bool
abbrev T5:Ty:=.int .u8
abbrev T9:Ty:=.str
abbrev T12:Ty:=.int .u64
abbrev T21:Ty:=.int .i32
abbrev T32:Ty:=.ref 1
abbrev T33:Ty:=.ref 1
abbrev T34:Ty:=.ref 1
abbrev Fm:Ty:=.int .i64
abbrev T36:Ty:=.ref 1
abbrev T37:Ty:=.ref 1
abbrev T41:Ty:=.ref 1
abbrev T43:Ty:=.ref 1
abbrev T44:Ty:=.ref 1
abbrev T45:Ty:=.ref 1
abbrev T46:Ty:=.ref 1
abbrev T47:Ty:=.ref 1
abbrev T48:Ty:=.ref 1
abbrev T49:Ty:=.ref 1
abbrev T50:Ty:=.ref 1
abbrev T56:Ty:=.ref 1
abbrev T57:Ty:=.ref 1
abbrev T58:Ty:=.ref 1
abbrev T59:Ty:=.ref 1
abbrev T60:Ty:=.ref 1
abbrev Ft:Ty:=.slice T3
abbrev T63:Ty:=.ref 1
abbrev T65:Ty:=.ref 1
abbrev T66:Ty:=.ref 1
abbrev T67:Ty:=.ref 1
abbrev T68:Ty:=.ref 1
abbrev T70:Ty:=.ref 1
abbrev T71:Ty:=.ref 1
abbrev T72:Ty:=.ref 1
abbrev T73:Ty:=.ref 1
abbrev T74:Ty:=.ref 1
abbrev T75:Ty:=.ref 1
abbrev T76:Ty:=.ref 1
abbrev T78:Ty:=.ref 1
abbrev T80:Ty:=.ref 1
abbrev T81:Ty:=.ref 1
abbrev T82:Ty:=.ref 1
abbrev T84:Ty:=.ref 1
abbrev T85:Ty:=.ref 1
abbrev T87:Ty:=.ref 1
abbrev T89:Ty:=.ref 1
abbrev T90:Ty:=.ref 1
abbrev T94:Ty:=.ref 1
abbrev GP:Ty:=.slice T9
abbrev T96:Ty:=.ref 1
abbrev T97:Ty:=.ref 1
abbrev T98:Ty:=.ref 1
abbrev T99:Ty:=.ref 1
abbrev ACk:Ty:=.ref 1
abbrev ACl:Ty:=.ref 1
abbrev ACm:Ty:=.ref 1
abbrev ACn:Ty:=.ref 1
abbrev ACo:Ty:=.agg (.prod T3 (T3))
abbrev AW:Ty:=.agg (.prod T3 (T3))
abbrev ACp:Ty:=.ref 1
abbrev ACq:Ty:=.ref 0
abbrev ACr:Ty:=.ref 1
abbrev ACs:Ty:=.ref 1
abbrev ACt:Ty:=.ref 1
abbrev ACu:Ty:=.ref 1
abbrev ACv:Ty:=.ref 2
abbrev ACw:Ty:=.ref 1
abbrev ACx:Ty:=.ref 1
abbrev ACy:Ty:=.ref 1
abbrev ACz:Ty:=.ref 1
abbrev ACA:Ty:=.ref 1
abbrev ACB:Ty:=.ref 1
abbrev ACC:Ty:=.ref 1
abbrev ACD:Ty:=.ref 1
abbrev ACE:Ty:=.ref 1
abbrev ACF:Ty:=.ref 1
abbrev ACG:Ty:=.ref 1
abbrev ACH:Ty:=.ref 1
abbrev ACI:Ty:=.ref 1
abbrev ACJ:Ty:=.ref 1
abbrev ACK:Ty:=.ref 1
abbrev ACL:Ty:=.ref 1
abbrev ACM:Ty:=.ref 1
abbrev ACN:Ty:=.ref 1
abbrev ACO:Ty:=.ref 1
abbrev ACP:Ty:=.ref 1
abbrev ACQ:Ty:=.ref 1
abbrev ACR:Ty:=.ref 1
abbrev ACS:Ty:=.ref 1
abbrev ACT:Ty:=.agg (.prod T9 (T9))
abbrev pK:Ty:=.agg (.prod T9 (T9))
abbrev ACU:Ty:=.agg (.prod T9 (T3))
abbrev A49:Ty:=.agg (.prod T9 (T3))
abbrev ACV:Ty:=.ref 1
abbrev ACW:Ty:=.ref 1
abbrev ACX:Ty:=.ref 1
abbrev ACY:Ty:=.ref 1
abbrev ACZ:Ty:=.ref 1
abbrev AD0:Ty:=.agg (.prod T3 (T3))
abbrev A4a:Ty:=.agg (.prod T3 (T3))
abbrev AD1:Ty:=.ref 1
abbrev R3:Ty:=.agg (.prod T3 (T3))
abbrev AD2:Ty:=.slice R3
abbrev AD3:Ty:=.ref 1
abbrev AD4:Ty:=.ref 1
abbrev AD5:Ty:=.ref 1
abbrev AD6:Ty:=.ref 2
abbrev AD7:Ty:=.ref 1
abbrev AD8:Ty:=.ref 1
abbrev AD9:Ty:=.ref 1
abbrev ADa:Ty:=.ref 1
abbrev ADb:Ty:=.ref 0
abbrev ADc:Ty:=.ref 1
abbrev Qp:Ty:=.int .u64
abbrev ADd:Ty:=.ref 1
abbrev ADe:Ty:=.ref 1
abbrev ADf:Ty:=.ref 1
abbrev ADg:Ty:=.ref 1
abbrev ADh:Ty:=.ref 1
abbrev ADi:Ty:=.ref 1
abbrev ADj:Ty:=.ref 1
abbrev ADk:Ty:=.ref 1
abbrev ADl:Ty:=.ref 1
abbrev ADm:Ty:=.ref 1
abbrev ADn:Ty:=.ref 1
abbrev ADo:Ty:=.ref 1
abbrev ADp:Ty:=.ref 1
abbrev ADq:Ty:=.ref 0
abbrev ADr:Ty:=.ref 1
abbrev ADs:Ty:=.ref 1
abbrev ADt:Ty:=.ref 1
abbrev ADu:Ty:=.ref 1
abbrev ADv:Ty:=.ref 1
abbrev ADw:Ty:=.ref 1
abbrev ADx:Ty:=.ref 1
abbrev ADy:Ty:=.ref 1
abbrev ADz:Ty:=.ref 1
abbrev ADA:Ty:=.ref 1
abbrev ADB:Ty:=.ref 1
abbrev ADC:Ty:=.ref 1
abbrev ADD:Ty:=.ref 1
abbrev ADE:Ty:=.ref 1
abbrev ADF:Ty:=.ref 1
abbrev ADG:Ty:=.ref 1
abbrev ADH:Ty:=.ref 1
abbrev ADI:Ty:=.ref 1
abbrev ADJ:Ty:=.ref 1
abbrev ADK:Ty:=.ref 1
abbrev ADL:Ty:=.ref 1
abbrev ADM:Ty:=.ref 1
abbrev ADN:Ty:=.ref 1
abbrev ADO:Ty:=.ref 1
abbrev ADP:Ty:=.ref 1
abbrev ADQ:Ty:=.ref 1
abbrev ADR:Ty:=.ref 1
abbrev ADS:Ty:=.ref 1
abbrev ADT:Ty:=.ref 1
abbrev ADU:Ty:=.ref 1
abbrev ADV:Ty:=.ref 1
abbrev ADW:Ty:=.ref 1
abbrev ADX:Ty:=.ref 1
abbrev ADY:Ty:=.ref 1
abbrev ADZ:Ty:=.ref 1
abbrev AE0:Ty:=.ref 1
abbrev AE1:Ty:=.int .u64
abbrev AE2:Ty:=.ref 1
abbrev AE3:Ty:=.ref 1
abbrev AE4:Ty:=.ref 1
abbrev AE5:Ty:=.ref 1
abbrev AE6:Ty:=.ref 1
abbrev AE7:Ty:=.ref 1
abbrev AE8:Ty:=.ref 1
abbrev AE9:Ty:=.ref 1
abbrev AEa:Ty:=.int .i64
abbrev AEb:Ty:=.ref 1
abbrev AEc:Ty:=.ref 1
abbrev AEd:Ty:=.ref 1
abbrev AEe:Ty:=.ref 1
abbrev AEf:Ty:=.ref 1
abbrev AEg:Ty:=.int .u32
abbrev AEh:Ty:=.ref 1
abbrev AEi:Ty:=.ref 1
abbrev AEj:Ty:=.ref 1
abbrev AEk:Ty:=.int .u64
abbrev AEl:Ty:=.ref 1
abbrev AEm:Ty:=.ref 1
abbrev AEn:Ty:=.ref 1
abbrev AEo:Ty:=.ref 0
abbrev AEp:Ty:=.ref 1
abbrev AEq:Ty:=.ref 0
abbrev AEr:Ty:=.ref 1
abbrev AEs:Ty:=.ref 1
abbrev AEt:Ty:=.ref 1
abbrev AEu:Ty:=.ref 1
abbrev AEv:Ty:=.ref 0
abbrev AEw:Ty:=.agg (.prod T9 (T9))
abbrev AB2:Ty:=.agg (.prod T9 (T9))
abbrev dQ:Ty:=.slice A49
abbrev T51:Ty:=.slice AB2
abbrev T52:Ty:=.agg (.prod T3 (T51))
abbrev T53:Ty:=.agg (.prod T3 (T51))
abbrev DF:Ty:=.slice AW
abbrev T92:Ty:=.agg (.prod T3 (DF))
abbrev GR:Ty:=.agg (.prod T3 (DF))
abbrev A7n:Ty:=.slice DF
abbrev AEx:Ty:=.slice Qp
abbrev BN:Ty:=.slice Qp
abbrev dR:Ty:=.slice A4a
abbrev AEy:Ty:=.agg (.prod T9 (.prod BN (.prod Ft (dR))))
abbrev pL:Ty:=.agg (.prod T9 (.prod BN (.prod Ft (dR))))
abbrev A7o:Ty:=.slice dR
abbrev AEz:Ty:=.agg (.prod T9 (BN))
abbrev dS:Ty:=.agg (.prod T9 (BN))
abbrev jS:Ty:=.slice pK
abbrev AEA:Ty:=.agg (.prod T9 (.prod GP (jS)))
abbrev A1w:Ty:=.agg (.prod T9 (.prod GP (jS)))
abbrev UD:Ty:=.slice BN
abbrev FA:Ty:=.slice A1w
abbrev Fq:Ty:=.slice GR
abbrev T24:Ty:=.agg (Fq)
abbrev DC:Ty:=.agg (Fq)
abbrev T26:Ty:=.agg (.prod T9 (.prod T3 (DC)))
abbrev T27:Ty:=.agg (.prod T9 (.prod T3 (DC)))
abbrev ZB:Ty:=.slice pL
abbrev T30:Ty:=.agg (.prod ZB (dQ))
abbrev Du:Ty:=.agg (.prod ZB (dQ))
abbrev MT:Ty:=.slice DC
abbrev T39:Ty:=.agg (.prod FA (.prod T27 (.prod MT (MT))))
abbrev T40:Ty:=.agg (.prod FA (.prod T27 (.prod MT (MT))))
abbrev T54:Ty:=.agg (.prod T9 (.prod T53 (DC)))
abbrev T55:Ty:=.agg (.prod T9 (.prod T53 (DC)))
abbrev AEB:Ty:=.agg (.prod Du (.prod Ft (.prod Ft (A7n))))
abbrev AEC:Ty:=.agg (.prod Du (.prod Ft (.prod Ft (A7n))))
abbrev AED:Ty:=.agg (.prod Du (.prod T3 (.prod T3 (.prod T3 (.prod T3 (.prod T3 (.prod T3 (.prod T3 (T3)))))))))
abbrev WO:Ty:=.agg (.prod Du (.prod T3 (.prod T3 (.prod T3 (.prod T3 (.prod T3 (.prod T3 (.prod T3 (T3)))))))))
abbrev KF:Ty:=.slice dS
abbrev AEE:Ty:=.agg (.prod DC (.prod Ft (Ft)))
abbrev AEF:Ty:=.agg (.prod DC (.prod Ft (Ft)))
abbrev AEG:Ty:=.agg (.prod Du (.prod Ft (Ft)))
abbrev AEH:Ty:=.agg (.prod Du (.prod Ft (Ft)))
set_option maxRecDepth 100000
def AJ:List (Nat×TI):=[(1,⟨T1,[],0,8⟩),
 (2,⟨T2,[],0,8⟩),
 (3,⟨T3,[],0,8⟩),
 (4,⟨T4,[],0,1⟩),
 (5,⟨T5,[],0,1⟩),
 (9,⟨T9,[],0,16⟩),
 (12,⟨T12,[],0,8⟩),
 (21,⟨T21,[],0,4⟩),
 (22,⟨FA,[],158,24⟩),
 (23,⟨Fq,[],93,24⟩),
 (24,⟨T24,[(0,1)],0,24⟩),
 (25,⟨DC,[(0,1)],0,24⟩),
 (26,⟨T26,[(0,1),(1,1),(2,1)],0,48⟩),
 (27,⟨T27,[(0,1),(1,1),(2,1)],0,48⟩),
 (28,⟨ZB,[],144,24⟩),
 (29,⟨dQ,[],163,24⟩),
 (30,⟨T30,[(0,1),(1,1)],0,48⟩),
 (31,⟨Du,[(0,1),(1,1)],0,48⟩),
 (32,⟨T32,[],0,8⟩),
 (33,⟨T33,[],0,8⟩),
 (34,⟨T34,[],0,8⟩),
 (35,⟨Fm,[],0,8⟩),
 (36,⟨T36,[],0,8⟩),
 (37,⟨T37,[],0,8⟩),
 (38,⟨MT,[],25,24⟩),
 (39,⟨T39,[(0,1),(1,3),(4,1),(5,1)],0,120⟩),
 (40,⟨T40,[(0,1),(1,3),(4,1),(5,1)],0,120⟩),
 (41,⟨T41,[],0,8⟩),
 (43,⟨T43,[],0,8⟩),
 (44,⟨T44,[],0,8⟩),
 (45,⟨T45,[],0,8⟩),
 (46,⟨T46,[],0,8⟩),
 (47,⟨T47,[],0,8⟩),
 (48,⟨T48,[],0,8⟩),
 (49,⟨T49,[],0,8⟩),
 (50,⟨T50,[],0,8⟩),
 (51,⟨T51,[],288,24⟩),
 (52,⟨T52,[(0,1),(1,1)],0,32⟩),
 (53,⟨T53,[(0,1),(1,1)],0,32⟩),
 (54,⟨T54,[(0,1),(1,2),(3,1)],0,72⟩),
 (55,⟨T55,[(0,1),(1,2),(3,1)],0,72⟩),
 (56,⟨T56,[],0,8⟩),
 (57,⟨T57,[],0,8⟩),
 (58,⟨T58,[],0,8⟩),
 (59,⟨T59,[],0,8⟩),
 (60,⟨T60,[],0,8⟩),
 (61,⟨Ft,[],3,24⟩),
 (63,⟨T63,[],0,8⟩),
 (65,⟨T65,[],0,8⟩),
 (66,⟨T66,[],0,8⟩),
 (67,⟨T67,[],0,8⟩),
 (68,⟨T68,[],0,8⟩),
 (70,⟨T70,[],0,8⟩),
 (71,⟨T71,[],0,8⟩),
 (72,⟨T72,[],0,8⟩),
 (73,⟨T73,[],0,8⟩),
 (74,⟨T74,[],0,8⟩),
 (75,⟨T75,[],0,8⟩),
 (76,⟨T76,[],0,8⟩),
 (78,⟨T78,[],0,8⟩),
 (80,⟨T80,[],0,8⟩),
 (81,⟨T81,[],0,8⟩),
 (82,⟨T82,[],0,8⟩),
 (84,⟨T84,[],0,8⟩),
 (85,⟨T85,[],0,8⟩),
 (87,⟨T87,[],0,8⟩),
 (89,⟨T89,[],0,8⟩),
 (90,⟨T90,[],0,8⟩),
 (91,⟨DF,[],106,24⟩),
 (92,⟨T92,[(0,1),(1,1)],0,32⟩),
 (93,⟨GR,[(0,1),(1,1)],0,32⟩),
 (94,⟨T94,[],0,8⟩),
 (95,⟨GP,[],9,24⟩),
 (96,⟨T96,[],0,8⟩),
 (97,⟨T97,[],0,8⟩),
 (98,⟨T98,[],0,8⟩),
 (99,⟨T99,[],0,8⟩),
 (100,⟨ACk,[],0,8⟩),
 (101,⟨ACl,[],0,8⟩),
 (103,⟨ACm,[],0,8⟩),
 (104,⟨ACn,[],0,8⟩),
 (105,⟨ACo,[(0,1),(1,1)],0,16⟩),
 (106,⟨AW,[(0,1),(1,1)],0,16⟩),
 (107,⟨ACp,[],0,8⟩),
 (108,⟨ACq,[],0,8⟩),
 (109,⟨A7n,[],91,24⟩),
 (110,⟨AEB,[(0,2),(2,1),(3,1),(4,1)],0,120⟩),
 (111,⟨AEC,[(0,2),(2,1),(3,1),(4,1)],0,120⟩),
 (112,⟨ACr,[],0,8⟩),
 (113,⟨ACs,[],0,8⟩),
 (114,⟨AED,[(0,2),(2,1),(3,1),(4,1),(5,1),(6,1),(7,1),(8,1),(9,1)],0,112⟩),
 (115,⟨WO,[(0,2),(2,1),(3,1),(4,1),(5,1),(6,1),(7,1),(8,1),(9,1)],0,112⟩),
 (117,⟨ACt,[],0,8⟩),
 (118,⟨ACu,[],0,8⟩),
 (119,⟨ACv,[(3,4)],0,8⟩),
 (120,⟨ACw,[],0,8⟩),
 (121,⟨ACx,[],0,8⟩),
 (122,⟨ACy,[],0,8⟩),
 (123,⟨ACz,[],0,8⟩),
 (124,⟨ACA,[],0,8⟩),
 (125,⟨ACB,[],0,8⟩),
 (126,⟨ACC,[],0,8⟩),
 (127,⟨ACD,[],0,8⟩),
 (128,⟨ACE,[],0,8⟩),
 (129,⟨ACF,[],0,8⟩),
 (130,⟨ACG,[],0,8⟩),
 (132,⟨ACH,[],0,8⟩),
 (133,⟨ACI,[],0,8⟩),
 (134,⟨ACJ,[],0,8⟩),
 (136,⟨ACK,[],0,8⟩),
 (137,⟨ACL,[],0,8⟩),
 (138,⟨ACM,[],0,8⟩),
 (139,⟨AEx,[],186,24⟩),
 (140,⟨BN,[],186,24⟩),
 (141,⟨ACN,[],0,8⟩),
 (142,⟨dR,[],170,24⟩),
 (143,⟨AEy,[(0,1),(1,1),(2,1),(3,1)],0,88⟩),
 (144,⟨pL,[(0,1),(1,1),(2,1),(3,1)],0,88⟩),
 (145,⟨A7o,[],142,24⟩),
 (147,⟨ACO,[],0,8⟩),
 (148,⟨KF,[],152,24⟩),
 (150,⟨ACP,[],0,8⟩),
 (151,⟨AEz,[(0,1),(1,1)],0,40⟩),
 (152,⟨dS,[(0,1),(1,1)],0,40⟩),
 (153,⟨ACQ,[],0,8⟩),
 (155,⟨ACR,[],0,8⟩),
 (156,⟨jS,[],161,24⟩),
 (157,⟨AEA,[(0,1),(1,1),(2,1)],0,64⟩),
 (158,⟨A1w,[(0,1),(1,1),(2,1)],0,64⟩),
 (159,⟨ACS,[],0,8⟩),
 (160,⟨ACT,[(0,1),(1,1)],0,32⟩),
 (161,⟨pK,[(0,1),(1,1)],0,32⟩),
 (162,⟨ACU,[(0,1),(1,1)],0,24⟩),
 (163,⟨A49,[(0,1),(1,1)],0,24⟩),
 (164,⟨ACV,[],0,8⟩),
 (165,⟨ACW,[],0,8⟩),
 (166,⟨ACX,[],0,8⟩),
 (167,⟨ACY,[],0,8⟩),
 (168,⟨ACZ,[],0,8⟩),
 (169,⟨AD0,[(0,1),(1,1)],0,16⟩),
 (170,⟨A4a,[(0,1),(1,1)],0,16⟩),
 (171,⟨AD1,[],0,8⟩),
 (172,⟨R3,[(0,1),(1,1)],3,16⟩),
 (173,⟨AD2,[],172,24⟩),
 (174,⟨AD3,[],0,8⟩),
 (175,⟨AD4,[],0,8⟩),
 (176,⟨AD5,[],0,8⟩),
 (177,⟨AD6,[(3,3)],0,8⟩),
 (178,⟨AD7,[],0,8⟩),
 (179,⟨AD8,[],0,8⟩),
 (180,⟨AD9,[],0,8⟩),
 (181,⟨ADa,[],0,8⟩),
 (182,⟨ADb,[],0,8⟩),
 (183,⟨AEE,[(0,1),(1,1),(2,1)],0,72⟩),
 (184,⟨AEF,[(0,1),(1,1),(2,1)],0,72⟩),
 (185,⟨ADc,[],0,8⟩),
 (186,⟨Qp,[],0,8⟩),
 (187,⟨ADd,[],0,8⟩),
 (188,⟨ADe,[],0,8⟩),
 (189,⟨ADf,[],0,8⟩),
 (190,⟨ADg,[],0,8⟩),
 (192,⟨ADh,[],0,8⟩),
 (193,⟨ADi,[],0,8⟩),
 (194,⟨UD,[],140,24⟩),
 (195,⟨ADj,[],0,8⟩),
 (196,⟨ADk,[],0,8⟩),
 (197,⟨ADl,[],0,8⟩),
 (198,⟨ADm,[],0,8⟩),
 (199,⟨ADn,[],0,8⟩),
 (201,⟨ADo,[],0,8⟩),
 (202,⟨ADp,[],0,8⟩),
 (203,⟨ADq,[],0,8⟩),
 (204,⟨AEG,[(0,2),(2,1),(3,1)],0,96⟩),
 (205,⟨AEH,[(0,2),(2,1),(3,1)],0,96⟩),
 (206,⟨ADr,[],0,8⟩),
 (207,⟨ADs,[],0,8⟩),
 (208,⟨ADt,[],0,8⟩),
 (209,⟨ADu,[],0,8⟩),
 (210,⟨ADv,[],0,8⟩),
 (211,⟨ADw,[],0,8⟩),
 (212,⟨ADx,[],0,8⟩),
 (213,⟨ADy,[],0,8⟩),
 (214,⟨ADz,[],0,8⟩),
 (215,⟨ADA,[],0,8⟩),
 (216,⟨ADB,[],0,8⟩),
 (217,⟨ADC,[],0,8⟩),
 (218,⟨ADD,[],0,8⟩),
 (219,⟨ADE,[],0,8⟩),
 (220,⟨ADF,[],0,8⟩),
 (221,⟨ADG,[],0,8⟩),
 (222,⟨ADH,[],0,8⟩),
 (223,⟨ADI,[],0,8⟩),
 (224,⟨ADJ,[],0,8⟩),
 (225,⟨ADK,[],0,8⟩),
 (226,⟨ADL,[],0,8⟩),
 (228,⟨ADM,[],0,8⟩),
 (229,⟨ADN,[],0,8⟩),
 (230,⟨ADO,[],0,8⟩),
 (231,⟨ADP,[],0,8⟩),
 (232,⟨ADQ,[],0,8⟩),
 (233,⟨ADR,[],0,8⟩),
 (234,⟨ADS,[],0,8⟩),
 (235,⟨ADT,[],0,8⟩),
 (236,⟨ADU,[],0,8⟩),
 (237,⟨ADV,[],0,8⟩),
 (238,⟨ADW,[],0,8⟩),
 (239,⟨ADX,[],0,8⟩),
 (240,⟨ADY,[],0,8⟩),
 (241,⟨ADZ,[],0,8⟩),
 (242,⟨AE0,[],0,8⟩),
 (243,⟨AE1,[],0,8⟩),
 (244,⟨AE2,[],0,8⟩),
 (245,⟨AE3,[],0,8⟩),
 (246,⟨AE4,[],0,8⟩),
 (247,⟨AE5,[],0,8⟩),
 (248,⟨AE6,[],0,8⟩),
 (249,⟨AE7,[],0,8⟩),
 (250,⟨AE8,[],0,8⟩),
 (251,⟨AE9,[],0,8⟩),
 (252,⟨AEa,[],0,8⟩),
 (254,⟨AEb,[],0,8⟩),
 (255,⟨AEc,[],0,8⟩),
 (256,⟨AEd,[],0,8⟩),
 (257,⟨AEe,[],0,8⟩),
 (258,⟨AEf,[],0,8⟩),
 (259,⟨AEg,[],0,4⟩),
 (260,⟨AEh,[],0,8⟩),
 (261,⟨AEi,[],0,8⟩),
 (262,⟨AEj,[],0,8⟩),
 (263,⟨AEk,[],0,8⟩),
 (264,⟨AEl,[],0,8⟩),
 (265,⟨AEm,[],0,8⟩),
 (266,⟨AEn,[],0,8⟩),
 (267,⟨AEo,[],0,8⟩),
 (268,⟨AEp,[],0,8⟩),
 (269,⟨AEq,[],0,8⟩),
 (271,⟨AEr,[],0,8⟩),
 (272,⟨AEs,[],0,8⟩),
 (278,⟨AEt,[],0,8⟩),
 (281,⟨AEu,[],0,8⟩),
 (282,⟨AEv,[],0,8⟩),
 (287,⟨AEw,[(0,1),(1,1)],0,32⟩),
 (288,⟨AB2,[(0,1),(1,1)],0,32⟩)]
theorem tyTab_ok (f) (a:List Nat) (b:List Nat:=[]) (ne:List (Nat×TypeId):=[]):DH Tryz.prog ⟨AJ,f,b,ne,a⟩:=A6M (by kernel_rfl)
theorem drawsAny:Tryz.prog.follows .mixedOrders=true:=by kernel_rfl
theorem ty1:lk 1 AJ=some ⟨T1,[],0,8⟩:=rfl
theorem ty2:lk 2 AJ=some ⟨T2,[],0,8⟩:=rfl
theorem ty3:lk 3 AJ=some ⟨T3,[],0,8⟩:=rfl
theorem ty4:lk 4 AJ=some ⟨T4,[],0,1⟩:=rfl
theorem ty5:lk 5 AJ=some ⟨T5,[],0,1⟩:=rfl
theorem ty9:lk 9 AJ=some ⟨T9,[],0,16⟩:=rfl
theorem A7p:lk 12 AJ=some ⟨T12,[],0,8⟩:=rfl
theorem A7q:lk 21 AJ=some ⟨T21,[],0,4⟩:=rfl
theorem A7r:lk 22 AJ=some ⟨FA,[],158,24⟩:=rfl
theorem A7s:lk 23 AJ=some ⟨Fq,[],93,24⟩:=rfl
theorem A7t:lk 24 AJ=some ⟨T24,[(0,1)],0,24⟩:=rfl
theorem A7u:lk 25 AJ=some ⟨DC,[(0,1)],0,24⟩:=rfl
theorem A7v:lk 26 AJ=some ⟨T26,[(0,1),(1,1),(2,1)],0,48⟩:=rfl
theorem A7w:lk 27 AJ=some ⟨T27,[(0,1),(1,1),(2,1)],0,48⟩:=rfl
theorem A7x:lk 28 AJ=some ⟨ZB,[],144,24⟩:=rfl
theorem A7y:lk 29 AJ=some ⟨dQ,[],163,24⟩:=rfl
theorem A7z:lk 30 AJ=some ⟨T30,[(0,1),(1,1)],0,48⟩:=rfl
theorem A7A:lk 31 AJ=some ⟨Du,[(0,1),(1,1)],0,48⟩:=rfl
theorem A7B:lk 32 AJ=some ⟨T32,[],0,8⟩:=rfl
theorem A7C:lk 33 AJ=some ⟨T33,[],0,8⟩:=rfl
theorem A7D:lk 34 AJ=some ⟨T34,[],0,8⟩:=rfl
theorem A7E:lk 35 AJ=some ⟨Fm,[],0,8⟩:=rfl
theorem A7F:lk 36 AJ=some ⟨T36,[],0,8⟩:=rfl
theorem A7G:lk 37 AJ=some ⟨T37,[],0,8⟩:=rfl
theorem A7H:lk 38 AJ=some ⟨MT,[],25,24⟩:=rfl
theorem A7I:lk 39 AJ=some ⟨T39,[(0,1),(1,3),(4,1),(5,1)],0,120⟩:=rfl
theorem A7J:lk 40 AJ=some ⟨T40,[(0,1),(1,3),(4,1),(5,1)],0,120⟩:=rfl
theorem A7K:lk 41 AJ=some ⟨T41,[],0,8⟩:=rfl
theorem A7L:lk 43 AJ=some ⟨T43,[],0,8⟩:=rfl
theorem A7M:lk 44 AJ=some ⟨T44,[],0,8⟩:=rfl
theorem A7N:lk 45 AJ=some ⟨T45,[],0,8⟩:=rfl
theorem A7O:lk 46 AJ=some ⟨T46,[],0,8⟩:=rfl
theorem A7P:lk 47 AJ=some ⟨T47,[],0,8⟩:=rfl
theorem A7Q:lk 48 AJ=some ⟨T48,[],0,8⟩:=rfl
theorem A7R:lk 49 AJ=some ⟨T49,[],0,8⟩:=rfl
theorem A7S:lk 50 AJ=some ⟨T50,[],0,8⟩:=rfl
theorem A7T:lk 51 AJ=some ⟨T51,[],288,24⟩:=rfl
theorem A7U:lk 52 AJ=some ⟨T52,[(0,1),(1,1)],0,32⟩:=rfl
theorem A7V:lk 53 AJ=some ⟨T53,[(0,1),(1,1)],0,32⟩:=rfl
theorem A7W:lk 54 AJ=some ⟨T54,[(0,1),(1,2),(3,1)],0,72⟩:=rfl
theorem A7X:lk 55 AJ=some ⟨T55,[(0,1),(1,2),(3,1)],0,72⟩:=rfl
theorem A7Y:lk 56 AJ=some ⟨T56,[],0,8⟩:=rfl
theorem A7Z:lk 57 AJ=some ⟨T57,[],0,8⟩:=rfl
theorem A80:lk 58 AJ=some ⟨T58,[],0,8⟩:=rfl
theorem A81:lk 59 AJ=some ⟨T59,[],0,8⟩:=rfl
theorem A82:lk 60 AJ=some ⟨T60,[],0,8⟩:=rfl
theorem A83:lk 61 AJ=some ⟨Ft,[],3,24⟩:=rfl
theorem A84:lk 63 AJ=some ⟨T63,[],0,8⟩:=rfl
theorem A85:lk 65 AJ=some ⟨T65,[],0,8⟩:=rfl
theorem A86:lk 66 AJ=some ⟨T66,[],0,8⟩:=rfl
theorem A87:lk 67 AJ=some ⟨T67,[],0,8⟩:=rfl
theorem A88:lk 68 AJ=some ⟨T68,[],0,8⟩:=rfl
theorem A89:lk 70 AJ=some ⟨T70,[],0,8⟩:=rfl
theorem A8a:lk 71 AJ=some ⟨T71,[],0,8⟩:=rfl
theorem A8b:lk 72 AJ=some ⟨T72,[],0,8⟩:=rfl
theorem A8c:lk 73 AJ=some ⟨T73,[],0,8⟩:=rfl
theorem A8d:lk 74 AJ=some ⟨T74,[],0,8⟩:=rfl
theorem A8e:lk 75 AJ=some ⟨T75,[],0,8⟩:=rfl
theorem A8f:lk 76 AJ=some ⟨T76,[],0,8⟩:=rfl
theorem A8g:lk 78 AJ=some ⟨T78,[],0,8⟩:=rfl
theorem A8h:lk 80 AJ=some ⟨T80,[],0,8⟩:=rfl
theorem A8i:lk 81 AJ=some ⟨T81,[],0,8⟩:=rfl
theorem A8j:lk 82 AJ=some ⟨T82,[],0,8⟩:=rfl
theorem A8k:lk 84 AJ=some ⟨T84,[],0,8⟩:=rfl
theorem A8l:lk 85 AJ=some ⟨T85,[],0,8⟩:=rfl
theorem A8m:lk 87 AJ=some ⟨T87,[],0,8⟩:=rfl
theorem A8n:lk 89 AJ=some ⟨T89,[],0,8⟩:=rfl
theorem A8o:lk 90 AJ=some ⟨T90,[],0,8⟩:=rfl
theorem A8p:lk 91 AJ=some ⟨DF,[],106,24⟩:=rfl
theorem A8q:lk 92 AJ=some ⟨T92,[(0,1),(1,1)],0,32⟩:=rfl
theorem A8r:lk 93 AJ=some ⟨GR,[(0,1),(1,1)],0,32⟩:=rfl
theorem A8s:lk 94 AJ=some ⟨T94,[],0,8⟩:=rfl
theorem A8t:lk 95 AJ=some ⟨GP,[],9,24⟩:=rfl
theorem A8u:lk 96 AJ=some ⟨T96,[],0,8⟩:=rfl
theorem A8v:lk 97 AJ=some ⟨T97,[],0,8⟩:=rfl
theorem A8w:lk 98 AJ=some ⟨T98,[],0,8⟩:=rfl
theorem A8x:lk 99 AJ=some ⟨T99,[],0,8⟩:=rfl
theorem uF:lk 100 AJ=some ⟨ACk,[],0,8⟩:=rfl
theorem uG:lk 101 AJ=some ⟨ACl,[],0,8⟩:=rfl
theorem uH:lk 103 AJ=some ⟨ACm,[],0,8⟩:=rfl
theorem uI:lk 104 AJ=some ⟨ACn,[],0,8⟩:=rfl
theorem uJ:lk 105 AJ=some ⟨ACo,[(0,1),(1,1)],0,16⟩:=rfl
theorem uK:lk 106 AJ=some ⟨AW,[(0,1),(1,1)],0,16⟩:=rfl
theorem uL:lk 107 AJ=some ⟨ACp,[],0,8⟩:=rfl
theorem uM:lk 108 AJ=some ⟨ACq,[],0,8⟩:=rfl
theorem uN:lk 109 AJ=some ⟨A7n,[],91,24⟩:=rfl
theorem uP:lk 110 AJ=some ⟨AEB,[(0,2),(2,1),(3,1),(4,1)],0,120⟩:=rfl
theorem uQ:lk 111 AJ=some ⟨AEC,[(0,2),(2,1),(3,1),(4,1)],0,120⟩:=rfl
theorem uR:lk 112 AJ=some ⟨ACr,[],0,8⟩:=rfl
theorem uS:lk 113 AJ=some ⟨ACs,[],0,8⟩:=rfl
theorem uT:lk 114 AJ=some ⟨AED,[(0,2),(2,1),(3,1),(4,1),(5,1),(6,1),(7,1),(8,1),(9,1)],0,112⟩:=rfl
theorem uU:lk 115 AJ=some ⟨WO,[(0,2),(2,1),(3,1),(4,1),(5,1),(6,1),(7,1),(8,1),(9,1)],0,112⟩:=rfl
theorem uV:lk 117 AJ=some ⟨ACt,[],0,8⟩:=rfl
theorem uW:lk 118 AJ=some ⟨ACu,[],0,8⟩:=rfl
theorem uX:lk 119 AJ=some ⟨ACv,[(3,4)],0,8⟩:=rfl
theorem uY:lk 120 AJ=some ⟨ACw,[],0,8⟩:=rfl
theorem uZ:lk 121 AJ=some ⟨ACx,[],0,8⟩:=rfl
theorem u3:lk 122 AJ=some ⟨ACy,[],0,8⟩:=rfl
theorem u4:lk 123 AJ=some ⟨ACz,[],0,8⟩:=rfl
theorem u5:lk 124 AJ=some ⟨ACA,[],0,8⟩:=rfl
theorem u6:lk 125 AJ=some ⟨ACB,[],0,8⟩:=rfl
theorem u7:lk 126 AJ=some ⟨ACC,[],0,8⟩:=rfl
theorem u9:lk 127 AJ=some ⟨ACD,[],0,8⟩:=rfl
theorem vC:lk 128 AJ=some ⟨ACE,[],0,8⟩:=rfl
theorem vE:lk 129 AJ=some ⟨ACF,[],0,8⟩:=rfl
theorem vF:lk 130 AJ=some ⟨ACG,[],0,8⟩:=rfl
theorem vG:lk 132 AJ=some ⟨ACH,[],0,8⟩:=rfl
theorem vH:lk 133 AJ=some ⟨ACI,[],0,8⟩:=rfl
theorem vI:lk 134 AJ=some ⟨ACJ,[],0,8⟩:=rfl
theorem vJ:lk 136 AJ=some ⟨ACK,[],0,8⟩:=rfl
theorem vL:lk 137 AJ=some ⟨ACL,[],0,8⟩:=rfl
theorem vM:lk 138 AJ=some ⟨ACM,[],0,8⟩:=rfl
theorem vO:lk 139 AJ=some ⟨AEx,[],186,24⟩:=rfl
theorem vP:lk 140 AJ=some ⟨BN,[],186,24⟩:=rfl
theorem vQ:lk 141 AJ=some ⟨ACN,[],0,8⟩:=rfl
theorem vS:lk 142 AJ=some ⟨dR,[],170,24⟩:=rfl
theorem vU:lk 143 AJ=some ⟨AEy,[(0,1),(1,1),(2,1),(3,1)],0,88⟩:=rfl
theorem vV:lk 144 AJ=some ⟨pL,[(0,1),(1,1),(2,1),(3,1)],0,88⟩:=rfl
theorem vW:lk 145 AJ=some ⟨A7o,[],142,24⟩:=rfl
theorem vX:lk 147 AJ=some ⟨ACO,[],0,8⟩:=rfl
theorem vY:lk 148 AJ=some ⟨KF,[],152,24⟩:=rfl
theorem vZ:lk 150 AJ=some ⟨ACP,[],0,8⟩:=rfl
theorem v4:lk 151 AJ=some ⟨AEz,[(0,1),(1,1)],0,40⟩:=rfl
theorem v5:lk 152 AJ=some ⟨dS,[(0,1),(1,1)],0,40⟩:=rfl
theorem v6:lk 153 AJ=some ⟨ACQ,[],0,8⟩:=rfl
theorem v7:lk 155 AJ=some ⟨ACR,[],0,8⟩:=rfl
theorem v8:lk 156 AJ=some ⟨jS,[],161,24⟩:=rfl
theorem v9:lk 157 AJ=some ⟨AEA,[(0,1),(1,1),(2,1)],0,64⟩:=rfl
theorem wA:lk 158 AJ=some ⟨A1w,[(0,1),(1,1),(2,1)],0,64⟩:=rfl
theorem wB:lk 159 AJ=some ⟨ACS,[],0,8⟩:=rfl
theorem wC:lk 160 AJ=some ⟨ACT,[(0,1),(1,1)],0,32⟩:=rfl
theorem wD:lk 161 AJ=some ⟨pK,[(0,1),(1,1)],0,32⟩:=rfl
theorem wF:lk 162 AJ=some ⟨ACU,[(0,1),(1,1)],0,24⟩:=rfl
theorem wG:lk 163 AJ=some ⟨A49,[(0,1),(1,1)],0,24⟩:=rfl
theorem wH:lk 164 AJ=some ⟨ACV,[],0,8⟩:=rfl
theorem wI:lk 165 AJ=some ⟨ACW,[],0,8⟩:=rfl
theorem wJ:lk 166 AJ=some ⟨ACX,[],0,8⟩:=rfl
theorem wK:lk 167 AJ=some ⟨ACY,[],0,8⟩:=rfl
theorem wL:lk 168 AJ=some ⟨ACZ,[],0,8⟩:=rfl
theorem wM:lk 169 AJ=some ⟨AD0,[(0,1),(1,1)],0,16⟩:=rfl
theorem wN:lk 170 AJ=some ⟨A4a,[(0,1),(1,1)],0,16⟩:=rfl
theorem wP:lk 171 AJ=some ⟨AD1,[],0,8⟩:=rfl
theorem wQ:lk 172 AJ=some ⟨R3,[(0,1),(1,1)],3,16⟩:=rfl
theorem wR:lk 173 AJ=some ⟨AD2,[],172,24⟩:=rfl
theorem wS:lk 174 AJ=some ⟨AD3,[],0,8⟩:=rfl
theorem wT:lk 175 AJ=some ⟨AD4,[],0,8⟩:=rfl
theorem wU:lk 176 AJ=some ⟨AD5,[],0,8⟩:=rfl
theorem wV:lk 177 AJ=some ⟨AD6,[(3,3)],0,8⟩:=rfl
theorem wW:lk 178 AJ=some ⟨AD7,[],0,8⟩:=rfl
theorem wX:lk 179 AJ=some ⟨AD8,[],0,8⟩:=rfl
theorem wY:lk 180 AJ=some ⟨AD9,[],0,8⟩:=rfl
theorem wZ:lk 181 AJ=some ⟨ADa,[],0,8⟩:=rfl
theorem w5:lk 182 AJ=some ⟨ADb,[],0,8⟩:=rfl
theorem w6:lk 183 AJ=some ⟨AEE,[(0,1),(1,1),(2,1)],0,72⟩:=rfl
theorem w9:lk 184 AJ=some ⟨AEF,[(0,1),(1,1),(2,1)],0,72⟩:=rfl
theorem xA:lk 185 AJ=some ⟨ADc,[],0,8⟩:=rfl
theorem xB:lk 186 AJ=some ⟨Qp,[],0,8⟩:=rfl
theorem xC:lk 187 AJ=some ⟨ADd,[],0,8⟩:=rfl
theorem xE:lk 188 AJ=some ⟨ADe,[],0,8⟩:=rfl
theorem xF:lk 189 AJ=some ⟨ADf,[],0,8⟩:=rfl
theorem xG:lk 190 AJ=some ⟨ADg,[],0,8⟩:=rfl
theorem xH:lk 192 AJ=some ⟨ADh,[],0,8⟩:=rfl
theorem xI:lk 193 AJ=some ⟨ADi,[],0,8⟩:=rfl
theorem xJ:lk 194 AJ=some ⟨UD,[],140,24⟩:=rfl
theorem xL:lk 195 AJ=some ⟨ADj,[],0,8⟩:=rfl
theorem xM:lk 196 AJ=some ⟨ADk,[],0,8⟩:=rfl
theorem xN:lk 197 AJ=some ⟨ADl,[],0,8⟩:=rfl
theorem xO:lk 198 AJ=some ⟨ADm,[],0,8⟩:=rfl
theorem xP:lk 199 AJ=some ⟨ADn,[],0,8⟩:=rfl
theorem xQ:lk 201 AJ=some ⟨ADo,[],0,8⟩:=rfl
theorem xR:lk 202 AJ=some ⟨ADp,[],0,8⟩:=rfl
theorem xS:lk 203 AJ=some ⟨ADq,[],0,8⟩:=rfl
theorem xT:lk 204 AJ=some ⟨AEG,[(0,2),(2,1),(3,1)],0,96⟩:=rfl
theorem xV:lk 205 AJ=some ⟨AEH,[(0,2),(2,1),(3,1)],0,96⟩:=rfl
theorem xW:lk 206 AJ=some ⟨ADr,[],0,8⟩:=rfl
theorem xX:lk 207 AJ=some ⟨ADs,[],0,8⟩:=rfl
theorem xY:lk 208 AJ=some ⟨ADt,[],0,8⟩:=rfl
theorem xZ:lk 209 AJ=some ⟨ADu,[],0,8⟩:=rfl
theorem x5:lk 210 AJ=some ⟨ADv,[],0,8⟩:=rfl
theorem x6:lk 211 AJ=some ⟨ADw,[],0,8⟩:=rfl
theorem x7:lk 212 AJ=some ⟨ADx,[],0,8⟩:=rfl
theorem x8:lk 213 AJ=some ⟨ADy,[],0,8⟩:=rfl
theorem x9:lk 214 AJ=some ⟨ADz,[],0,8⟩:=rfl
theorem yA:lk 215 AJ=some ⟨ADA,[],0,8⟩:=rfl
theorem yB:lk 216 AJ=some ⟨ADB,[],0,8⟩:=rfl
theorem yC:lk 217 AJ=some ⟨ADC,[],0,8⟩:=rfl
theorem yD:lk 218 AJ=some ⟨ADD,[],0,8⟩:=rfl
theorem yE:lk 219 AJ=some ⟨ADE,[],0,8⟩:=rfl
theorem yF:lk 220 AJ=some ⟨ADF,[],0,8⟩:=rfl
theorem yG:lk 221 AJ=some ⟨ADG,[],0,8⟩:=rfl
theorem yH:lk 222 AJ=some ⟨ADH,[],0,8⟩:=rfl
theorem yI:lk 223 AJ=some ⟨ADI,[],0,8⟩:=rfl
theorem yJ:lk 224 AJ=some ⟨ADJ,[],0,8⟩:=rfl
theorem yK:lk 225 AJ=some ⟨ADK,[],0,8⟩:=rfl
theorem yL:lk 226 AJ=some ⟨ADL,[],0,8⟩:=rfl
theorem yM:lk 228 AJ=some ⟨ADM,[],0,8⟩:=rfl
theorem yN:lk 229 AJ=some ⟨ADN,[],0,8⟩:=rfl
theorem yO:lk 230 AJ=some ⟨ADO,[],0,8⟩:=rfl
theorem yP:lk 231 AJ=some ⟨ADP,[],0,8⟩:=rfl
theorem yQ:lk 232 AJ=some ⟨ADQ,[],0,8⟩:=rfl
theorem yR:lk 233 AJ=some ⟨ADR,[],0,8⟩:=rfl
theorem yS:lk 234 AJ=some ⟨ADS,[],0,8⟩:=rfl
theorem yT:lk 235 AJ=some ⟨ADT,[],0,8⟩:=rfl
theorem yU:lk 236 AJ=some ⟨ADU,[],0,8⟩:=rfl
theorem yV:lk 237 AJ=some ⟨ADV,[],0,8⟩:=rfl
theorem yW:lk 238 AJ=some ⟨ADW,[],0,8⟩:=rfl
theorem yX:lk 239 AJ=some ⟨ADX,[],0,8⟩:=rfl
theorem yY:lk 240 AJ=some ⟨ADY,[],0,8⟩:=rfl
theorem yZ:lk 241 AJ=some ⟨ADZ,[],0,8⟩:=rfl
theorem y3:lk 242 AJ=some ⟨AE0,[],0,8⟩:=rfl
theorem y4:lk 243 AJ=some ⟨AE1,[],0,8⟩:=rfl
theorem y5:lk 244 AJ=some ⟨AE2,[],0,8⟩:=rfl
theorem y6:lk 245 AJ=some ⟨AE3,[],0,8⟩:=rfl
theorem y7:lk 246 AJ=some ⟨AE4,[],0,8⟩:=rfl
theorem y8:lk 247 AJ=some ⟨AE5,[],0,8⟩:=rfl
theorem y9:lk 248 AJ=some ⟨AE6,[],0,8⟩:=rfl
theorem zA:lk 249 AJ=some ⟨AE7,[],0,8⟩:=rfl
theorem zB:lk 250 AJ=some ⟨AE8,[],0,8⟩:=rfl
theorem zC:lk 251 AJ=some ⟨AE9,[],0,8⟩:=rfl
theorem zD:lk 252 AJ=some ⟨AEa,[],0,8⟩:=rfl
theorem zE:lk 254 AJ=some ⟨AEb,[],0,8⟩:=rfl
theorem zF:lk 255 AJ=some ⟨AEc,[],0,8⟩:=rfl
theorem zG:lk 256 AJ=some ⟨AEd,[],0,8⟩:=rfl
theorem zH:lk 257 AJ=some ⟨AEe,[],0,8⟩:=rfl
theorem zI:lk 258 AJ=some ⟨AEf,[],0,8⟩:=rfl
theorem zJ:lk 259 AJ=some ⟨AEg,[],0,4⟩:=rfl
theorem zK:lk 260 AJ=some ⟨AEh,[],0,8⟩:=rfl
theorem zL:lk 261 AJ=some ⟨AEi,[],0,8⟩:=rfl
theorem zM:lk 262 AJ=some ⟨AEj,[],0,8⟩:=rfl
theorem zN:lk 263 AJ=some ⟨AEk,[],0,8⟩:=rfl
theorem zO:lk 264 AJ=some ⟨AEl,[],0,8⟩:=rfl
theorem zP:lk 265 AJ=some ⟨AEm,[],0,8⟩:=rfl
theorem zQ:lk 266 AJ=some ⟨AEn,[],0,8⟩:=rfl
theorem zR:lk 267 AJ=some ⟨AEo,[],0,8⟩:=rfl
theorem zS:lk 268 AJ=some ⟨AEp,[],0,8⟩:=rfl
theorem zT:lk 269 AJ=some ⟨AEq,[],0,8⟩:=rfl
theorem zU:lk 271 AJ=some ⟨AEr,[],0,8⟩:=rfl
theorem zV:lk 272 AJ=some ⟨AEs,[],0,8⟩:=rfl
theorem zW:lk 278 AJ=some ⟨AEt,[],0,8⟩:=rfl
theorem zX:lk 281 AJ=some ⟨AEu,[],0,8⟩:=rfl
theorem zY:lk 282 AJ=some ⟨AEv,[],0,8⟩:=rfl
theorem zZ:lk 287 AJ=some ⟨AEw,[(0,1),(1,1)],0,32⟩:=rfl
theorem z0:lk 288 AJ=some ⟨AB2,[(0,1),(1,1)],0,32⟩:=rfl
end
section
open Go Go.RowKit
section
variable {c:Cx} {R:Exit->Act->World->Prop} {k:List DI} {σ σ':St}
end
end
section
open Go Go.RowKit Go.ChangeShapes Go.WideShapes
set_option maxRecDepth 100000
def z4 (r:Ty->TypeId->Bool) (P:Program):Ty->Nat->List Field->Bool
 | .prod a b,o,fs=>match fs with
  | f :: fs=>f.offset==o&&P.cellsOf f.type==a.size&&r a f.type&&z4 r P b (o+a.size) fs
  | []=>false
 | s,o,[f]=>f.offset==o&&P.cellsOf f.type==s.size&&r s f.type
 | _,_,_=>false
def A1x (P:Program) (m:Nat) (e:TypeId):List Field:=(List.range m).map λi=>{ (default:Field) with offset:=i*P.cellsOf e,type:=e }
def rd (P:Program):Nat->Ty->TypeId->Bool
 | 0,_,_=>false
 | _+1,.int k,t=>isI k (P.underlying t)
 | _+1,.bool,t=>match P.underlying t with|some .bool=>true|_=>false
 | _+1,.str,t=>match P.underlying t with|some .string=>true|_=>false
 | n+1,.slice e,t=>match P.underlying t with|some (.slice et)=>decide (0<P.bytesOf et)&&P.cellsOf et==e.size&&rd P n e et|_=>false
 | n+1,.agg s,t=>match P.underlying t with|some (.struct fs)=>P.cellsOf t==s.size&&z4 (rd P n) P s 0 fs.toList|some (.array m e)=>P.cellsOf t==s.size&&z4 (rd P n) P s 0 (A1x P m e)|_=>false
 | _+1,_,_=>false
theorem z5 {P:Program} {n:Nat} {t:TypeId} (h:rd P (n+1) .bool t=true):P.underlying t=some .bool:=by
 simp only[rd]at h;split at h
 .assumption
 cases h
theorem A4b {P:Program} {n:Nat} {t:TypeId} (h:rd P (n+1) .str t=true):P.underlying t=some .string:=by
 simp only[rd]at h;split at h
 .assumption
 cases h
theorem jT {P:Program} {n:Nat} {e:Ty} {t:TypeId} (h:rd P (n+1) (.slice e) t=true):∃et,P.underlying t=some (.slice et)/\0<P.bytesOf et/\P.cellsOf et=e.size/\rd P n e et=true:=by
 simp only[rd]at h;split at h
 .rename_i et hu;simp only[An,DO,YV]at h;exact⟨et,hu,h.1.1,h.1.2,h.2⟩
 cases h
theorem A4c {P:Program} {n:Nat} {s:Ty} {t:TypeId} (h:rd P (n+1) (.agg s) t=true):(∃fs,P.underlying t=some (.struct fs)/\P.cellsOf t=s.size/\z4 (rd P n) P s 0 fs.toList=true)\/∃m e,P.underlying t=some (.array m e)/\P.cellsOf t=s.size/\z4 (rd P n) P s 0 (A1x P m e)=true:=by
 simp only[rd]at h;split at h
 .rename_i fs hu;simp only[An,YV]at h;exact .inl ⟨fs,hu,h.1,h.2⟩
 .rename_i m e hu;simp only[An,YV]at h;exact .inr ⟨m,e,hu,h.1,h.2⟩
 cases h
theorem A1y {w:World} {base:Nat} {a:Addr} {n:Nat} {cs:List Value} (h:w.cells? base a n=some cs):cs.length=n/\∀(j:Nat) (v:Value),cs[j]?=some v->w.cell? (a.add j)=some v:=by
 unfold World.cells? at h;split at h
 .have h1:=mapM_some_length h;simp only[AFl]at h1;refine⟨h1,λj v b=>?_⟩;have c:j<n:=by
   obtain⟨c,_⟩:=UP.1 b;omega
  rw[mapM_some_get h j j (by simp[c]),b]
 cases h
section
variable {H:Type} {enc:TypeId×Value->H} {P:Program} {w:World} {spare:Nat->Bool} {held:Bool}
theorem jU {e:TypeId}:∀ {l:List (DataW H)} {d:DataW H},d∈l->∀n∈d.weights P e,n∈DataW.weightsAll P e l
 | a :: l,d,b,n,hn=>by
  simp only[DataW.weightsAll,IN];rcases By.1 b with rfl|b
  .exact .inl hn
  exact .inr (jU b n hn)
 | [],_,b,_,_=>by cases b
theorem Z0 {b:List TypeId} {a:List (DataW H)}:∀ {ts:List TypeId} {ds:List (DataW H)},∀n∈DataW.weightsEach P ts ds,n∈DataW.weightsEach P (ts++b) (ds++a)
 | t :: ts,d :: ds,n,hn=>by
  simp only[DataW.weightsEach,ZP,IN]at hn ⊢;rcases hn with hn|hn
  .exact .inl hn
  exact .inr (Z0 n hn)
 | [],_,n,hn=>by simp[DataW.weightsEach]at hn
 | _ :: _,[],n,hn=>by simp[DataW.weightsEach]at hn
theorem Z1 {e:TypeId}:∀ {m:Nat} {k:Nat} {ds:List (DataW H)},∀n∈DataW.weightsEach P (((List.range' k m).map λi=>({ (default:Field) with offset:=i*P.cellsOf e,type:=e }:Field)).map (·.type)) ds,n∈DataW.weightsAll P e ds
 | 0,_,ds,n,hn=>by simp[DataW.weightsEach]at hn
 | m+1,k,[],n,hn=>by
  rw[List.range'_succ]at hn;simp[DataW.weightsEach]at hn
 | m+1,k,d :: ds,n,hn=>by
  rw[List.range'_succ]at hn;simp only[UY,DataW.weightsEach,IN]at hn;simp only[DataW.weightsAll,IN];rcases hn with hn|hn
  .exact .inl hn
  exact .inr (Z1 n hn)
theorem TK {n:Nat} {r:Ty->TypeId->Bool}
  (y:∀ty t,r ty t=true->∀(cs:List Value) (x:DataW H×List MemPlace),DataW.trod enc P w 0 spare held n t cs=some x->(∀b∈x.1.weights P t,b<=reachBytes)->∃d:ty.den,B0 w (λ_=>False) ty cs d) (cs:List Value) :
  ∀(s:Ty) (o:Nat) (fs:List Field),z4 r P s o fs=true->∀xs:List (DataW H×List MemPlace),xs.length=fs.length ->
   (∀(i:Nat) (f:Field),fs[i]?=some f->DataW.trod enc P w 0 spare held n f.type ((cs.drop f.offset).take (P.cellsOf f.type))=xs[i]?) ->
   (∀b∈DataW.weightsEach P (fs.map (·.type)) (xs.map (·.1)),b<=reachBytes)->∃d:s.den,B0 w (λ_=>False) s ((cs.drop o).take s.size) d:=by
 have one:∀(s:Ty) (o:Nat) (f:Field),(f.offset==o&&P.cellsOf f.type==s.size&&r s f.type)=true->∀x:DataW H×List MemPlace,
   DataW.trod enc P w 0 spare held n f.type ((cs.drop f.offset).take (P.cellsOf f.type))=some x ->
   (∀b∈x.1.weights P f.type,b<=reachBytes)->∃d:s.den,B0 w (λ_=>False) s ((cs.drop o).take s.size) d:=by
  intro s o f h x hx c;simp only[An,YV]at h;obtain⟨⟨rfl,l⟩,m⟩:=h;rw[<-l];exact y s f.type m _ x hx c
 have lone:∀(s:Ty) (o:Nat) (f:Field),(f.offset==o&&P.cellsOf f.type==s.size&&r s f.type)=true->∀xs:List (DataW H×List MemPlace),xs.length=[f].length ->
   (∀(i:Nat) (g:Field),[f][i]?=some g->DataW.trod enc P w 0 spare held n g.type ((cs.drop g.offset).take (P.cellsOf g.type))=xs[i]?) ->
   (∀b∈DataW.weightsEach P ([f].map (·.type)) (xs.map (·.1)),b<=reachBytes)->∃d:s.den,B0 w (λ_=>False) s ((cs.drop o).take s.size) d:=by
  intro s o f h xs hl hx c;obtain⟨x,rfl⟩:∃x,xs=[x]:=ABO.1 (by simpa using hl);exact one s o f h x (hx 0 f rfl) (λb j=>c b (by simp[DataW.weightsEach,j]))
 intro s;induction s with
 | prod a b C z =>
  intro o fs h xs hl hx c;cases fs with
  | nil=>simp[z4]at h
  | cons f fs =>
   simp only[z4,An]at h;obtain⟨⟨⟨h1,l⟩,m⟩,u⟩:=h;obtain⟨x,ys,rfl⟩:∃x ys,xs=x :: ys:=List.exists_cons_of_ne_nil (by intro h;subst h;simp at hl);obtain⟨p,A⟩:=one a o f (by simp only[h1,l,m,Bool.and_self]) x (hx 0 f rfl) (λb j=>c b (by
     simp only[UY,DataW.weightsEach,IN];exact .inl j))
   obtain⟨q,B⟩:=z (o+a.size) fs u ys (by simpa using hl) (λi g v=>hx (i+1) g v) (λb j=>c b (by
     simp only[UY,DataW.weightsEach,IN];exact .inr j))
   refine⟨(p,q),(cs.drop o).take a.size,(cs.drop (o+a.size)).take b.size,?_,A,B⟩;show (cs.drop o).take (a.size+b.size)=_;rw[List.take_add,AFp]
 | int k=>intro o fs h;match fs,h with|[f],h=>exact lone _ o f (by simpa only[z4] using h)
 | bool=>intro o fs h;match fs,h with|[f],h=>exact lone _ o f (by simpa only[z4] using h)
 | str=>intro o fs h;match fs,h with|[f],h=>exact lone _ o f (by simpa only[z4] using h)
 | slice e _=>intro o fs h;match fs,h with|[f],h=>exact lone _ o f (by simpa only[z4] using h)
 | agg t _=>intro o fs h;match fs,h with|[f],h=>exact lone _ o f (by simpa only[z4] using h)
 | ref k=>intro o fs h;match fs,h with|[f],h=>exact lone _ o f (by simpa only[z4] using h)
theorem A4d:∀(k:Nat) (ty:Ty) (t:TypeId),rd P k ty t=true->∀(n:Nat) (cs:List Value) (x:DataW H×List MemPlace),
  DataW.trod enc P w 0 spare held n t cs=some x->(∀b∈x.1.weights P t,b<=reachBytes)->∃d:ty.den,B0 w (λ_=>False) ty cs d:=by
 intro k;induction k with
 | zero=>intro ty t h;simp[rd]at h
 | succ k A =>
  intro ty t h n cs x hx g;cases ty with
  | int q =>
   have hu:=Va (by simpa only[rd] using h);obtain⟨m,rfl,rfl,E⟩:=DataW.trod_int hu hx;simp only[Lit.wf,An,DO]at E;exact⟨m,rfl,E⟩
  | bool =>
   obtain⟨b,rfl,rfl⟩:=DataW.trod_bool (z5 h) hx;exact⟨b,rfl⟩
  | str =>
   obtain⟨b,rfl,rfl,_⟩:=DataW.trod_string (A4b h) hx;refine⟨b,rfl,?_⟩;have:=g b.data.toList.length (by simp only[DataW.weights];exact Ys);have o:b.data.toList.length=b.size:=AFX;simp only[reachBytes]at this;simp only[AQ];omega
  | slice e =>
   obtain⟨et,hu,K,B,r⟩:=jT h;rcases DataW.trod_slice hu hx with ⟨rfl,rfl⟩|⟨a,len,cap,elems,rest,m,rfl,rfl,rfl,-,S,-,T,O,-,-⟩
   .exact⟨[],none,0,rfl,NO _,Is _,.inl rfl⟩
   have V:len<=AQ:=by
    have h1:=g ((elems.length+rest.length)*P.bytesOf et) (by simp only[DataW.weights,hu,OF];exact Ys);have o:elems.length+rest.length<=(elems.length+rest.length)*P.bytesOf et:=Nat.le_mul_of_pos_right _ K;simp only[reachBytes]at h1;simp only[AQ];omega
   have C:∀i,i<len->∃d:e.den,∃c:List Value,c.length=e.size/\(∀(j:Nat) (v:Value),c[j]?=some v->w.cell? (a.add (i*e.size+j))=some v)/\B0 w (λ_=>False) e c d:=by
    intro i hi;have h1:=O i hi;obtain⟨x,hx⟩:∃x,elems[i]?=some x:=⟨_,AT (by omega)⟩;rw[hx]at h1;obtain⟨c,o,F⟩:=Option.bind_eq_some_iff.1 h1;obtain⟨G,I⟩:=A1y o;obtain⟨d,l⟩:=A e et r m c x F (λb p=>g b (by
     simp only[DataW.weights,hu];exact GO _ (YW _ (jU (IF.2 ⟨x,Yk hx,rfl⟩) b p))))
    refine⟨d,c,by rw[G,B],λj v R=>?_,l⟩;have:=I j v R
    rwa [DQ,B]at this
   have J:∃ds:List e.den,ds.length=len/\∀(i:Nat) (d:e.den),ds[i]?=some d->∃c:List Value,c.length=e.size/\(∀(j:Nat) (v:Value),c[j]?=some v->w.cell? (a.add (i*e.size+j))=some v)/\B0 w (λ_=>False) e c d:=by
    refine⟨(List.range len).pmap (λi hi=>Classical.choose (C i hi)) (λi hi=>Ue.1 hi),by simp,λi d l=>?_⟩;rw[List.getElem?_pmap]at l;simp only[Option.pmap_eq_some_iff]at l;obtain⟨j,h1,o,rfl⟩:=l;have Q:j=i:=by
     obtain⟨U,r⟩:=UP.1 o;simpa using r.symm
    subst Q;exact Classical.choose_spec (C j h1)
   obtain⟨ds,M,N⟩:=J;exact⟨ds,some a,cap,by rw[M],by omega,by omega,.inr ⟨a,rfl,λh=>h,N⟩⟩
  | agg s =>
   rcases A4c h with ⟨fs,hu,L,hf⟩|⟨q,e,hu,L,hf⟩
   .obtain⟨xs,m,rfl,rfl,hl,y,z⟩:=DataW.trod_struct hu hx;obtain⟨d,l⟩:=TK (λty t u cs x hx g=>A ty t u m cs x hx g) cs s 0 fs.toList hf xs (by simpa using y) (λi f hi=>z i f (by simpa using hi)) (by
     simpa[DataW.weights,hu] using g)
    refine⟨d,?_⟩;show B0 w _ s cs d
    rwa [Ye,At (by omega)]at l
   obtain⟨xs,m,rfl,rfl,hl,y,z⟩:=DataW.trod_array hu hx;obtain⟨d,l⟩:=TK (λty t u cs x hx g=>A ty t u m cs x hx g) cs s 0 (A1x P q e) hf xs (by simp[A1x,y]) (λi f hi=>by
    unfold A1x at hi;rw[Yc]at hi;by_cases D:i<q
    .rw[oS D]at hi;have hi:({ (default:Field) with offset:=i*P.cellsOf e,type:=e }:Field)=f:=by simpa using hi
     rw[<-hi];exact z i D
    .rw[UV (by simp;omega)]at hi;cases hi) (λb p=>g b (by
    simp only[DataW.weights,hu];unfold A1x at p;rw[List.range_eq_range']at p;exact Z1 b p))
   refine⟨d,?_⟩;show B0 w _ s cs d
   rwa [Ye,At (by omega)]at l
  | prod a b=>simp[rd]at h
  | ref j=>simp[rd]at h
theorem A8y {k:Nat} {ty:Ty} {t:TypeId} {v:Value} {r:Reach} {base:Nat} (h:rd P k ty t=true) (d:Value.okWide P w r base t v):v=ty.wrap v.cells.toList:=by
 cases k with
 | zero=>simp[rd]at h
 | succ k =>
  cases ty with
  | int q =>
   obtain⟨n,rfl⟩:=okWide_int (Va (by simpa only[rd] using h)) d;rfl
  | bool =>
   obtain⟨n,rfl⟩:=okWide_bool (z5 h) d;rfl
  | str =>
   obtain⟨n,rfl⟩:=okWide_string (A4b h) d;rfl
  | slice e =>
   obtain⟨et,hu,_⟩:=jT h;obtain⟨a,l,c,rfl⟩:=okWide_slice hu d;rfl
  | agg s =>
   rcases A4c h with ⟨fs,hu,_⟩|⟨q,e,hu,_⟩
   .obtain⟨cs,rfl,_⟩:=okWide_struct hu d;simp[Ty.wrap,Value.cells]
   simp only[Value.okWide,hu]at d;obtain⟨cs,rfl,_⟩:=d;simp[Ty.wrap,Value.cells]
  | prod a b=>simp[rd]at h
  | ref j=>simp[rd]at h
def OU (P:Program):List Ty->List TypeId->Bool
 | [],[]=>true
 | ty :: a,t :: ts=>rd P 50 ty t&&P.readableRec t&&decide (t<P.types.size)&&OU P a ts
 | _,_=>false
theorem jV {r:Reach} {base:Nat}:∀(a:List Ty) (ts:List TypeId) (c:List Value) (ds:List (DataW H)) (p:List MemPlace),OU P a ts=true->DataW.TrodAll enc P w 0 spare held ts c ds p ->
  (∀(j:Nat) (t:TypeId) (v:Value),ts[j]?=some t->c[j]?=some v->Value.okWide P w r base t v)->(∀b∈DataW.weightsEach P ts ds,b<=reachBytes)->∃xs:Kk a,QM w (λ_=>False) a c xs
 | [],[],c,ds,p,_,h,_,_=>by
  obtain⟨rfl,_,_⟩:=trodAll_nil h;exact⟨(),rfl⟩
 | ty :: a,t :: ts,c,ds,p,g,h,i,e=>by
  simp only[OU,An]at g;obtain⟨⟨⟨h1,_⟩,_⟩,m⟩:=g;obtain⟨v,k,d,l,C,z,rfl,rfl,rfl,⟨n,o⟩,q⟩:=trodAll_cons h;simp only[DataW.weightsEach,IN]at e;obtain⟨x,hx⟩:=A4d 50 ty t h1 n _ _ o (λb f=>e b (.inl f));obtain⟨xs,y⟩:=jV a ts k l z m q (λj A B s u=>i (j+1) A B s u) (λb f=>e b (.inr f));exact⟨(x,xs),v,k,rfl,⟨_,hx,A8y h1 (i 0 t v rfl rfl)⟩,y⟩
 | [],_ :: _,_,_,_,h,_,_,_=>by simp[OU]at h
 | _ :: _,[],_,_,_,h,_,_,_=>by simp[OU]at h
theorem Z2 (hl:laidOutB P=true) {W e:World} (f:Below W.heap.size W e):∀(c:List Ty) (ts:List TypeId) (a:List Value) (ds:List (DataW H)) (p:List MemPlace),OU P c ts=true ->
  DataW.TrodAll enc P W 0 (λ_=>true) true ts a ds p->(∀x∈p,x.block<W.heap.size)->DataW.TrodAll enc P e 0 (λb=>decide (b<W.heap.size)) true ts a ds p
 | [],[],a,ds,p,_,h,_=>by
  obtain⟨rfl,rfl,rfl⟩:=trodAll_nil h;rfl
 | ty :: c,t :: ts,a,ds,p,i,h,g=>by
  simp only[OU,An,DO]at i;obtain⟨⟨⟨_,h1⟩,l⟩,m⟩:=i;obtain⟨v,r,d,k,q,j,rfl,rfl,rfl,n,o⟩:=trodAll_cons h;exact⟨q,j,Below.trod hl h1 l n f (λx hx=>g x (YW _ hx)),Z2 hl f c ts r k j m o (λx hx=>g x (AB1 _ hx)),rfl⟩
 | [],_ :: _,_,_,_,h,_,_=>by simp[OU]at h
 | _ :: _,[],_,_,_,h,_,_=>by simp[OU]at h
end
theorem A4e {w:World} {O:Nat->Prop} {u:Value} {w':World} (h:A3n w O [.p .bool true] u w'):u=.bool true/\Below w.heap.size w w':=by
 obtain⟨ρ',a⟩:=h 0;refine⟨?_,a.below⟩;obtain⟨cs,h1,b⟩:BS _ _ .bool u true:=a.av;have h1:cs=[.bool true]:=h1;rw[b,h1];rfl
theorem jW {P:Program} {f:FuncId} {fn:Func} {sp:AZ} {s:ChangeSpec} {tb:TypeId} (F:Ad P f sp) (I:∀ds,sp.pre ds) (G:∀ds,sp.out ds=[.p .bool true])
  (hl:laidOutB P=true) (r:OU P sp.ins fn.params.toList=true) (K:fn.resultTypes=#[tb]) (B:P.underlying tb=some .bool) (w:s.vars=[])
  (hs:∀(H:Type) (ds:List (DataW H)),ds.length=fn.params.size->(s.fn H ds).results=[.lit (.bool true)]/\(s.fn H ds).args=ds/\(s.fn H ds).vars=[])
  {H:Type} {enc:TypeId×Value->H} {W:World} {base:Nat} {args:Array Value} {ds l:List (DataW H)} {y:List MemPlace} {S:List TypeId}
  (O:∀(j:Nat) t v,fn.params[j]?=some t->args[j]?=some v->Value.okWide P W .any base t v)
  (n:DataW.Whole enc P fn.params.toList s.vars false W args.toList ds l y)
  (L:(DataW.weightsEach P (fn.params.toList++S) (ds++l)).all (·<=reachBytes)=true) :
  Calls P f args W λe k=>∃v,e=.returned v/\s.post enc P fn false true false false W args v k:=by
 have o:=n;obtain⟨p,q,c,m,rfl,U,V⟩:=n;rw[w]at m;obtain⟨rfl,rfl⟩:=trodVars_none m;obtain⟨xs,Q⟩:=jV sp.ins fn.params.toList args.toList ds p r c (λj t v M N=>O j t v (by simpa using M) (by simpa using N))
  (λb a=>by simpa using OR.1 L b (Z0 b a))
 have E:∀x∈p,x.block<W.heap.size:=λx hx=>by simpa using o.lt x (YW _ hx)
 have D:ds.length=fn.params.size:=by
  have:∀(ts:List TypeId) (i:List Value) (ds:List (DataW H)) (p:List MemPlace),DataW.TrodAll enc P W 0 (λ_=>true) true ts i ds p->ds.length=ts.length:=by
   intro ts;induction ts with
   | nil=>intro i ds p h;obtain⟨_,rfl,_⟩:=trodAll_nil h;rfl
   | cons t ts R=>intro i ds p h;obtain⟨v,Z,d,T,X,Y,rfl,rfl,rfl,_,J⟩:=trodAll_cons h;simp[R _ _ _ J]
  simpa using this _ _ _ _ c
 have g:=F.2 W (λ_=>False) args.toList xs (λ_ h=>h.elim) Q (I xs);rw[G]at g;have A:args.toList.toArray=args:=by simp
 rw[A]at g;refine g.mono λe k ⟨u,C,hu⟩=>?_;obtain⟨rfl,a⟩:=A4e hu;obtain⟨e1,e2,z⟩:=hs H (ds++[]) (by simpa using D);refine⟨_,C,_,_,_,[],p,[],o,?_,?_,?_,a.frame _,λh=>by cases h⟩
 .rw[e1,K];exact trodAll_mk1 (shut_bool B _)
 .rw[e2,Uh];exact Z2 hl a sp.ins _ _ _ _ r c E
 rw[z,w];rfl
end
end Go.Proofs.YtapkhdkbkodbjaaGreat.Fw

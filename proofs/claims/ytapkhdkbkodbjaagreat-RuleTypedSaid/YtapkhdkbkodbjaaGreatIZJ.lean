/- This program's types; a slice compared with nil; from a contract to the given statement. -/
import Derived.Test.YtapkhdkbkodbjaaGreatIZI
import Derived.Test.YtapkhdkbkodbjaaGreatChecked
import Derived.Laws.Cover3
import Derived.Carry
import Derived.SizedLaws
import Derived.OpenShut
set_option linter.unusedVariables false
set_option linter.unusedSimpArgs false
namespace Go.Proofs.YtapkhdkbkodbjaaGreat.Fw
section
open Go
abbrev T1:Ty:=.ref 1
abbrev T2:Ty:=.int .i64
abbrev T3:Ty:=.int .i64
abbrev T4:Ty:=.bool
abbrev T5:Ty:=.int .u8
abbrev T9:Ty:=.str
abbrev T12:Ty:=.int .u64
abbrev T21:Ty:=.int .i32
abbrev T32:Ty:=.ref 1
abbrev T33:Ty:=.ref 1
abbrev T34:Ty:=.ref 1
abbrev MG:Ty:=.int .i64
abbrev T36:Ty:=.ref 1
abbrev T37:Ty:=.ref 1
abbrev T41:Ty:=.ref 1
abbrev T43:Ty:=.ref 1
abbrev T44:Ty:=.ref 1
abbrev T45:Ty:=.ref 1
abbrev T46:Ty:=.ref 1
abbrev T47:Ty:=.ref 1
abbrev T48:Ty:=.ref 1
abbrev T49:Ty:=.ref 1
abbrev T50:Ty:=.ref 1
abbrev T56:Ty:=.ref 1
abbrev T57:Ty:=.ref 1
abbrev T58:Ty:=.ref 1
abbrev T59:Ty:=.ref 1
abbrev T60:Ty:=.ref 1
abbrev F2:Ty:=.slice T3
abbrev T63:Ty:=.ref 1
abbrev T65:Ty:=.ref 1
abbrev T66:Ty:=.ref 1
abbrev T67:Ty:=.ref 1
abbrev T68:Ty:=.ref 1
abbrev T70:Ty:=.ref 1
abbrev T71:Ty:=.ref 1
abbrev T72:Ty:=.ref 1
abbrev T73:Ty:=.ref 1
abbrev T74:Ty:=.ref 1
abbrev T75:Ty:=.ref 1
abbrev T76:Ty:=.ref 1
abbrev T78:Ty:=.ref 1
abbrev T80:Ty:=.ref 1
abbrev T81:Ty:=.ref 1
abbrev T82:Ty:=.ref 1
abbrev T84:Ty:=.ref 1
abbrev T85:Ty:=.ref 1
abbrev T87:Ty:=.ref 1
abbrev T89:Ty:=.ref 1
abbrev T90:Ty:=.ref 1
abbrev T94:Ty:=.ref 1
abbrev GD:Ty:=.slice T9
abbrev T96:Ty:=.ref 1
abbrev T97:Ty:=.ref 1
abbrev T98:Ty:=.ref 1
abbrev T99:Ty:=.ref 1
abbrev ACe:Ty:=.ref 1
abbrev ACf:Ty:=.ref 1
abbrev ACg:Ty:=.ref 1
abbrev ACh:Ty:=.ref 1
abbrev ACi:Ty:=.agg (.prod T3 (T3))
abbrev AW:Ty:=.agg (.prod T3 (T3))
abbrev ACj:Ty:=.ref 1
abbrev ACk:Ty:=.ref 0
abbrev ACl:Ty:=.ref 1
abbrev ACm:Ty:=.ref 1
abbrev ACn:Ty:=.ref 1
abbrev ACo:Ty:=.ref 1
abbrev ACp:Ty:=.ref 2
abbrev ACq:Ty:=.ref 1
abbrev ACr:Ty:=.ref 1
abbrev ACs:Ty:=.ref 1
abbrev ACt:Ty:=.ref 1
abbrev ACu:Ty:=.ref 1
abbrev ACv:Ty:=.ref 1
abbrev ACw:Ty:=.ref 1
abbrev ACx:Ty:=.ref 1
abbrev ACy:Ty:=.ref 1
abbrev ACz:Ty:=.ref 1
abbrev ACA:Ty:=.ref 1
abbrev ACB:Ty:=.ref 1
abbrev ACC:Ty:=.ref 1
abbrev ACD:Ty:=.ref 1
abbrev ACE:Ty:=.ref 1
abbrev ACF:Ty:=.ref 1
abbrev ACG:Ty:=.ref 1
abbrev ACH:Ty:=.ref 1
abbrev ACI:Ty:=.ref 1
abbrev ACJ:Ty:=.ref 1
abbrev ACK:Ty:=.ref 1
abbrev ACL:Ty:=.ref 1
abbrev ACM:Ty:=.ref 1
abbrev ACN:Ty:=.agg (.prod T9 (T9))
abbrev o6:Ty:=.agg (.prod T9 (T9))
abbrev ACO:Ty:=.agg (.prod T9 (T3))
abbrev A41:Ty:=.agg (.prod T9 (T3))
abbrev ACP:Ty:=.ref 1
abbrev ACQ:Ty:=.ref 1
abbrev ACR:Ty:=.ref 1
abbrev ACS:Ty:=.ref 1
abbrev ACT:Ty:=.ref 1
abbrev ACU:Ty:=.agg (.prod T3 (T3))
abbrev A42:Ty:=.agg (.prod T3 (T3))
abbrev ACV:Ty:=.ref 1
abbrev Su:Ty:=.agg (.prod T3 (T3))
abbrev ACW:Ty:=.slice Su
abbrev ACX:Ty:=.ref 1
abbrev ACY:Ty:=.ref 1
abbrev ACZ:Ty:=.ref 1
abbrev AD0:Ty:=.ref 2
abbrev AD1:Ty:=.ref 1
abbrev AD2:Ty:=.ref 1
abbrev AD3:Ty:=.ref 1
abbrev AD4:Ty:=.ref 1
abbrev AD5:Ty:=.ref 0
abbrev AD6:Ty:=.ref 1
abbrev Q9:Ty:=.int .u64
abbrev AD7:Ty:=.ref 1
abbrev AD8:Ty:=.ref 1
abbrev AD9:Ty:=.ref 1
abbrev ADa:Ty:=.ref 1
abbrev ADb:Ty:=.ref 1
abbrev ADc:Ty:=.ref 1
abbrev ADd:Ty:=.ref 1
abbrev ADe:Ty:=.ref 1
abbrev ADf:Ty:=.ref 1
abbrev ADg:Ty:=.ref 1
abbrev ADh:Ty:=.ref 1
abbrev ADi:Ty:=.ref 1
abbrev ADj:Ty:=.ref 1
abbrev ADk:Ty:=.ref 0
abbrev ADl:Ty:=.ref 1
abbrev ADm:Ty:=.ref 1
abbrev ADn:Ty:=.ref 1
abbrev ADo:Ty:=.ref 1
abbrev ADp:Ty:=.ref 1
abbrev ADq:Ty:=.ref 1
abbrev ADr:Ty:=.ref 1
abbrev ADs:Ty:=.ref 1
abbrev ADt:Ty:=.ref 1
abbrev ADu:Ty:=.ref 1
abbrev ADv:Ty:=.ref 1
abbrev ADw:Ty:=.ref 1
abbrev ADx:Ty:=.ref 1
abbrev ADy:Ty:=.ref 1
abbrev ADz:Ty:=.ref 1
abbrev ADA:Ty:=.ref 1
abbrev ADB:Ty:=.ref 1
abbrev ADC:Ty:=.ref 1
abbrev ADD:Ty:=.ref 1
abbrev ADE:Ty:=.ref 1
abbrev ADF:Ty:=.ref 1
abbrev ADG:Ty:=.ref 1
abbrev ADH:Ty:=.ref 1
abbrev ADI:Ty:=.ref 1
abbrev ADJ:Ty:=.ref 1
abbrev ADK:Ty:=.ref 1
abbrev ADL:Ty:=.ref 1
abbrev ADM:Ty:=.ref 1
abbrev ADN:Ty:=.ref 1
abbrev ADO:Ty:=.ref 1
abbrev ADP:Ty:=.ref 1
abbrev ADQ:Ty:=.ref 1
abbrev ADR:Ty:=.ref 1
abbrev ADS:Ty:=.ref 1
abbrev ADT:Ty:=.ref 1
abbrev ADU:Ty:=.ref 1
abbrev ADV:Ty:=.int .u64
abbrev ADW:Ty:=.ref 1
abbrev ADX:Ty:=.ref 1
abbrev ADY:Ty:=.ref 1
abbrev ADZ:Ty:=.ref 1
abbrev AE0:Ty:=.ref 1
abbrev AE1:Ty:=.ref 1
abbrev AE2:Ty:=.ref 1
abbrev AE3:Ty:=.ref 1
abbrev AE4:Ty:=.int .i64
abbrev AE5:Ty:=.ref 1
abbrev AE6:Ty:=.ref 1
abbrev AE7:Ty:=.ref 1
abbrev AE8:Ty:=.ref 1
abbrev AE9:Ty:=.ref 1
abbrev AEa:Ty:=.int .u32
abbrev AEb:Ty:=.ref 1
abbrev AEc:Ty:=.ref 1
abbrev AEd:Ty:=.ref 1
abbrev AEe:Ty:=.int .u64
abbrev AEf:Ty:=.ref 1
abbrev AEg:Ty:=.ref 1
abbrev AEh:Ty:=.ref 1
abbrev AEi:Ty:=.ref 0
abbrev AEj:Ty:=.ref 1
abbrev AEk:Ty:=.ref 0
abbrev AEl:Ty:=.ref 1
abbrev AEm:Ty:=.ref 1
abbrev AEn:Ty:=.ref 1
abbrev AEo:Ty:=.ref 1
abbrev AEp:Ty:=.ref 0
abbrev AEq:Ty:=.agg (.prod T9 (T9))
abbrev AAR:Ty:=.agg (.prod T9 (T9))
abbrev Sv:Ty:=.slice A41
abbrev T51:Ty:=.slice AAR
abbrev T52:Ty:=.agg (.prod T3 (T51))
abbrev T53:Ty:=.agg (.prod T3 (T51))
abbrev DM:Ty:=.slice AW
abbrev T92:Ty:=.agg (.prod T3 (DM))
abbrev Mn:Ty:=.agg (.prod T3 (DM))
abbrev A7h:Ty:=.slice DM
abbrev AEr:Ty:=.slice Q9
abbrev BT:Ty:=.slice Q9
abbrev XL:Ty:=.slice A42
abbrev AEs:Ty:=.agg (.prod T9 (.prod BT (.prod F2 (XL))))
abbrev o7:Ty:=.agg (.prod T9 (.prod BT (.prod F2 (XL))))
abbrev A7i:Ty:=.slice XL
abbrev AEt:Ty:=.agg (.prod T9 (BT))
abbrev eK:Ty:=.agg (.prod T9 (BT))
abbrev jX:Ty:=.slice o6
abbrev AEu:Ty:=.agg (.prod T9 (.prod GD (jX)))
abbrev A1f:Ty:=.agg (.prod T9 (.prod GD (jX)))
abbrev U0:Ty:=.slice BT
abbrev FJ:Ty:=.slice A1f
abbrev Ex:Ty:=.slice Mn
abbrev T24:Ty:=.agg (Ex)
abbrev DZ:Ty:=.agg (Ex)
abbrev T26:Ty:=.agg (.prod T9 (.prod T3 (DZ)))
abbrev T27:Ty:=.agg (.prod T9 (.prod T3 (DZ)))
abbrev RB:Ty:=.slice o7
abbrev T30:Ty:=.agg (.prod RB (Sv))
abbrev ED:Ty:=.agg (.prod RB (Sv))
abbrev T38:Ty:=.slice DZ
abbrev T39:Ty:=.agg (.prod FJ (.prod T27 (.prod T38 (T38))))
abbrev T40:Ty:=.agg (.prod FJ (.prod T27 (.prod T38 (T38))))
abbrev T54:Ty:=.agg (.prod T9 (.prod T53 (DZ)))
abbrev T55:Ty:=.agg (.prod T9 (.prod T53 (DZ)))
abbrev AEw:Ty:=.agg (.prod ED (.prod F2 (.prod F2 (A7h))))
abbrev AEx:Ty:=.agg (.prod ED (.prod F2 (.prod F2 (A7h))))
abbrev AEy:Ty:=.agg (.prod ED (.prod T3 (.prod T3 (.prod T3 (.prod T3 (.prod T3 (.prod T3 (.prod T3 (T3)))))))))
abbrev jY:Ty:=.agg (.prod ED (.prod T3 (.prod T3 (.prod T3 (.prod T3 (.prod T3 (.prod T3 (.prod T3 (T3)))))))))
abbrev KR:Ty:=.slice eK
abbrev AEz:Ty:=.agg (.prod DZ (.prod F2 (F2)))
abbrev AEA:Ty:=.agg (.prod DZ (.prod F2 (F2)))
abbrev AEB:Ty:=.agg (.prod ED (.prod F2 (F2)))
abbrev AEC:Ty:=.agg (.prod ED (.prod F2 (F2)))
set_option maxRecDepth 100000
def AK:List (Nat×TI):=[(1,⟨T1,[],0,8⟩),
 (2,⟨T2,[],0,8⟩),
 (3,⟨T3,[],0,8⟩),
 (4,⟨T4,[],0,1⟩),
 (5,⟨T5,[],0,1⟩),
 (9,⟨T9,[],0,16⟩),
 (12,⟨T12,[],0,8⟩),
 (21,⟨T21,[],0,4⟩),
 (22,⟨FJ,[],158,24⟩),
 (23,⟨Ex,[],93,24⟩),
 (24,⟨T24,[(0,1)],0,24⟩),
 (25,⟨DZ,[(0,1)],0,24⟩),
 (26,⟨T26,[(0,1),(1,1),(2,1)],0,48⟩),
 (27,⟨T27,[(0,1),(1,1),(2,1)],0,48⟩),
 (28,⟨RB,[],144,24⟩),
 (29,⟨Sv,[],163,24⟩),
 (30,⟨T30,[(0,1),(1,1)],0,48⟩),
 (31,⟨ED,[(0,1),(1,1)],0,48⟩),
 (32,⟨T32,[],0,8⟩),
 (33,⟨T33,[],0,8⟩),
 (34,⟨T34,[],0,8⟩),
 (35,⟨MG,[],0,8⟩),
 (36,⟨T36,[],0,8⟩),
 (37,⟨T37,[],0,8⟩),
 (38,⟨T38,[],25,24⟩),
 (39,⟨T39,[(0,1),(1,3),(4,1),(5,1)],0,120⟩),
 (40,⟨T40,[(0,1),(1,3),(4,1),(5,1)],0,120⟩),
 (41,⟨T41,[],0,8⟩),
 (43,⟨T43,[],0,8⟩),
 (44,⟨T44,[],0,8⟩),
 (45,⟨T45,[],0,8⟩),
 (46,⟨T46,[],0,8⟩),
 (47,⟨T47,[],0,8⟩),
 (48,⟨T48,[],0,8⟩),
 (49,⟨T49,[],0,8⟩),
 (50,⟨T50,[],0,8⟩),
 (51,⟨T51,[],288,24⟩),
 (52,⟨T52,[(0,1),(1,1)],0,32⟩),
 (53,⟨T53,[(0,1),(1,1)],0,32⟩),
 (54,⟨T54,[(0,1),(1,2),(3,1)],0,72⟩),
 (55,⟨T55,[(0,1),(1,2),(3,1)],0,72⟩),
 (56,⟨T56,[],0,8⟩),
 (57,⟨T57,[],0,8⟩),
 (58,⟨T58,[],0,8⟩),
 (59,⟨T59,[],0,8⟩),
 (60,⟨T60,[],0,8⟩),
 (61,⟨F2,[],3,24⟩),
 (63,⟨T63,[],0,8⟩),
 (65,⟨T65,[],0,8⟩),
 (66,⟨T66,[],0,8⟩),
 (67,⟨T67,[],0,8⟩),
 (68,⟨T68,[],0,8⟩),
 (70,⟨T70,[],0,8⟩),
 (71,⟨T71,[],0,8⟩),
 (72,⟨T72,[],0,8⟩),
 (73,⟨T73,[],0,8⟩),
 (74,⟨T74,[],0,8⟩),
 (75,⟨T75,[],0,8⟩),
 (76,⟨T76,[],0,8⟩),
 (78,⟨T78,[],0,8⟩),
 (80,⟨T80,[],0,8⟩),
 (81,⟨T81,[],0,8⟩),
 (82,⟨T82,[],0,8⟩),
 (84,⟨T84,[],0,8⟩),
 (85,⟨T85,[],0,8⟩),
 (87,⟨T87,[],0,8⟩),
 (89,⟨T89,[],0,8⟩),
 (90,⟨T90,[],0,8⟩),
 (91,⟨DM,[],106,24⟩),
 (92,⟨T92,[(0,1),(1,1)],0,32⟩),
 (93,⟨Mn,[(0,1),(1,1)],0,32⟩),
 (94,⟨T94,[],0,8⟩),
 (95,⟨GD,[],9,24⟩),
 (96,⟨T96,[],0,8⟩),
 (97,⟨T97,[],0,8⟩),
 (98,⟨T98,[],0,8⟩),
 (99,⟨T99,[],0,8⟩),
 (100,⟨ACe,[],0,8⟩),
 (101,⟨ACf,[],0,8⟩),
 (103,⟨ACg,[],0,8⟩),
 (104,⟨ACh,[],0,8⟩),
 (105,⟨ACi,[(0,1),(1,1)],0,16⟩),
 (106,⟨AW,[(0,1),(1,1)],0,16⟩),
 (107,⟨ACj,[],0,8⟩),
 (108,⟨ACk,[],0,8⟩),
 (109,⟨A7h,[],91,24⟩),
 (110,⟨AEw,[(0,2),(2,1),(3,1),(4,1)],0,120⟩),
 (111,⟨AEx,[(0,2),(2,1),(3,1),(4,1)],0,120⟩),
 (112,⟨ACl,[],0,8⟩),
 (113,⟨ACm,[],0,8⟩),
 (114,⟨AEy,[(0,2),(2,1),(3,1),(4,1),(5,1),(6,1),(7,1),(8,1),(9,1)],0,112⟩),
 (115,⟨jY,[(0,2),(2,1),(3,1),(4,1),(5,1),(6,1),(7,1),(8,1),(9,1)],0,112⟩),
 (117,⟨ACn,[],0,8⟩),
 (118,⟨ACo,[],0,8⟩),
 (119,⟨ACp,[(3,4)],0,8⟩),
 (120,⟨ACq,[],0,8⟩),
 (121,⟨ACr,[],0,8⟩),
 (122,⟨ACs,[],0,8⟩),
 (123,⟨ACt,[],0,8⟩),
 (124,⟨ACu,[],0,8⟩),
 (125,⟨ACv,[],0,8⟩),
 (126,⟨ACw,[],0,8⟩),
 (127,⟨ACx,[],0,8⟩),
 (128,⟨ACy,[],0,8⟩),
 (129,⟨ACz,[],0,8⟩),
 (130,⟨ACA,[],0,8⟩),
 (132,⟨ACB,[],0,8⟩),
 (133,⟨ACC,[],0,8⟩),
 (134,⟨ACD,[],0,8⟩),
 (136,⟨ACE,[],0,8⟩),
 (137,⟨ACF,[],0,8⟩),
 (138,⟨ACG,[],0,8⟩),
 (139,⟨AEr,[],186,24⟩),
 (140,⟨BT,[],186,24⟩),
 (141,⟨ACH,[],0,8⟩),
 (142,⟨XL,[],170,24⟩),
 (143,⟨AEs,[(0,1),(1,1),(2,1),(3,1)],0,88⟩),
 (144,⟨o7,[(0,1),(1,1),(2,1),(3,1)],0,88⟩),
 (145,⟨A7i,[],142,24⟩),
 (147,⟨ACI,[],0,8⟩),
 (148,⟨KR,[],152,24⟩),
 (150,⟨ACJ,[],0,8⟩),
 (151,⟨AEt,[(0,1),(1,1)],0,40⟩),
 (152,⟨eK,[(0,1),(1,1)],0,40⟩),
 (153,⟨ACK,[],0,8⟩),
 (155,⟨ACL,[],0,8⟩),
 (156,⟨jX,[],161,24⟩),
 (157,⟨AEu,[(0,1),(1,1),(2,1)],0,64⟩),
 (158,⟨A1f,[(0,1),(1,1),(2,1)],0,64⟩),
 (159,⟨ACM,[],0,8⟩),
 (160,⟨ACN,[(0,1),(1,1)],0,32⟩),
 (161,⟨o6,[(0,1),(1,1)],0,32⟩),
 (162,⟨ACO,[(0,1),(1,1)],0,24⟩),
 (163,⟨A41,[(0,1),(1,1)],0,24⟩),
 (164,⟨ACP,[],0,8⟩),
 (165,⟨ACQ,[],0,8⟩),
 (166,⟨ACR,[],0,8⟩),
 (167,⟨ACS,[],0,8⟩),
 (168,⟨ACT,[],0,8⟩),
 (169,⟨ACU,[(0,1),(1,1)],0,16⟩),
 (170,⟨A42,[(0,1),(1,1)],0,16⟩),
 (171,⟨ACV,[],0,8⟩),
 (172,⟨Su,[(0,1),(1,1)],3,16⟩),
 (173,⟨ACW,[],172,24⟩),
 (174,⟨ACX,[],0,8⟩),
 (175,⟨ACY,[],0,8⟩),
 (176,⟨ACZ,[],0,8⟩),
 (177,⟨AD0,[(3,3)],0,8⟩),
 (178,⟨AD1,[],0,8⟩),
 (179,⟨AD2,[],0,8⟩),
 (180,⟨AD3,[],0,8⟩),
 (181,⟨AD4,[],0,8⟩),
 (182,⟨AD5,[],0,8⟩),
 (183,⟨AEz,[(0,1),(1,1),(2,1)],0,72⟩),
 (184,⟨AEA,[(0,1),(1,1),(2,1)],0,72⟩),
 (185,⟨AD6,[],0,8⟩),
 (186,⟨Q9,[],0,8⟩),
 (187,⟨AD7,[],0,8⟩),
 (188,⟨AD8,[],0,8⟩),
 (189,⟨AD9,[],0,8⟩),
 (190,⟨ADa,[],0,8⟩),
 (192,⟨ADb,[],0,8⟩),
 (193,⟨ADc,[],0,8⟩),
 (194,⟨U0,[],140,24⟩),
 (195,⟨ADd,[],0,8⟩),
 (196,⟨ADe,[],0,8⟩),
 (197,⟨ADf,[],0,8⟩),
 (198,⟨ADg,[],0,8⟩),
 (199,⟨ADh,[],0,8⟩),
 (201,⟨ADi,[],0,8⟩),
 (202,⟨ADj,[],0,8⟩),
 (203,⟨ADk,[],0,8⟩),
 (204,⟨AEB,[(0,2),(2,1),(3,1)],0,96⟩),
 (205,⟨AEC,[(0,2),(2,1),(3,1)],0,96⟩),
 (206,⟨ADl,[],0,8⟩),
 (207,⟨ADm,[],0,8⟩),
 (208,⟨ADn,[],0,8⟩),
 (209,⟨ADo,[],0,8⟩),
 (210,⟨ADp,[],0,8⟩),
 (211,⟨ADq,[],0,8⟩),
 (212,⟨ADr,[],0,8⟩),
 (213,⟨ADs,[],0,8⟩),
 (214,⟨ADt,[],0,8⟩),
 (215,⟨ADu,[],0,8⟩),
 (216,⟨ADv,[],0,8⟩),
 (217,⟨ADw,[],0,8⟩),
 (218,⟨ADx,[],0,8⟩),
 (219,⟨ADy,[],0,8⟩),
 (220,⟨ADz,[],0,8⟩),
 (221,⟨ADA,[],0,8⟩),
 (222,⟨ADB,[],0,8⟩),
 (223,⟨ADC,[],0,8⟩),
 (224,⟨ADD,[],0,8⟩),
 (225,⟨ADE,[],0,8⟩),
 (226,⟨ADF,[],0,8⟩),
 (228,⟨ADG,[],0,8⟩),
 (229,⟨ADH,[],0,8⟩),
 (230,⟨ADI,[],0,8⟩),
 (231,⟨ADJ,[],0,8⟩),
 (232,⟨ADK,[],0,8⟩),
 (233,⟨ADL,[],0,8⟩),
 (234,⟨ADM,[],0,8⟩),
 (235,⟨ADN,[],0,8⟩),
 (236,⟨ADO,[],0,8⟩),
 (237,⟨ADP,[],0,8⟩),
 (238,⟨ADQ,[],0,8⟩),
 (239,⟨ADR,[],0,8⟩),
 (240,⟨ADS,[],0,8⟩),
 (241,⟨ADT,[],0,8⟩),
 (242,⟨ADU,[],0,8⟩),
 (243,⟨ADV,[],0,8⟩),
 (244,⟨ADW,[],0,8⟩),
 (245,⟨ADX,[],0,8⟩),
 (246,⟨ADY,[],0,8⟩),
 (247,⟨ADZ,[],0,8⟩),
 (248,⟨AE0,[],0,8⟩),
 (249,⟨AE1,[],0,8⟩),
 (250,⟨AE2,[],0,8⟩),
 (251,⟨AE3,[],0,8⟩),
 (252,⟨AE4,[],0,8⟩),
 (254,⟨AE5,[],0,8⟩),
 (255,⟨AE6,[],0,8⟩),
 (256,⟨AE7,[],0,8⟩),
 (257,⟨AE8,[],0,8⟩),
 (258,⟨AE9,[],0,8⟩),
 (259,⟨AEa,[],0,4⟩),
 (260,⟨AEb,[],0,8⟩),
 (261,⟨AEc,[],0,8⟩),
 (262,⟨AEd,[],0,8⟩),
 (263,⟨AEe,[],0,8⟩),
 (264,⟨AEf,[],0,8⟩),
 (265,⟨AEg,[],0,8⟩),
 (266,⟨AEh,[],0,8⟩),
 (267,⟨AEi,[],0,8⟩),
 (268,⟨AEj,[],0,8⟩),
 (269,⟨AEk,[],0,8⟩),
 (271,⟨AEl,[],0,8⟩),
 (272,⟨AEm,[],0,8⟩),
 (278,⟨AEn,[],0,8⟩),
 (281,⟨AEo,[],0,8⟩),
 (282,⟨AEp,[],0,8⟩),
 (287,⟨AEq,[(0,1),(1,1)],0,32⟩),
 (288,⟨AAR,[(0,1),(1,1)],0,32⟩)]
theorem tyTab_ok (f) (a:List Nat) (b:List Nat:=[]) (ne:List (Nat×TypeId):=[]):DL Tryz.prog ⟨AK,f,b,ne,a⟩:=A6F (by kernel_rfl)
theorem drawsAny:Tryz.prog.follows .mixedOrders=true:=by kernel_rfl
theorem ty1:lk 1 AK=some ⟨T1,[],0,8⟩:=rfl
theorem ty2:lk 2 AK=some ⟨T2,[],0,8⟩:=rfl
theorem ty3:lk 3 AK=some ⟨T3,[],0,8⟩:=rfl
theorem ty4:lk 4 AK=some ⟨T4,[],0,1⟩:=rfl
theorem ty5:lk 5 AK=some ⟨T5,[],0,1⟩:=rfl
theorem ty9:lk 9 AK=some ⟨T9,[],0,16⟩:=rfl
theorem A7j:lk 12 AK=some ⟨T12,[],0,8⟩:=rfl
theorem A7k:lk 21 AK=some ⟨T21,[],0,4⟩:=rfl
theorem A7l:lk 22 AK=some ⟨FJ,[],158,24⟩:=rfl
theorem A7m:lk 23 AK=some ⟨Ex,[],93,24⟩:=rfl
theorem A7n:lk 24 AK=some ⟨T24,[(0,1)],0,24⟩:=rfl
theorem A7o:lk 25 AK=some ⟨DZ,[(0,1)],0,24⟩:=rfl
theorem A7p:lk 26 AK=some ⟨T26,[(0,1),(1,1),(2,1)],0,48⟩:=rfl
theorem A7q:lk 27 AK=some ⟨T27,[(0,1),(1,1),(2,1)],0,48⟩:=rfl
theorem A7r:lk 28 AK=some ⟨RB,[],144,24⟩:=rfl
theorem A7s:lk 29 AK=some ⟨Sv,[],163,24⟩:=rfl
theorem A7t:lk 30 AK=some ⟨T30,[(0,1),(1,1)],0,48⟩:=rfl
theorem A7u:lk 31 AK=some ⟨ED,[(0,1),(1,1)],0,48⟩:=rfl
theorem A7v:lk 32 AK=some ⟨T32,[],0,8⟩:=rfl
theorem A7w:lk 33 AK=some ⟨T33,[],0,8⟩:=rfl
theorem A7x:lk 34 AK=some ⟨T34,[],0,8⟩:=rfl
theorem A7y:lk 35 AK=some ⟨MG,[],0,8⟩:=rfl
theorem A7z:lk 36 AK=some ⟨T36,[],0,8⟩:=rfl
theorem A7A:lk 37 AK=some ⟨T37,[],0,8⟩:=rfl
theorem A7B:lk 38 AK=some ⟨T38,[],25,24⟩:=rfl
theorem A7C:lk 39 AK=some ⟨T39,[(0,1),(1,3),(4,1),(5,1)],0,120⟩:=rfl
theorem A7D:lk 40 AK=some ⟨T40,[(0,1),(1,3),(4,1),(5,1)],0,120⟩:=rfl
theorem A7E:lk 41 AK=some ⟨T41,[],0,8⟩:=rfl
theorem A7F:lk 43 AK=some ⟨T43,[],0,8⟩:=rfl
theorem A7G:lk 44 AK=some ⟨T44,[],0,8⟩:=rfl
theorem A7H:lk 45 AK=some ⟨T45,[],0,8⟩:=rfl
theorem A7I:lk 46 AK=some ⟨T46,[],0,8⟩:=rfl
theorem A7J:lk 47 AK=some ⟨T47,[],0,8⟩:=rfl
theorem A7K:lk 48 AK=some ⟨T48,[],0,8⟩:=rfl
theorem A7L:lk 49 AK=some ⟨T49,[],0,8⟩:=rfl
theorem A7M:lk 50 AK=some ⟨T50,[],0,8⟩:=rfl
theorem A7N:lk 51 AK=some ⟨T51,[],288,24⟩:=rfl
theorem A7O:lk 52 AK=some ⟨T52,[(0,1),(1,1)],0,32⟩:=rfl
theorem A7P:lk 53 AK=some ⟨T53,[(0,1),(1,1)],0,32⟩:=rfl
theorem A7Q:lk 54 AK=some ⟨T54,[(0,1),(1,2),(3,1)],0,72⟩:=rfl
theorem A7R:lk 55 AK=some ⟨T55,[(0,1),(1,2),(3,1)],0,72⟩:=rfl
theorem A7S:lk 56 AK=some ⟨T56,[],0,8⟩:=rfl
theorem A7T:lk 57 AK=some ⟨T57,[],0,8⟩:=rfl
theorem A7U:lk 58 AK=some ⟨T58,[],0,8⟩:=rfl
theorem A7V:lk 59 AK=some ⟨T59,[],0,8⟩:=rfl
theorem A7W:lk 60 AK=some ⟨T60,[],0,8⟩:=rfl
theorem A7X:lk 61 AK=some ⟨F2,[],3,24⟩:=rfl
theorem A7Y:lk 63 AK=some ⟨T63,[],0,8⟩:=rfl
theorem A7Z:lk 65 AK=some ⟨T65,[],0,8⟩:=rfl
theorem A80:lk 66 AK=some ⟨T66,[],0,8⟩:=rfl
theorem A81:lk 67 AK=some ⟨T67,[],0,8⟩:=rfl
theorem A82:lk 68 AK=some ⟨T68,[],0,8⟩:=rfl
theorem A83:lk 70 AK=some ⟨T70,[],0,8⟩:=rfl
theorem A84:lk 71 AK=some ⟨T71,[],0,8⟩:=rfl
theorem A85:lk 72 AK=some ⟨T72,[],0,8⟩:=rfl
theorem A86:lk 73 AK=some ⟨T73,[],0,8⟩:=rfl
theorem A87:lk 74 AK=some ⟨T74,[],0,8⟩:=rfl
theorem A88:lk 75 AK=some ⟨T75,[],0,8⟩:=rfl
theorem A89:lk 76 AK=some ⟨T76,[],0,8⟩:=rfl
theorem A8a:lk 78 AK=some ⟨T78,[],0,8⟩:=rfl
theorem A8b:lk 80 AK=some ⟨T80,[],0,8⟩:=rfl
theorem A8c:lk 81 AK=some ⟨T81,[],0,8⟩:=rfl
theorem A8d:lk 82 AK=some ⟨T82,[],0,8⟩:=rfl
theorem A8e:lk 84 AK=some ⟨T84,[],0,8⟩:=rfl
theorem A8f:lk 85 AK=some ⟨T85,[],0,8⟩:=rfl
theorem A8g:lk 87 AK=some ⟨T87,[],0,8⟩:=rfl
theorem A8h:lk 89 AK=some ⟨T89,[],0,8⟩:=rfl
theorem A8i:lk 90 AK=some ⟨T90,[],0,8⟩:=rfl
theorem A8j:lk 91 AK=some ⟨DM,[],106,24⟩:=rfl
theorem A8k:lk 92 AK=some ⟨T92,[(0,1),(1,1)],0,32⟩:=rfl
theorem A8l:lk 93 AK=some ⟨Mn,[(0,1),(1,1)],0,32⟩:=rfl
theorem A8m:lk 94 AK=some ⟨T94,[],0,8⟩:=rfl
theorem A8n:lk 95 AK=some ⟨GD,[],9,24⟩:=rfl
theorem A8o:lk 96 AK=some ⟨T96,[],0,8⟩:=rfl
theorem A8p:lk 97 AK=some ⟨T97,[],0,8⟩:=rfl
theorem A8q:lk 98 AK=some ⟨T98,[],0,8⟩:=rfl
theorem A8r:lk 99 AK=some ⟨T99,[],0,8⟩:=rfl
theorem tZ:lk 100 AK=some ⟨ACe,[],0,8⟩:=rfl
theorem t8:lk 101 AK=some ⟨ACf,[],0,8⟩:=rfl
theorem t9:lk 103 AK=some ⟨ACg,[],0,8⟩:=rfl
theorem uA:lk 104 AK=some ⟨ACh,[],0,8⟩:=rfl
theorem uB:lk 105 AK=some ⟨ACi,[(0,1),(1,1)],0,16⟩:=rfl
theorem uC:lk 106 AK=some ⟨AW,[(0,1),(1,1)],0,16⟩:=rfl
theorem uD:lk 107 AK=some ⟨ACj,[],0,8⟩:=rfl
theorem uE:lk 108 AK=some ⟨ACk,[],0,8⟩:=rfl
theorem uF:lk 109 AK=some ⟨A7h,[],91,24⟩:=rfl
theorem uG:lk 110 AK=some ⟨AEw,[(0,2),(2,1),(3,1),(4,1)],0,120⟩:=rfl
theorem uH:lk 111 AK=some ⟨AEx,[(0,2),(2,1),(3,1),(4,1)],0,120⟩:=rfl
theorem uI:lk 112 AK=some ⟨ACl,[],0,8⟩:=rfl
theorem uJ:lk 113 AK=some ⟨ACm,[],0,8⟩:=rfl
theorem uK:lk 114 AK=some ⟨AEy,[(0,2),(2,1),(3,1),(4,1),(5,1),(6,1),(7,1),(8,1),(9,1)],0,112⟩:=rfl
theorem uL:lk 115 AK=some ⟨jY,[(0,2),(2,1),(3,1),(4,1),(5,1),(6,1),(7,1),(8,1),(9,1)],0,112⟩:=rfl
theorem uM:lk 117 AK=some ⟨ACn,[],0,8⟩:=rfl
theorem uN:lk 118 AK=some ⟨ACo,[],0,8⟩:=rfl
theorem uP:lk 119 AK=some ⟨ACp,[(3,4)],0,8⟩:=rfl
theorem uQ:lk 120 AK=some ⟨ACq,[],0,8⟩:=rfl
theorem uR:lk 121 AK=some ⟨ACr,[],0,8⟩:=rfl
theorem uS:lk 122 AK=some ⟨ACs,[],0,8⟩:=rfl
theorem uT:lk 123 AK=some ⟨ACt,[],0,8⟩:=rfl
theorem uU:lk 124 AK=some ⟨ACu,[],0,8⟩:=rfl
theorem uV:lk 125 AK=some ⟨ACv,[],0,8⟩:=rfl
theorem uW:lk 126 AK=some ⟨ACw,[],0,8⟩:=rfl
theorem uX:lk 127 AK=some ⟨ACx,[],0,8⟩:=rfl
theorem uY:lk 128 AK=some ⟨ACy,[],0,8⟩:=rfl
theorem uZ:lk 129 AK=some ⟨ACz,[],0,8⟩:=rfl
theorem u3:lk 130 AK=some ⟨ACA,[],0,8⟩:=rfl
theorem u4:lk 132 AK=some ⟨ACB,[],0,8⟩:=rfl
theorem u5:lk 133 AK=some ⟨ACC,[],0,8⟩:=rfl
theorem u6:lk 134 AK=some ⟨ACD,[],0,8⟩:=rfl
theorem u7:lk 136 AK=some ⟨ACE,[],0,8⟩:=rfl
theorem u9:lk 137 AK=some ⟨ACF,[],0,8⟩:=rfl
theorem vA:lk 138 AK=some ⟨ACG,[],0,8⟩:=rfl
theorem vB:lk 139 AK=some ⟨AEr,[],186,24⟩:=rfl
theorem vC:lk 140 AK=some ⟨BT,[],186,24⟩:=rfl
theorem vD:lk 141 AK=some ⟨ACH,[],0,8⟩:=rfl
theorem vE:lk 142 AK=some ⟨XL,[],170,24⟩:=rfl
theorem vF:lk 143 AK=some ⟨AEs,[(0,1),(1,1),(2,1),(3,1)],0,88⟩:=rfl
theorem vG:lk 144 AK=some ⟨o7,[(0,1),(1,1),(2,1),(3,1)],0,88⟩:=rfl
theorem vH:lk 145 AK=some ⟨A7i,[],142,24⟩:=rfl
theorem vI:lk 147 AK=some ⟨ACI,[],0,8⟩:=rfl
theorem vJ:lk 148 AK=some ⟨KR,[],152,24⟩:=rfl
theorem vK:lk 150 AK=some ⟨ACJ,[],0,8⟩:=rfl
theorem vL:lk 151 AK=some ⟨AEt,[(0,1),(1,1)],0,40⟩:=rfl
theorem vM:lk 152 AK=some ⟨eK,[(0,1),(1,1)],0,40⟩:=rfl
theorem vN:lk 153 AK=some ⟨ACK,[],0,8⟩:=rfl
theorem vO:lk 155 AK=some ⟨ACL,[],0,8⟩:=rfl
theorem vP:lk 156 AK=some ⟨jX,[],161,24⟩:=rfl
theorem vQ:lk 157 AK=some ⟨AEu,[(0,1),(1,1),(2,1)],0,64⟩:=rfl
theorem vS:lk 158 AK=some ⟨A1f,[(0,1),(1,1),(2,1)],0,64⟩:=rfl
theorem vT:lk 159 AK=some ⟨ACM,[],0,8⟩:=rfl
theorem vU:lk 160 AK=some ⟨ACN,[(0,1),(1,1)],0,32⟩:=rfl
theorem vV:lk 161 AK=some ⟨o6,[(0,1),(1,1)],0,32⟩:=rfl
theorem vW:lk 162 AK=some ⟨ACO,[(0,1),(1,1)],0,24⟩:=rfl
theorem vY:lk 163 AK=some ⟨A41,[(0,1),(1,1)],0,24⟩:=rfl
theorem vZ:lk 164 AK=some ⟨ACP,[],0,8⟩:=rfl
theorem v6:lk 165 AK=some ⟨ACQ,[],0,8⟩:=rfl
theorem v7:lk 166 AK=some ⟨ACR,[],0,8⟩:=rfl
theorem v8:lk 167 AK=some ⟨ACS,[],0,8⟩:=rfl
theorem v9:lk 168 AK=some ⟨ACT,[],0,8⟩:=rfl
theorem wA:lk 169 AK=some ⟨ACU,[(0,1),(1,1)],0,16⟩:=rfl
theorem wB:lk 170 AK=some ⟨A42,[(0,1),(1,1)],0,16⟩:=rfl
theorem wC:lk 171 AK=some ⟨ACV,[],0,8⟩:=rfl
theorem wD:lk 172 AK=some ⟨Su,[(0,1),(1,1)],3,16⟩:=rfl
theorem wF:lk 173 AK=some ⟨ACW,[],172,24⟩:=rfl
theorem wG:lk 174 AK=some ⟨ACX,[],0,8⟩:=rfl
theorem wH:lk 175 AK=some ⟨ACY,[],0,8⟩:=rfl
theorem wI:lk 176 AK=some ⟨ACZ,[],0,8⟩:=rfl
theorem wJ:lk 177 AK=some ⟨AD0,[(3,3)],0,8⟩:=rfl
theorem wK:lk 178 AK=some ⟨AD1,[],0,8⟩:=rfl
theorem wL:lk 179 AK=some ⟨AD2,[],0,8⟩:=rfl
theorem wM:lk 180 AK=some ⟨AD3,[],0,8⟩:=rfl
theorem wN:lk 181 AK=some ⟨AD4,[],0,8⟩:=rfl
theorem wP:lk 182 AK=some ⟨AD5,[],0,8⟩:=rfl
theorem wQ:lk 183 AK=some ⟨AEz,[(0,1),(1,1),(2,1)],0,72⟩:=rfl
theorem wR:lk 184 AK=some ⟨AEA,[(0,1),(1,1),(2,1)],0,72⟩:=rfl
theorem wS:lk 185 AK=some ⟨AD6,[],0,8⟩:=rfl
theorem wT:lk 186 AK=some ⟨Q9,[],0,8⟩:=rfl
theorem wU:lk 187 AK=some ⟨AD7,[],0,8⟩:=rfl
theorem wV:lk 188 AK=some ⟨AD8,[],0,8⟩:=rfl
theorem wW:lk 189 AK=some ⟨AD9,[],0,8⟩:=rfl
theorem wX:lk 190 AK=some ⟨ADa,[],0,8⟩:=rfl
theorem wY:lk 192 AK=some ⟨ADb,[],0,8⟩:=rfl
theorem wZ:lk 193 AK=some ⟨ADc,[],0,8⟩:=rfl
theorem w4:lk 194 AK=some ⟨U0,[],140,24⟩:=rfl
theorem w5:lk 195 AK=some ⟨ADd,[],0,8⟩:=rfl
theorem w6:lk 196 AK=some ⟨ADe,[],0,8⟩:=rfl
theorem w7:lk 197 AK=some ⟨ADf,[],0,8⟩:=rfl
theorem w8:lk 198 AK=some ⟨ADg,[],0,8⟩:=rfl
theorem w9:lk 199 AK=some ⟨ADh,[],0,8⟩:=rfl
theorem xA:lk 201 AK=some ⟨ADi,[],0,8⟩:=rfl
theorem xB:lk 202 AK=some ⟨ADj,[],0,8⟩:=rfl
theorem xC:lk 203 AK=some ⟨ADk,[],0,8⟩:=rfl
theorem xD:lk 204 AK=some ⟨AEB,[(0,2),(2,1),(3,1)],0,96⟩:=rfl
theorem xE:lk 205 AK=some ⟨AEC,[(0,2),(2,1),(3,1)],0,96⟩:=rfl
theorem xF:lk 206 AK=some ⟨ADl,[],0,8⟩:=rfl
theorem xG:lk 207 AK=some ⟨ADm,[],0,8⟩:=rfl
theorem xH:lk 208 AK=some ⟨ADn,[],0,8⟩:=rfl
theorem xI:lk 209 AK=some ⟨ADo,[],0,8⟩:=rfl
theorem xJ:lk 210 AK=some ⟨ADp,[],0,8⟩:=rfl
theorem xK:lk 211 AK=some ⟨ADq,[],0,8⟩:=rfl
theorem xL:lk 212 AK=some ⟨ADr,[],0,8⟩:=rfl
theorem xM:lk 213 AK=some ⟨ADs,[],0,8⟩:=rfl
theorem xN:lk 214 AK=some ⟨ADt,[],0,8⟩:=rfl
theorem xO:lk 215 AK=some ⟨ADu,[],0,8⟩:=rfl
theorem xP:lk 216 AK=some ⟨ADv,[],0,8⟩:=rfl
theorem xQ:lk 217 AK=some ⟨ADw,[],0,8⟩:=rfl
theorem xR:lk 218 AK=some ⟨ADx,[],0,8⟩:=rfl
theorem xS:lk 219 AK=some ⟨ADy,[],0,8⟩:=rfl
theorem xT:lk 220 AK=some ⟨ADz,[],0,8⟩:=rfl
theorem xU:lk 221 AK=some ⟨ADA,[],0,8⟩:=rfl
theorem xV:lk 222 AK=some ⟨ADB,[],0,8⟩:=rfl
theorem xW:lk 223 AK=some ⟨ADC,[],0,8⟩:=rfl
theorem xX:lk 224 AK=some ⟨ADD,[],0,8⟩:=rfl
theorem xY:lk 225 AK=some ⟨ADE,[],0,8⟩:=rfl
theorem xZ:lk 226 AK=some ⟨ADF,[],0,8⟩:=rfl
theorem x5:lk 228 AK=some ⟨ADG,[],0,8⟩:=rfl
theorem x6:lk 229 AK=some ⟨ADH,[],0,8⟩:=rfl
theorem x7:lk 230 AK=some ⟨ADI,[],0,8⟩:=rfl
theorem x8:lk 231 AK=some ⟨ADJ,[],0,8⟩:=rfl
theorem x9:lk 232 AK=some ⟨ADK,[],0,8⟩:=rfl
theorem yA:lk 233 AK=some ⟨ADL,[],0,8⟩:=rfl
theorem yB:lk 234 AK=some ⟨ADM,[],0,8⟩:=rfl
theorem yC:lk 235 AK=some ⟨ADN,[],0,8⟩:=rfl
theorem yD:lk 236 AK=some ⟨ADO,[],0,8⟩:=rfl
theorem yE:lk 237 AK=some ⟨ADP,[],0,8⟩:=rfl
theorem yF:lk 238 AK=some ⟨ADQ,[],0,8⟩:=rfl
theorem yG:lk 239 AK=some ⟨ADR,[],0,8⟩:=rfl
theorem yH:lk 240 AK=some ⟨ADS,[],0,8⟩:=rfl
theorem yI:lk 241 AK=some ⟨ADT,[],0,8⟩:=rfl
theorem yJ:lk 242 AK=some ⟨ADU,[],0,8⟩:=rfl
theorem yK:lk 243 AK=some ⟨ADV,[],0,8⟩:=rfl
theorem yL:lk 244 AK=some ⟨ADW,[],0,8⟩:=rfl
theorem yM:lk 245 AK=some ⟨ADX,[],0,8⟩:=rfl
theorem yN:lk 246 AK=some ⟨ADY,[],0,8⟩:=rfl
theorem yO:lk 247 AK=some ⟨ADZ,[],0,8⟩:=rfl
theorem yP:lk 248 AK=some ⟨AE0,[],0,8⟩:=rfl
theorem yQ:lk 249 AK=some ⟨AE1,[],0,8⟩:=rfl
theorem yR:lk 250 AK=some ⟨AE2,[],0,8⟩:=rfl
theorem yS:lk 251 AK=some ⟨AE3,[],0,8⟩:=rfl
theorem yT:lk 252 AK=some ⟨AE4,[],0,8⟩:=rfl
theorem yU:lk 254 AK=some ⟨AE5,[],0,8⟩:=rfl
theorem yV:lk 255 AK=some ⟨AE6,[],0,8⟩:=rfl
theorem yW:lk 256 AK=some ⟨AE7,[],0,8⟩:=rfl
theorem yX:lk 257 AK=some ⟨AE8,[],0,8⟩:=rfl
theorem yY:lk 258 AK=some ⟨AE9,[],0,8⟩:=rfl
theorem yZ:lk 259 AK=some ⟨AEa,[],0,4⟩:=rfl
theorem y3:lk 260 AK=some ⟨AEb,[],0,8⟩:=rfl
theorem y4:lk 261 AK=some ⟨AEc,[],0,8⟩:=rfl
theorem y5:lk 262 AK=some ⟨AEd,[],0,8⟩:=rfl
theorem y6:lk 263 AK=some ⟨AEe,[],0,8⟩:=rfl
theorem y7:lk 264 AK=some ⟨AEf,[],0,8⟩:=rfl
theorem y8:lk 265 AK=some ⟨AEg,[],0,8⟩:=rfl
theorem y9:lk 266 AK=some ⟨AEh,[],0,8⟩:=rfl
theorem zA:lk 267 AK=some ⟨AEi,[],0,8⟩:=rfl
theorem zB:lk 268 AK=some ⟨AEj,[],0,8⟩:=rfl
theorem zC:lk 269 AK=some ⟨AEk,[],0,8⟩:=rfl
theorem zD:lk 271 AK=some ⟨AEl,[],0,8⟩:=rfl
theorem zE:lk 272 AK=some ⟨AEm,[],0,8⟩:=rfl
theorem zF:lk 278 AK=some ⟨AEn,[],0,8⟩:=rfl
theorem zG:lk 281 AK=some ⟨AEo,[],0,8⟩:=rfl
theorem zH:lk 282 AK=some ⟨AEp,[],0,8⟩:=rfl
theorem zI:lk 287 AK=some ⟨AEq,[(0,1),(1,1)],0,32⟩:=rfl
theorem zJ:lk 288 AK=some ⟨AAR,[(0,1),(1,1)],0,32⟩:=rfl
end
section
open Go Go.RowKit
section
variable {c:Cx} {R:Exit->Act->World->Prop} {k:List DT} {σ σ':St}
theorem A1h {P:Program} {tb:Tb} {t:TypeId} {ti:TI} {e:Ty} (hT:EP P tb t ti) (c:ti.ty=.slice e) (w:World) (a:Option Addr) (n m:Nat):(Op.equal t (.slice a n m) (.slice none 0 0)).run P w=.ok a.isNone w:=by
 have b:=hT.2;rw[c]at b;exact run_equal_slice_nil w t ti.el a n m b.1
def jZ:Option TI->Bool
 | some ⟨.slice _,_,_,_⟩=>true
 | _=>false
theorem A1i (g:c.Ok) {ops:Array Oper} {rest:List Oper} {d:Nat} {t:TypeId} {x:Operand} {r ty:TypeId} {pos:String} {after:Array Edge} {e:Ty} {l:List e.den} (neg:Bool)
  (G:Ap σ x=some (.p (.slice e) l)) (i:jZ (lk t c.tb.ty)=true) (hk:∀b:Bool,(b=true->l=[])->KL c R k ops rest (σ.add (.p .bool (if neg then !b else b)) [] (some d))) :
  KL c R k ops (⟨some d,.binOp (if neg then .neq else .eql) t x (.const (.slice none 0 0)) r,ty,pos,after,none⟩ :: rest) σ:=by
 intro n z a w F;obtain⟨ρ,q⟩:=F;have y:HI (vw w c.O0 σ ρ) σ a.eval:=FQ q.env;have H:=y x _ G;obtain⟨cs,⟨ad,m,rfl,h1,N,f⟩,j⟩:=H;have j:a.eval x=.slice ad (List.length l) m:=j;unfold jZ at i;split at i
 .rename_i M offs el bytes A;have s:=g.T _ _ A;have heq:=A1h s rfl w ad (List.length l) m;unfold wpListIn;rw[BY (by simp[Region.wanted])];have D:(execOp a.eval ⟨some d,.binOp (if neg then .neq else .eql) t x (.const (.slice none 0 0)) r,ty,pos,after,none⟩).run c.P w=.ok (.value (.bool (if neg then !ad.isNone else ad.isNone))) w:=by
   have I:a.eval (.const (.slice none 0 0))=.slice none 0 0:=rfl;cases neg<;>simp[execOp,j,I,eqGuard,binOp,heq]
  refine Ay D ?_ (λcl h=>by cases neg<;>cases h);have u:ad.isNone=true->l=[]:=λhn=>by
   rcases f with f|⟨J,rfl,_⟩
   .exact f
   simp at hn
  have C:QS w c.O0 σ ρ (.p .bool (if neg then !ad.isNone else ad.isNone)) [] (.bool (if neg then !ad.isNone else ad.isNone)) ρ w:=QS.still (Bp _);have E:=q.add g.K g.O (dst:=some d) (λL v=>by cases v;exact CP (n _ ZI) d rfl) rfl C;exact hk ad.isNone u (λo B=>n o (by simp[B])) z _ _ ⟨ρ,E⟩
 cases i
end
end
section
open Go Go.RowKit Go.ChangeShapes Go.WideShapes
set_option maxRecDepth 100000
def zK (r:Ty->TypeId->Bool) (P:Program):Ty->Nat->List Field->Bool
 | .prod a b,o,fs=>match fs with
  | f :: fs=>f.offset==o&&P.cellsOf f.type==a.size&&r a f.type&&zK r P b (o+a.size) fs
  | []=>false
 | s,o,[f]=>f.offset==o&&P.cellsOf f.type==s.size&&r s f.type
 | _,_,_=>false
def A1j (P:Program) (m:Nat) (e:TypeId):List Field:=(List.range m).map λi=>{ (default:Field) with offset:=i*P.cellsOf e,type:=e }
def rd (P:Program):Nat->Ty->TypeId->Bool
 | 0,_,_=>false
 | _+1,.int k,t=>isI k (P.underlying t)
 | _+1,.bool,t=>match P.underlying t with|some .bool=>true|_=>false
 | _+1,.str,t=>match P.underlying t with|some .string=>true|_=>false
 | n+1,.slice e,t=>match P.underlying t with|some (.slice et)=>decide (0<P.bytesOf et)&&P.cellsOf et==e.size&&rd P n e et|_=>false
 | n+1,.agg s,t=>match P.underlying t with|some (.struct fs)=>P.cellsOf t==s.size&&zK (rd P n) P s 0 fs.toList|some (.array m e)=>P.cellsOf t==s.size&&zK (rd P n) P s 0 (A1j P m e)|_=>false
 | _+1,_,_=>false
theorem zL {P:Program} {n:Nat} {t:TypeId} (h:rd P (n+1) .bool t=true):P.underlying t=some .bool:=by
 simp only[rd]at h;split at h
 .assumption
 cases h
theorem A43 {P:Program} {n:Nat} {t:TypeId} (h:rd P (n+1) .str t=true):P.underlying t=some .string:=by
 simp only[rd]at h;split at h
 .assumption
 cases h
theorem j5 {P:Program} {n:Nat} {e:Ty} {t:TypeId} (h:rd P (n+1) (.slice e) t=true):∃et,P.underlying t=some (.slice et)/\0<P.bytesOf et/\P.cellsOf et=e.size/\rd P n e et=true:=by
 simp only[rd]at h;split at h
 .rename_i et hu;simp only[AT,By,SJ]at h;exact⟨et,hu,h.1.1,h.1.2,h.2⟩
 cases h
theorem A44 {P:Program} {n:Nat} {s:Ty} {t:TypeId} (h:rd P (n+1) (.agg s) t=true):(∃fs,P.underlying t=some (.struct fs)/\P.cellsOf t=s.size/\zK (rd P n) P s 0 fs.toList=true)\/∃m e,P.underlying t=some (.array m e)/\P.cellsOf t=s.size/\zK (rd P n) P s 0 (A1j P m e)=true:=by
 simp only[rd]at h;split at h
 .rename_i fs hu;simp only[AT,SJ]at h;exact .inl ⟨fs,hu,h.1,h.2⟩
 .rename_i m e hu;simp only[AT,SJ]at h;exact .inr ⟨m,e,hu,h.1,h.2⟩
 cases h
theorem A1k {w:World} {base:Nat} {a:Addr} {n:Nat} {cs:List Value} (h:w.cells? base a n=some cs):cs.length=n/\∀(j:Nat) (v:Value),cs[j]?=some v->w.cell? (a.add j)=some v:=by
 unfold World.cells? at h;split at h
 .have h1:=mapM_some_length h;simp only[AFq]at h1;refine⟨h1,λj v b=>?_⟩;have c:j<n:=by
   obtain⟨c,_⟩:=QA.1 b;omega
  rw[mapM_some_get h j j (by simp[c]),b]
 cases h
section
variable {H:Type} {enc:TypeId×Value->H} {P:Program} {w:World} {spare:Nat->Bool} {held:Bool}
theorem j6 {e:TypeId}:∀ {l:List (DataW H)} {d:DataW H},d∈l->∀n∈d.weights P e,n∈DataW.weightsAll P e l
 | a :: l,d,b,n,hn=>by
  simp only[DataW.weightsAll,OF];rcases DO.1 b with rfl|b
  .exact .inl hn
  exact .inr (j6 b n hn)
 | [],_,b,_,_=>by cases b
theorem Z9 {b:List TypeId} {a:List (DataW H)}:∀ {ts:List TypeId} {ds:List (DataW H)},∀n∈DataW.weightsEach P ts ds,n∈DataW.weightsEach P (ts++b) (ds++a)
 | t :: ts,d :: ds,n,hn=>by
  simp only[DataW.weightsEach,oF,OF]at hn ⊢;rcases hn with hn|hn
  .exact .inl hn
  exact .inr (Z9 n hn)
 | [],_,n,hn=>by simp[DataW.weightsEach]at hn
 | _ :: _,[],n,hn=>by simp[DataW.weightsEach]at hn
theorem aA {e:TypeId}:∀ {m:Nat} {k:Nat} {ds:List (DataW H)},∀n∈DataW.weightsEach P (((List.range' k m).map λi=>({ (default:Field) with offset:=i*P.cellsOf e,type:=e }:Field)).map (·.type)) ds,n∈DataW.weightsAll P e ds
 | 0,_,ds,n,hn=>by simp[DataW.weightsEach]at hn
 | m+1,k,[],n,hn=>by
  rw[AGm]at hn;simp[DataW.weightsEach]at hn
 | m+1,k,d :: ds,n,hn=>by
  rw[AGm]at hn;simp only[QM,DataW.weightsEach,OF]at hn;simp only[DataW.weightsAll,OF];rcases hn with hn|hn
  .exact .inl hn
  exact .inr (aA n hn)
theorem UP {n:Nat} {r:Ty->TypeId->Bool}
  (A:∀ty t,r ty t=true->∀(cs:List Value) (x:DataW H×List MemPlace),DataW.trod enc P w 0 spare held n t cs=some x->(∀b∈x.1.weights P t,b<=reachBytes)->∃d:ty.den,B6 w (λ_=>False) ty cs d) (cs:List Value) :
  ∀(s:Ty) (o:Nat) (fs:List Field),zK r P s o fs=true->∀xs:List (DataW H×List MemPlace),xs.length=fs.length ->
   (∀(i:Nat) (f:Field),fs[i]?=some f->DataW.trod enc P w 0 spare held n f.type ((cs.drop f.offset).take (P.cellsOf f.type))=xs[i]?) ->
   (∀b∈DataW.weightsEach P (fs.map (·.type)) (xs.map (·.1)),b<=reachBytes)->∃d:s.den,B6 w (λ_=>False) s ((cs.drop o).take s.size) d:=by
 have one:∀(s:Ty) (o:Nat) (f:Field),(f.offset==o&&P.cellsOf f.type==s.size&&r s f.type)=true->∀x:DataW H×List MemPlace,
   DataW.trod enc P w 0 spare held n f.type ((cs.drop f.offset).take (P.cellsOf f.type))=some x ->
   (∀b∈x.1.weights P f.type,b<=reachBytes)->∃d:s.den,B6 w (λ_=>False) s ((cs.drop o).take s.size) d:=by
  intro s o f h x j c;simp only[AT,SJ]at h;obtain⟨⟨rfl,p⟩,q⟩:=h;rw[<-p];exact A s f.type q _ x j c
 have lone:∀(s:Ty) (o:Nat) (f:Field),(f.offset==o&&P.cellsOf f.type==s.size&&r s f.type)=true->∀xs:List (DataW H×List MemPlace),xs.length=[f].length ->
   (∀(i:Nat) (g:Field),[f][i]?=some g->DataW.trod enc P w 0 spare held n g.type ((cs.drop g.offset).take (P.cellsOf g.type))=xs[i]?) ->
   (∀b∈DataW.weightsEach P ([f].map (·.type)) (xs.map (·.1)),b<=reachBytes)->∃d:s.den,B6 w (λ_=>False) s ((cs.drop o).take s.size) d:=by
  intro s o f h xs m j c;obtain⟨x,rfl⟩:∃x,xs=[x]:=nO.1 (by simpa using m);exact one s o f h x (j 0 f rfl) (λb l=>c b (by simp[DataW.weightsEach,l]))
 intro s;induction s with
 | prod a b E B =>
  intro o fs h xs m j c;cases fs with
  | nil=>simp[zK]at h
  | cons f fs =>
   simp only[zK,AT]at h;obtain⟨⟨⟨h1,p⟩,q⟩,y⟩:=h;obtain⟨x,ys,rfl⟩:∃x ys,xs=x :: ys:=List.exists_cons_of_ne_nil (by intro h;subst h;simp at m);obtain⟨u,C⟩:=one a o f (by simp only[h1,p,q,Bool.and_self]) x (j 0 f rfl) (λb l=>c b (by
     simp only[QM,DataW.weightsEach,OF];exact .inl l))
   obtain⟨v,D⟩:=B (o+a.size) fs y ys (by simpa using m) (λi g z=>j (i+1) g z) (λb l=>c b (by
     simp only[QM,DataW.weightsEach,OF];exact .inr l))
   refine⟨(u,v),(cs.drop o).take a.size,(cs.drop (o+a.size)).take b.size,?_,C,D⟩;show (cs.drop o).take (a.size+b.size)=_;rw[List.take_add,AFw]
 | int k=>intro o fs h;match fs,h with|[f],h=>exact lone _ o f (by simpa only[zK] using h)
 | bool=>intro o fs h;match fs,h with|[f],h=>exact lone _ o f (by simpa only[zK] using h)
 | str=>intro o fs h;match fs,h with|[f],h=>exact lone _ o f (by simpa only[zK] using h)
 | slice e _=>intro o fs h;match fs,h with|[f],h=>exact lone _ o f (by simpa only[zK] using h)
 | agg t _=>intro o fs h;match fs,h with|[f],h=>exact lone _ o f (by simpa only[zK] using h)
 | ref k=>intro o fs h;match fs,h with|[f],h=>exact lone _ o f (by simpa only[zK] using h)
theorem A45:∀(k:Nat) (ty:Ty) (t:TypeId),rd P k ty t=true->∀(n:Nat) (cs:List Value) (x:DataW H×List MemPlace),
  DataW.trod enc P w 0 spare held n t cs=some x->(∀b∈x.1.weights P t,b<=reachBytes)->∃d:ty.den,B6 w (λ_=>False) ty cs d:=by
 intro k;induction k with
 | zero=>intro ty t h;simp[rd]at h
 | succ k B =>
  intro ty t h n cs x c l;cases ty with
  | int q =>
   have hu:=Wa (by simpa only[rd] using h);obtain⟨m,rfl,rfl,F⟩:=DataW.trod_int hu c;simp only[Lit.wf,AT,By]at F;exact⟨m,rfl,F⟩
  | bool =>
   obtain⟨b,rfl,rfl⟩:=DataW.trod_bool (zL h) c;exact⟨b,rfl⟩
  | str =>
   obtain⟨b,rfl,rfl,_⟩:=DataW.trod_string (A43 h) c;refine⟨b,rfl,?_⟩;have:=l b.data.toList.length (by simp only[DataW.weights];exact ZI);have p:b.data.toList.length=b.size:=AG0;simp only[reachBytes]at this;simp only[AQ];omega
  | slice e =>
   obtain⟨et,hu,L,C,u⟩:=j5 h;rcases DataW.trod_slice hu c with ⟨rfl,rfl⟩|⟨a,len,cap,elems,rest,m,rfl,rfl,rfl,-,U,-,V,Q,-,-⟩
   .exact⟨[],none,0,rfl,Is _,IS _,.inl rfl⟩
   have X:len<=AQ:=by
    have h1:=l ((elems.length+rest.length)*P.bytesOf et) (by simp only[DataW.weights,hu,Py];exact ZI);have p:elems.length+rest.length<=(elems.length+rest.length)*P.bytesOf et:=Nat.le_mul_of_pos_right _ L;simp only[reachBytes]at h1;simp only[AQ];omega
   have D:∀i,i<len->∃d:e.den,∃g:List Value,g.length=e.size/\(∀(j:Nat) (v:Value),g[j]?=some v->w.cell? (a.add (i*e.size+j))=some v)/\B6 w (λ_=>False) e g d:=by
    intro i hi;have h1:=Q i hi;obtain⟨x,c⟩:∃x,elems[i]?=some x:=⟨_,At (by omega)⟩;rw[c]at h1;obtain⟨g,p,G⟩:=Option.bind_eq_some_iff.1 h1;obtain⟨I,J⟩:=A1k p;obtain⟨d,o⟩:=B e et u m g x G (λb r=>l b (by
     simp only[DataW.weights,hu];exact NO _ (SI _ (j6 (Do.2 ⟨x,VN c,rfl⟩) b r))))
    refine⟨d,g,by rw[I,C],λj v S=>?_,o⟩;have:=J j v S
    rwa [Da,C]at this
   have K:∃ds:List e.den,ds.length=len/\∀(i:Nat) (d:e.den),ds[i]?=some d->∃g:List Value,g.length=e.size/\(∀(j:Nat) (v:Value),g[j]?=some v->w.cell? (a.add (i*e.size+j))=some v)/\B6 w (λ_=>False) e g d:=by
    refine⟨(List.range len).pmap (λi hi=>Classical.choose (D i hi)) (λi hi=>QJ.1 hi),by simp,λi d o=>?_⟩;rw[List.getElem?_pmap]at o;simp only[Option.pmap_eq_some_iff]at o;obtain⟨j,h1,p,rfl⟩:=o;have R:j=i:=by
     obtain⟨W,u⟩:=QA.1 p;simpa using u.symm
    subst R;exact Classical.choose_spec (D j h1)
   obtain⟨ds,N,O⟩:=K;exact⟨ds,some a,cap,by rw[N],by omega,by omega,.inr ⟨a,rfl,λh=>h,O⟩⟩
  | agg s =>
   rcases A44 h with ⟨fs,hu,M,hf⟩|⟨q,e,hu,M,hf⟩
   .obtain⟨xs,m,rfl,rfl,T,z,A⟩:=DataW.trod_struct hu c;obtain⟨d,o⟩:=UP (λty t y cs x c l=>B ty t y m cs x c l) cs s 0 fs.toList hf xs (by simpa using z) (λi f hi=>A i f (by simpa using hi)) (by
     simpa[DataW.weights,hu] using l)
    refine⟨d,?_⟩;show B6 w _ s cs d
    rwa [SP,As (by omega)]at o
   obtain⟨xs,m,rfl,rfl,T,z,A⟩:=DataW.trod_array hu c;obtain⟨d,o⟩:=UP (λty t y cs x c l=>B ty t y m cs x c l) cs s 0 (A1j P q e) hf xs (by simp[A1j,z]) (λi f hi=>by
    unfold A1j at hi;rw[VJ]at hi;by_cases E:i<q
    .rw[oN E]at hi;have hi:({ (default:Field) with offset:=i*P.cellsOf e,type:=e }:Field)=f:=by simpa using hi
     rw[<-hi];exact A i E
    .rw[QH (by simp;omega)]at hi;cases hi) (λb r=>l b (by
    simp only[DataW.weights,hu];unfold A1j at r;rw[List.range_eq_range']at r;exact aA b r))
   refine⟨d,?_⟩;show B6 w _ s cs d
   rwa [SP,As (by omega)]at o
  | prod a b=>simp[rd]at h
  | ref j=>simp[rd]at h
theorem A8s {k:Nat} {ty:Ty} {t:TypeId} {v:Value} {r:Reach} {base:Nat} (h:rd P k ty t=true) (d:Value.okWide P w r base t v):v=ty.wrap v.cells.toList:=by
 cases k with
 | zero=>simp[rd]at h
 | succ k =>
  cases ty with
  | int q =>
   obtain⟨n,rfl⟩:=okWide_int (Wa (by simpa only[rd] using h)) d;rfl
  | bool =>
   obtain⟨n,rfl⟩:=okWide_bool (zL h) d;rfl
  | str =>
   obtain⟨n,rfl⟩:=okWide_string (A43 h) d;rfl
  | slice e =>
   obtain⟨et,hu,_⟩:=j5 h;obtain⟨a,l,c,rfl⟩:=okWide_slice hu d;rfl
  | agg s =>
   rcases A44 h with ⟨fs,hu,_⟩|⟨q,e,hu,_⟩
   .obtain⟨cs,rfl,_⟩:=okWide_struct hu d;simp[Ty.wrap,Value.cells]
   simp only[Value.okWide,hu]at d;obtain⟨cs,rfl,_⟩:=d;simp[Ty.wrap,Value.cells]
  | prod a b=>simp[rd]at h
  | ref j=>simp[rd]at h
def Od (P:Program):List Ty->List TypeId->Bool
 | [],[]=>true
 | ty :: a,t :: ts=>rd P 50 ty t&&P.readableRec t&&decide (t<P.types.size)&&Od P a ts
 | _,_=>false
theorem j7 {r:Reach} {base:Nat}:∀(a:List Ty) (ts:List TypeId) (c:List Value) (ds:List (DataW H)) (p:List MemPlace),Od P a ts=true->DataW.TrodAll enc P w 0 spare held ts c ds p ->
  (∀(j:Nat) (t:TypeId) (v:Value),ts[j]?=some t->c[j]?=some v->Value.okWide P w r base t v)->(∀b∈DataW.weightsEach P ts ds,b<=reachBytes)->∃xs:Kr a,Tx w (λ_=>False) a c xs
 | [],[],c,ds,p,_,h,_,_=>by
  obtain⟨rfl,_,_⟩:=trodAll_nil h;exact⟨(),rfl⟩
 | ty :: a,t :: ts,c,ds,p,g,h,i,e=>by
  simp only[Od,AT]at g;obtain⟨⟨⟨h1,_⟩,_⟩,m⟩:=g;obtain⟨v,k,d,l,D,A,rfl,rfl,rfl,⟨n,o⟩,q⟩:=trodAll_cons h;simp only[DataW.weightsEach,OF]at e;obtain⟨x,y⟩:=A45 50 ty t h1 n _ _ o (λb f=>e b (.inl f));obtain⟨xs,z⟩:=j7 a ts k l A m q (λj B C s u=>i (j+1) B C s u) (λb f=>e b (.inr f));exact⟨(x,xs),v,k,rfl,⟨_,y,A8s h1 (i 0 t v rfl rfl)⟩,z⟩
 | [],_ :: _,_,_,_,h,_,_,_=>by simp[Od]at h
 | _ :: _,[],_,_,_,h,_,_,_=>by simp[Od]at h
theorem aB (i:laidOutB P=true) {W f:World} (g:Below W.heap.size W f):∀(e:List Ty) (ts:List TypeId) (a:List Value) (ds:List (DataW H)) (p:List MemPlace),Od P e ts=true ->
  DataW.TrodAll enc P W 0 (λ_=>true) true ts a ds p->(∀x∈p,x.block<W.heap.size)->DataW.TrodAll enc P f 0 (λb=>decide (b<W.heap.size)) true ts a ds p
 | [],[],a,ds,p,_,h,_=>by
  obtain⟨rfl,rfl,rfl⟩:=trodAll_nil h;rfl
 | ty :: e,t :: ts,a,ds,p,k,h,j=>by
  simp only[Od,AT,By]at k;obtain⟨⟨⟨_,h1⟩,n⟩,o⟩:=k;obtain⟨v,u,d,m,s,l,rfl,rfl,rfl,q,r⟩:=trodAll_cons h;exact⟨s,l,Below.trod i h1 n q g (λx c=>j x (SI _ c)),aB i g e ts u m l o r (λx c=>j x (AA3 _ c)),rfl⟩
 | [],_ :: _,_,_,_,h,_,_=>by simp[Od]at h
 | _ :: _,[],_,_,_,h,_,_=>by simp[Od]at h
end
theorem A46 {w:World} {O:Nat->Prop} {u:Value} {w':World} (h:A3g w O [.p .bool true] u w'):u=.bool true/\Below w.heap.size w w':=by
 obtain⟨ρ',a⟩:=h 0;refine⟨?_,a.below⟩;obtain⟨cs,h1,b⟩:Bo _ _ .bool u true:=a.av;have h1:cs=[.bool true]:=h1;rw[b,h1];rfl
theorem j8 {P:Program} {f:FuncId} {fn:Func} {sp:AZ} {s:ChangeSpec} {tb:TypeId} (J:Ab P f sp) (L:∀ds,sp.pre ds) (K:∀ds,sp.out ds=[.p .bool true])
  (F:laidOutB P=true) (r:Od P sp.ins fn.params.toList=true) (N:fn.resultTypes=#[tb]) (D:P.underlying tb=some .bool) (w:s.vars=[])
  (hs:∀(H:Type) (ds:List (DataW H)),ds.length=fn.params.size->(s.fn H ds).results=[.lit (.bool true)]/\(s.fn H ds).args=ds/\(s.fn H ds).vars=[])
  {H:Type} {enc:TypeId×Value->H} {W:World} {base:Nat} {args:Array Value} {ds l:List (DataW H)} {y:List MemPlace} {X:List TypeId}
  (S:∀(j:Nat) t v,fn.params[j]?=some t->args[j]?=some v->Value.okWide P W .any base t v)
  (n:DataW.Whole enc P fn.params.toList s.vars false W args.toList ds l y)
  (O:(DataW.weightsEach P (fn.params.toList++X) (ds++l)).all (·<=reachBytes)=true) :
  Calls P f args W λe k=>∃v,e=.returned v/\s.post enc P fn false true false false W args v k:=by
 have o:=n;obtain⟨p,q,c,m,rfl,Z,aa⟩:=n;rw[w]at m;obtain⟨rfl,rfl⟩:=trodVars_none m;obtain⟨xs,U⟩:=j7 sp.ins fn.params.toList args.toList ds p r c (λj t v Q R=>S j t v (by simpa using Q) (by simpa using R))
  (λb a=>by simpa using If.1 O b (Z9 b a))
 have I:∀x∈p,x.block<W.heap.size:=λx T=>by simpa using o.lt x (SI _ T)
 have G:ds.length=fn.params.size:=by
  have:∀(ts:List TypeId) (i:List Value) (ds:List (DataW H)) (p:List MemPlace),DataW.TrodAll enc P W 0 (λ_=>true) true ts i ds p->ds.length=ts.length:=by
   intro ts;induction ts with
   | nil=>intro i ds p h;obtain⟨_,rfl,_⟩:=trodAll_nil h;rfl
   | cons t ts V=>intro i ds p h;obtain⟨v,ae,d,Y,ab,ad,rfl,rfl,rfl,_,M⟩:=trodAll_cons h;simp[V _ _ _ M]
  simpa using this _ _ _ _ c
 have g:=J.2 W (λ_=>False) args.toList xs (λ_ h=>h.elim) U (L xs);rw[K]at g;have C:args.toList.toArray=args:=by simp
 rw[C]at g;refine g.mono λe k ⟨u,E,hu⟩=>?_;obtain⟨rfl,a⟩:=A46 hu;obtain⟨z,A,B⟩:=hs H (ds++[]) (by simpa using G);refine⟨_,E,_,_,_,[],p,[],o,?_,?_,?_,a.frame _,λh=>by cases h⟩
 .rw[z,N];exact trodAll_mk1 (shut_bool D _)
 .rw[A,QQ];exact aB F a sp.ins _ _ _ _ r c I
 rw[B,w];rfl
end
end Go.Proofs.YtapkhdkbkodbjaaGreat.Fw

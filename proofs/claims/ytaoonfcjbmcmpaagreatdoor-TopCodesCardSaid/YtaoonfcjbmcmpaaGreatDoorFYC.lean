/- Contracts of functions and plain laws. -/
import Derived.Shelf.SlGeneric
import Derived.Shelf.Sort.Plain
import Derived.Shelf.Slices.In.SortNone
import Derived.Shelf.Slices.CompactS
import Derived.Shelf.Strings.OnBuilder
import Derived.Shelf.Slices.MinMaxS
import Derived.Shelf.Spec.SearchS
import Derived.Shelf.Spec.TrailingZeros
import Derived.Shelf.SlicesE.DeleteFunc
import Derived.Test.YtaoonfcjbmcmpaaGreatDoorProg
import Derived.Test.YtaoonfcjbmcmpaaGreatDoorFZI
import Derived.Test.YtaoonfcjbmcmpaaGreatDoorFZJ
import Derived.Test.YtaoonfcjbmcmpaaGreatDoorFYA
import Derived.ProofKit
import Derived.Test.YtaoonfcjbmcmpaaGreatDoorFYB
set_option linter.unusedVariables false
set_option linter.unusedSimpArgs false
namespace Go.Proofs.YtaoonfcjbmcmpaaGreatDoor.Fw
attribute [local irreducible] Ev
attribute [local go_sem] Wc AP List.toList_toArray Bu evG evK SV EH JC F5 FO Hf Oq Lp Cy DA K6 CU DB frz YX EV C9 A1 FG BP AV.frz AV.frzs AV.drp AV.drps AV.names AV.namess aq F4 Jn I4 Pe H6 Bd Bj IR DW HY DX Ha HZ Hb QG MV GN I6 FI Dy QH Nq jR IT Hc J6 Eq DY H9 I7 D3 Pf DI D4 EZ Nr Hd Ln E1 Lm MW Ns J7 IA I8 D5 DZ GV Db G1 Cp Ea Cq D6 FK CU Ci K5 Np L3 Fx H8 H7 I5 MZ Om Lo KB J9 JA Oo KA JB Ub Mb Ma AV.trn AV.trns Bw Ba Obj.trn Ih Ww Da D8 Dz D7 B7 Eb Ae lk Ga F2 Gy qA YW SX YZ Ol Pd qJ AV.cellss aG qI qK AV.cells B9 EO H5 FJ MY CF Ll Ty.cell1 HX EW DV Fb IQ EU I3 J5 Lk E0 GM Le Pb QF J4 I2 UY WE Oj Gx Cv F3 RV.flat Ty.flat Ty.size St.add upd SU BS Value.oneCell' UX Ty.dflt HW Mu HB M4 List.take_succ_cons List.take_zero List.length_cons Wk Wl M3 Id KQ Gq Ie kY FP LD LE LF LG N2 N3 Fz Gg Qf Option.map_some Option.map_none Option.bind_some Option.getD_some Option.getD_none Option.isNone_none Option.isNone_some Bool.and_true Bool.true_and Bool.and_false Bool.false_and Bool.not_true Bool.not_false if_true if_false List.length_cons List.length_nil and_true true_and and_self List.all_cons List.all_nil List.append_nil List.nil_append List.cons_append List.getElem?_cons_zero List.getElem?_cons_succ List.getElem?_nil List.map_cons List.map_nil List.set_cons_zero List.set_cons_succ List.isEmpty_nil List.isEmpty_cons decide_true decide_false beq_self_eq_true bne_self_eq_false Nat.zero_add Nat.add_zero Nat.sub_zero Int.toNat_natCast Int.toNat_zero Int.toNat_one List.take_length List.length_append List.length_singleton true_or or_true or_self false_or or_false Ty.agg.injEq Ty.slice.injEq Ty.prod.injEq Ty.int.injEq Option.some.injEq beq_iff_eq J3 evMG evMQ k5 HD KN B1 Ic GQ Mx Ia HC Ho JG Jt MA Lu MB Pj KO My Mz Ib Ac Am Op.operands Call.operands List.filterMap_cons List.filterMap_nil List.append_eq Bool.cond_false_right Bool.cond_true_left cond_true cond_false implies_true decide_eq_true_eq beq_true beq_false Bool.or_true Bool.or_false Bool.true_or Bool.false_or Option.isSome_some Array.empty_append List.append_toArray FH K7 Ec Gz Ua MX UZ DJ Dn E2 Fd He G0 I9 J8 SY YY L2 p9 G2 FL Fy IU AX Wm List.drop_zero De HE U0 Dv JK CT AV.fgt AV.fgts Obj.fgt BC Az Ac Ca IG Bb F6 List.any_cons List.any_nil Y6 Wq U1 Wr KU N6 qs List.flatMap_cons List.flatMap_nil List.cons_append tn U4 Ii List.take_succ_cons List.drop_succ_cons r9 Q2 Py bI LK CZ Ct Ao Ee JF CK matchAVs C0 IE Hn Fg HA
attribute [local go_sem] ty1 ty2 ty3 ty4 ty5 ty9 sF sG sH sI sJ sK sL sM sN sO sP sQ sR sS sT sU sV sW sX sY sZ s0 s7 s8 s9 tA tB tC bQ bR bS bT bU bV bW bX bZ b4 b5 b6 b7 b8 b9 cA cB cC cE cF cG cH
set_option maxRecDepth 100000
set_option maxHeartbeats 4000000
section
open Go Go.Shelf
def Xv:Go.Shelf.Ren:=⟨λ|190=>51|125=>88|258=>92|128=>140|129=>141|302=>142|303=>143|304=>144|305=>145|306=>146|307=>147|308=>125|309=>148|310=>149|333=>176|329=>172|330=>173|334=>177|335=>178|336=>90|344=>182|n=>n,λ|31=>32|9=>9|3=>3|46=>99|0=>0|51=>171|53=>65|4=>4|183=>165|182=>164|131=>45|5=>5|218=>188|222=>192|228=>197|229=>198|n=>n,λ|n=>n⟩
theorem dM:Go.Proofs.Lays.n190 Tryz.prog Xv:={
 mixed:=by kernel_rfl
 f125:=Tryz.func88.trans (p7 some (by kernel_rfl))
 f128:=Tryz.func140.trans (p7 some (by kernel_rfl))
 f129:=Tryz.func141.trans (p7 some (by kernel_rfl))
 f190:=Tryz.func51.trans (p7 some (by kernel_rfl))
 f258:=Tryz.func92.trans (p7 some (by kernel_rfl))
 f302:=Tryz.func142.trans (p7 some (by kernel_rfl))
 f303:=Tryz.func143.trans (p7 some (by kernel_rfl))
 f304:=Tryz.func144.trans (p7 some (by kernel_rfl))
 f305:=Tryz.func145.trans (p7 some (by kernel_rfl))
 f306:=Tryz.func146.trans (p7 some (by kernel_rfl))
 f307:=Tryz.func147.trans (p7 some (by kernel_rfl))
 f308:=Tryz.func125.trans (p7 some (by kernel_rfl))
 f309:=Tryz.func148.trans (p7 some (by kernel_rfl))
 f310:=Tryz.func149.trans (p7 some (by kernel_rfl))
 f329:=Tryz.func172.trans (p7 some (by kernel_rfl))
 f330:=Tryz.func173.trans (p7 some (by kernel_rfl))
 f333:=Tryz.func176.trans (p7 some (by kernel_rfl))
 f334:=Tryz.func177.trans (p7 some (by kernel_rfl))
 f335:=Tryz.func178.trans (p7 some (by kernel_rfl))
 f336:=Tryz.func90.trans (p7 some (by kernel_rfl))
 f344:=Tryz.func182.trans (p7 some (by kernel_rfl))
 t0:=Tryz.underlying0
 a0:=Tryz.isAgg0
 z0:=Tryz.sizeOf0
 v0:=Tryz.zeroValue0
 t3:=Tryz.underlying3
 a3:=Tryz.isAgg3
 z3:=Tryz.sizeOf3
 v3:=Tryz.zeroValue3
 t4:=Tryz.underlying4
 a4:=Tryz.isAgg4
 z4:=Tryz.sizeOf4
 v4:=Tryz.zeroValue4
 t5:=Tryz.underlying5
 a5:=Tryz.isAgg5
 z5:=Tryz.sizeOf5
 v5:=Tryz.zeroValue5
 t9:=Tryz.underlying9
 a9:=Tryz.isAgg9
 z9:=Tryz.sizeOf9
 v9:=Tryz.zeroValue9
 t31:=Tryz.underlying32
 a31:=Tryz.isAgg32
 z31:=Tryz.sizeOf32
 v31:=Tryz.zeroValue32
 t46:=Tryz.underlying99
 a46:=Tryz.isAgg99
 z46:=Tryz.sizeOf99
 v46:=Tryz.zeroValue99
 t51:=Tryz.underlying171
 a51:=Tryz.isAgg171
 z51:=Tryz.sizeOf171
 v51:=Tryz.zeroValue171
 t53:=Tryz.underlying65
 a53:=Tryz.isAgg65
 z53:=Tryz.sizeOf65
 v53:=Tryz.zeroValue65
 t131:=Tryz.underlying45
 a131:=Tryz.isAgg45
 z131:=Tryz.sizeOf45
 v131:=Tryz.zeroValue45
 t182:=Tryz.underlying164
 a182:=Tryz.isAgg164
 z182:=Tryz.sizeOf164
 v182:=Tryz.zeroValue164
 t183:=Tryz.underlying165
 a183:=Tryz.isAgg165
 z183:=Tryz.sizeOf165
 v183:=Tryz.zeroValue165
 t218:=Tryz.underlying188
 a218:=Tryz.isAgg188
 z218:=Tryz.sizeOf188
 v218:=Tryz.zeroValue188
 t222:=Tryz.underlying192
 a222:=Tryz.isAgg192
 z222:=Tryz.sizeOf192
 v222:=Tryz.zeroValue192
 t228:=Tryz.underlying197
 a228:=Tryz.isAgg197
 z228:=Tryz.sizeOf197
 v228:=Tryz.zeroValue197
 t229:=Tryz.underlying198
 a229:=Tryz.isAgg198
 z229:=Tryz.sizeOf198
 v229:=Tryz.zeroValue198 }
def Xw:Go.Shelf.Ren:=⟨λ|194=>129|n=>n,λ|31=>32|9=>9|3=>3|4=>4|0=>0|n=>n,λ|n=>n⟩
theorem dN:Go.Proofs.Lays.n194 Tryz.prog Xw:={
 mixed:=by kernel_rfl
 f194:=Tryz.func129.trans (p7 some (by kernel_rfl))
 t0:=Tryz.underlying0
 a0:=Tryz.isAgg0
 z0:=Tryz.sizeOf0
 v0:=Tryz.zeroValue0
 t3:=Tryz.underlying3
 a3:=Tryz.isAgg3
 z3:=Tryz.sizeOf3
 v3:=Tryz.zeroValue3
 t4:=Tryz.underlying4
 a4:=Tryz.isAgg4
 z4:=Tryz.sizeOf4
 v4:=Tryz.zeroValue4
 t9:=Tryz.underlying9
 a9:=Tryz.isAgg9
 z9:=Tryz.sizeOf9
 v9:=Tryz.zeroValue9
 t31:=Tryz.underlying32
 a31:=Tryz.isAgg32
 z31:=Tryz.sizeOf32
 v31:=Tryz.zeroValue32 }
def PW:Go.Shelf.Ren:=⟨λ|156=>41|165=>79|166=>80|169=>81|240=>127|241=>128|276=>169|277=>170|n=>n,λ|31=>32|9=>9|3=>3|4=>4|0=>0|20=>20|72=>126|76=>130|70=>123|37=>124|75=>129|127=>159|164=>185|5=>5|80=>132|n=>n,λ|n=>n⟩
theorem dP:Go.Proofs.Lays.n156 Tryz.prog PW:={
 mixed:=by kernel_rfl
 f156:=Tryz.func41.trans (p7 some (by kernel_rfl))
 f165:=Tryz.func79.trans (p7 some (by kernel_rfl))
 f166:=Tryz.func80.trans (p7 some (by kernel_rfl))
 f169:=Tryz.func81.trans (p7 some (by kernel_rfl))
 f240:=Tryz.func127.trans (p7 some (by kernel_rfl))
 f241:=Tryz.func128.trans (p7 some (by kernel_rfl))
 f276:=Tryz.func169.trans (p7 some (by kernel_rfl))
 f277:=Tryz.func170.trans (p7 some (by kernel_rfl))
 t0:=Tryz.underlying0
 a0:=Tryz.isAgg0
 z0:=Tryz.sizeOf0
 v0:=Tryz.zeroValue0
 t3:=Tryz.underlying3
 a3:=Tryz.isAgg3
 z3:=Tryz.sizeOf3
 v3:=Tryz.zeroValue3
 t4:=Tryz.underlying4
 a4:=Tryz.isAgg4
 z4:=Tryz.sizeOf4
 v4:=Tryz.zeroValue4
 t9:=Tryz.underlying9
 a9:=Tryz.isAgg9
 z9:=Tryz.sizeOf9
 v9:=Tryz.zeroValue9
 t20:=Tryz.underlying20
 a20:=Tryz.isAgg20
 z20:=Tryz.sizeOf20
 v20:=Tryz.zeroValue20
 t31:=Tryz.underlying32
 a31:=Tryz.isAgg32
 z31:=Tryz.sizeOf32
 v31:=Tryz.zeroValue32
 t37:=Tryz.underlying124
 a37:=Tryz.isAgg124
 z37:=Tryz.sizeOf124
 v37:=Tryz.zeroValue124
 t70:=Tryz.underlying123
 a70:=Tryz.isAgg123
 z70:=Tryz.sizeOf123
 v70:=Tryz.zeroValue123
 t72:=Tryz.underlying126
 a72:=Tryz.isAgg126
 z72:=Tryz.sizeOf126
 v72:=Tryz.zeroValue126
 t75:=Tryz.underlying129
 a75:=Tryz.isAgg129
 z75:=Tryz.sizeOf129
 v75:=Tryz.zeroValue129
 t76:=Tryz.underlying130
 a76:=Tryz.isAgg130
 z76:=Tryz.sizeOf130
 v76:=Tryz.zeroValue130
 t127:=Tryz.underlying159
 a127:=Tryz.isAgg159
 z127:=Tryz.sizeOf159
 v127:=Tryz.zeroValue159
 t164:=Tryz.underlying185
 a164:=Tryz.isAgg185
 z164:=Tryz.sizeOf185
 v164:=Tryz.zeroValue185 }
def Vn:Go.Shelf.Ren:=⟨λ|19=>122|n=>n,λ|24=>32|9=>9|3=>3|4=>4|20=>20|0=>0|n=>n,λ|n=>n⟩
theorem nZ:Go.Proofs.Lays2.n19 Tryz.prog Vn:={
 mixed:=by kernel_rfl
 f19:=Tryz.func122.trans (p7 some (by kernel_rfl))
 t0:=Tryz.underlying0
 a0:=Tryz.isAgg0
 z0:=Tryz.sizeOf0
 v0:=Tryz.zeroValue0
 t3:=Tryz.underlying3
 a3:=Tryz.isAgg3
 z3:=Tryz.sizeOf3
 v3:=Tryz.zeroValue3
 t4:=Tryz.underlying4
 a4:=Tryz.isAgg4
 z4:=Tryz.sizeOf4
 v4:=Tryz.zeroValue4
 t9:=Tryz.underlying9
 a9:=Tryz.isAgg9
 z9:=Tryz.sizeOf9
 v9:=Tryz.zeroValue9
 t20:=Tryz.underlying20
 a20:=Tryz.isAgg20
 z20:=Tryz.sizeOf20
 v20:=Tryz.zeroValue20
 t24:=Tryz.underlying32
 a24:=Tryz.isAgg32
 z24:=Tryz.sizeOf32
 v24:=Tryz.zeroValue32 }
def Vo:Go.Shelf.Ren:=⟨λ|26=>74|33=>125|34=>126|38=>90|n=>n,λ|24=>32|9=>9|3=>3|4=>4|40=>99|0=>0|n=>n,λ|n=>n⟩
theorem n4:Go.Proofs.Lays2.n26 Tryz.prog Vo:={
 mixed:=by kernel_rfl
 f26:=Tryz.func74.trans (p7 some (by kernel_rfl))
 f33:=Tryz.func125.trans (p7 some (by kernel_rfl))
 f34:=Tryz.func126.trans (p7 some (by kernel_rfl))
 f38:=Tryz.func90.trans (p7 some (by kernel_rfl))
 t0:=Tryz.underlying0
 a0:=Tryz.isAgg0
 z0:=Tryz.sizeOf0
 v0:=Tryz.zeroValue0
 t3:=Tryz.underlying3
 a3:=Tryz.isAgg3
 z3:=Tryz.sizeOf3
 v3:=Tryz.zeroValue3
 t4:=Tryz.underlying4
 a4:=Tryz.isAgg4
 z4:=Tryz.sizeOf4
 v4:=Tryz.zeroValue4
 t9:=Tryz.underlying9
 a9:=Tryz.isAgg9
 z9:=Tryz.sizeOf9
 v9:=Tryz.zeroValue9
 t24:=Tryz.underlying32
 a24:=Tryz.isAgg32
 z24:=Tryz.sizeOf32
 v24:=Tryz.zeroValue32
 t40:=Tryz.underlying99
 a40:=Tryz.isAgg99
 z40:=Tryz.sizeOf99
 v40:=Tryz.zeroValue99 }
def Vp:Go.Shelf.Ren:=⟨λ|29=>78|n=>n,λ|22=>65|3=>3|4=>4|25=>99|54=>158|0=>0|5=>5|n=>n,λ|1=>0|n=>n⟩
theorem n5:Go.Proofs.Lays7.n29 Tryz.prog Vp:={
 mixed:=by kernel_rfl
 f29:=Tryz.func78.trans (p7 some (by kernel_rfl))
 t0:=Tryz.underlying0
 a0:=Tryz.isAgg0
 z0:=Tryz.sizeOf0
 v0:=Tryz.zeroValue0
 i0:=by kernel_rfl
 t3:=Tryz.underlying3
 a3:=Tryz.isAgg3
 z3:=Tryz.sizeOf3
 v3:=Tryz.zeroValue3
 i3:=by kernel_rfl
 t4:=Tryz.underlying4
 a4:=Tryz.isAgg4
 z4:=Tryz.sizeOf4
 v4:=Tryz.zeroValue4
 i4:=by kernel_rfl
 t5:=Tryz.underlying5
 a5:=Tryz.isAgg5
 z5:=Tryz.sizeOf5
 v5:=Tryz.zeroValue5
 i5:=by kernel_rfl
 t22:=Tryz.underlying65
 a22:=Tryz.isAgg65
 z22:=Tryz.sizeOf65
 v22:=Tryz.zeroValue65
 i22:=by kernel_rfl
 t25:=Tryz.underlying99
 a25:=Tryz.isAgg99
 z25:=Tryz.sizeOf99
 v25:=Tryz.zeroValue99
 i25:=by kernel_rfl
 t54:=Tryz.underlying158
 a54:=Tryz.isAgg158
 z54:=Tryz.sizeOf158
 g1:=by kernel_rfl }
def Vq:Go.Shelf.Ren:=⟨λ|10=>123|6=>131|n=>n,λ|22=>32|23=>9|25=>135|3=>3|4=>4|0=>0|n=>n,λ|n=>n⟩
theorem n6:Go.Proofs.SlLaysH.n10 Tryz.prog Vq:={
 mixed:=by kernel_rfl
 f6:=⟨Tryz.f131.name,by decide,Tryz.func131.trans (p7 some (by kernel_rfl))⟩
 f10:=⟨Tryz.f123.name,by decide,Tryz.func123.trans (p7 some (by kernel_rfl))⟩
 t0:=Tryz.underlying0
 a0:=Tryz.isAgg0
 z0:=Tryz.sizeOf0
 v0:=Tryz.zeroValue0
 t3:=Tryz.underlying3
 a3:=Tryz.isAgg3
 z3:=Tryz.sizeOf3
 v3:=Tryz.zeroValue3
 t4:=Tryz.underlying4
 a4:=Tryz.isAgg4
 z4:=Tryz.sizeOf4
 v4:=Tryz.zeroValue4
 t22:=Tryz.underlying32
 a22:=Tryz.isAgg32
 z22:=Tryz.sizeOf32
 v22:=Tryz.zeroValue32
 a23:=Tryz.isAgg9
 z23:=Tryz.sizeOf9
 t25:=Tryz.underlying135
 a25:=Tryz.isAgg135
 z25:=Tryz.sizeOf135
 v25:=Tryz.zeroValue135 }
theorem Xx:Builder.Extra Tryz.prog PW:={
 sizeBuilder:=by kernel_rfl
 liesBuilder:=by kernel_rfl
 t5:=Tryz.underlying5
 a5:=Tryz.isAgg5
 z5:=Tryz.sizeOf5
 v5:=Tryz.zeroValue5
 infoByte:=by kernel_rfl
 cellsByte:=by kernel_rfl
 sizeByte:=by kernel_rfl
 neB5:=by decide }
end
section
open Go Go.RowKit
abbrev Cg (l:List ByteArray):List (List UInt8):=l.map (·.data.toList)
theorem Xy (b:ByteArray):Go.Proofs.encStr b.data.toList=.string b:=by
 show Value.string ⟨b.data.toList.toArray⟩=.string b;rw[Array.toArray_toList]
theorem HS {l:List ByteArray} {j:Nat} (a:j<l.length):(Go.Proofs.encStr ((Cg l).toArray[j]!))=.string l[j]:=by
 rw[getElem!_pos _ j (by simpa using a)];simp only[List.getElem_toArray,ACH]
theorem Vr {V:Vw} {et:TypeId} {l:List ByteArray} {loc:Value} (h:Av V (.arr et .str l) loc):(loc=.slice none 0 0/\l=[])\/∃(g cap:Nat) (c:Array Value),loc=.slice (some ⟨g,0,none⟩) l.length cap/\V.w.heap[g]?=some (.cells c et (0,0))/\l.length<=cap/\cap<=maxLen/\c.size=cap/\l.length<=AN /\
  (∀(j:Nat) (b:ByteArray),l[j]?=some b->c[j]?=some (.string b)/\b.size<=AN)/\Go.Sort.Holds Go.Proofs.encStr V.w g 0 (Cg l).toArray:=by
 obtain⟨v,cells,x,t⟩:=h;rcases x.2 with ⟨f,d⟩|⟨g,cap,c,f,-,d,o,p,q,r⟩
 .exact .inl ⟨f,dO d⟩
 have i:∀(j:Nat) (b:ByteArray),l[j]?=some b->c[j]?=some (.string b)/\b.size<=AN:=λj b a=>by
  obtain⟨es,g1,k,m,n⟩:=t j b a;have e:=k 0 (.string b) (by rw[m];rfl);rw[<-r]at e;have u:j<l.length:=(ON.1 a).1;simp only[Ty.size,Nat.mul_one,Nat.add_zero]at e;rw[ABr u,AAW]at e;exact⟨e,n⟩
 refine .inr ⟨g,cap,c,f,d,o,p,by simpa[Ty.size] using q,v,i,λj a=>?_⟩;have a:j<l.length:=by simpa using a
 have s:=i j l[j] (DO a);refine⟨?_,?_⟩
 .rw[HS a];simp[World.cell?,d,s.1]
 simp[World.frozen?,d]
theorem uU {w:World} {g cap:Nat} {c:Array Value} {et:TypeId} (e:w.heap[g]?=some (.cells c et (0,0))) {l':List ByteArray} (o:l'.length<=cap) (f:cap<=maxLen) (h:c.size=cap) (r:l'.length<=AN) (hs:∀b∈l',b.size<=AN) {q:Nat} {os:Array _root_.Go.Obj} (V:Vw) (k:V.w=Go.Sort.grow (Go.Sort.putRow Go.Proofs.encStr (Go.Sort.ahead w q) g 0 (Cg l').toArray) os) :
  Av V (.arr et .str l') (.slice (some ⟨g,0,none⟩) l'.length cap):=by
 have p:=Au e;have m:V.w.heap[g]?=some (.cells (Go.Sort.putCells Go.Proofs.encStr 0 (Cg l').toArray c) et (0,0)):=by
  rw[k];show ((w.heap.modify g _)++os)[g]?=_;rw[Array.getElem?_append_left (by simpa using p),Array.getElem?_modify,At rfl,e];rfl
 have l:∀(j:Nat) (b:ByteArray),l'[j]?=some b->(Go.Sort.putCells Go.Proofs.encStr 0 (Cg l').toArray c)[j]?=some (.string b):=λj b a=>by
  have d:j<l'.length:=(ON.1 a).1;have n:j<c.size:=by omega
  simp only[Go.Sort.putCells,Array.getElem?_mapIdx,AA8 n,AB7,BY,true_and,AAO,AAD,Of,d,AAH,AC2];rw[HS d];have:l'[j]=b:=by rw[DO d]at a;injection a
  rw[this]
 refine⟨r,(Go.Sort.putCells Go.Proofs.encStr 0 (Cg l').toArray c).toList.take (l'.length*1),⟨?_,.inr ⟨g,cap,_,rfl,BY _,m,o,f,?_,rfl⟩⟩,λj b a=>?_⟩
 .simp[Go.Sort.putCells,Ty.size];omega
 .simp[Go.Sort.putCells,Ty.size,h]
 have d:j<l'.length:=(ON.1 a).1;refine⟨[.string b],rfl,λi u hi=>?_,rfl,hs b (AAj a)⟩;cases i with
 | zero =>
  injection hi with hi
  subst hi;simp only[Ty.size,Nat.mul_one,Nat.add_zero];rw[ABr d,AAW];exact l j b a
 | succ i=>simp at hi
theorem Oa {w:World} {K O0:Nat->Prop} {ρ:Nat->Value} {objs:List (Nat×Obj)} {stay:List Nat} {nm:Nat} {et:TypeId} {l l':List ByteArray} {res:AV} {u:Value} {w':World} {g cap q:Nat} {os:Array _root_.Go.Obj} {t:Array Value} {post:AV->List (Nat×Obj)->Prop}
  (f:Y4 K O0 objs ρ w) (C:∀b,K b->b<w.heap.size) (i:lk nm objs=some (.arr et .str l)) (x:ρ nm=.slice (some ⟨g,0,none⟩) l.length cap) (c:w.heap[g]?=some (.cells t et (0,0))) (v:l.length<=cap) (p:cap<=maxLen) (B:t.size=cap) (M:l.length<=AN)
  (E:l'.length=l.length) (hs:∀b∈l',b.size<=AN) (j:w'=Go.Sort.grow (Go.Sort.putRow Go.Proofs.encStr (Go.Sort.ahead w q) g 0 (Cg l').toArray) os) (H:post res (upd nm (.arr et .str l') objs)) (J:Bn (vw w' O0 ⟨[],upd nm (.arr et .str l') objs⟩ ρ) res u):TC K O0 stay w ρ post u w':=by
 have L:=Au c;have r:bk (ρ nm) g:=by rw[x];exact G3.2 rfl
 have s:∀b,b<w.heap.size->b≠g->w'.heap[b]?=w.heap[b]?:=λb a F=>by
  rw[j];show ((w.heap.modify g _)++os)[b]?=_;rw[Array.getElem?_append_left (by simpa using a),Array.getElem?_modify,As (λe=>F e.symm)]
 have I:w.heap.size<=w'.heap.size:=by
  rw[j];show _<=((w.heap.modify g _)++os).size;simp
 have n:∀m,GL ⟨[],upd nm (.arr et .str l') objs⟩ m↔GL ⟨[],objs⟩ m:=λm=>by
  constructor
  .rintro⟨o,h⟩;have h:lk m (upd nm (.arr et .str l') objs)=some o:=h;rw[D9]at h;split at h
   .rename_i e;subst e;exact⟨_,i⟩
   exact⟨o,h⟩
  rintro⟨o,h⟩;by_cases e:m=nm
  .subst e;exact⟨.arr et .str l',by show lk m (upd m _ objs)=_;rw[D9,At rfl,i];rfl⟩
  exact⟨o,by show lk m (upd nm _ objs)=_;rw[D9,As e];exact h⟩
 have G:∀b,own O0 ⟨[],upd nm (.arr et .str l') objs⟩ ρ b->own O0 ⟨[],objs⟩ ρ b:=λb h=>by
  rcases h with h|⟨m,k,c⟩
  .exact .inl h
  exact .inr ⟨m,(n m).1 k,c⟩
 have D:CG (vw w O0 ⟨[],objs⟩ ρ) (vw w' O0 ⟨[],upd nm (.arr et .str l') objs⟩ ρ):=⟨λb _ h A=>h (G b A),λm h=>(n m).2 h,λ_ _=>rfl,λb a h=>s b a λe=>h (.inr ⟨nm,⟨_,i⟩,e▸r⟩)⟩;refine⟨res,upd nm (.arr et .str l') objs,ρ,H,⟨by rw[j];rfl,by rw[j];rfl,by rw[j];rfl,I,λb a=>s b (C b a) λe=>(f.free nm g ⟨_,i⟩ r).1 (e▸a)⟩,⟨λm o d=>?_,λm b k c=>f.free m b ((n m).1 k) c,λm y b k c v p=>f.dist m y b ((n m).1 k) ((n y).1 c) v p⟩,J,λ_ _=>rfl⟩;rw[D9]at d;split at d
 .rename_i e;subst e;rw[i]at d;cases d;rw[x,<-E];exact uU c oa p B oa hs _ j
 rename_i e;exact(f.obj m o d).keeps D λb a=>s b ((f.obj m o d).block_lt a) λz=>e (f.dist m nm b ⟨o,d⟩ ⟨_,i⟩ a (z▸r))
theorem Ry {w:World} {K O0:Nat->Prop} {ρ:Nat->Value} {objs:List (Nat×Obj)} {stay:List Nat} {res:AV} {u:Value} {post:AV->List (Nat×Obj)->Prop} (a:Y4 K O0 objs ρ w) (b:post res objs) (c:Bn (vw w O0 ⟨[],objs⟩ ρ) res u):TC K O0 stay w ρ post u w :=
 ⟨res,objs,ρ,b,⟨rfl,rfl,rfl,If _,λ_ _=>rfl⟩,a,c,λ_ _=>rfl⟩
def DF (l:List ByteArray):List ByteArray:=((Cg l).mergeSort λx y=>decide (x<=y)).map λs=>⟨s.toArray⟩
theorem Rz (l:List ByteArray):Cg (DF l)=(Cg l).mergeSort λx y=>decide (x<=y):=by
 unfold DF Cg;rw[AB8];exact List.map_id' _
theorem Co (l:List ByteArray):(DF l).Perm l:=by
 have h:=(List.mergeSort_perm (Cg l) λx y=>decide (x<=y)).map λs:List UInt8=>(⟨s.toArray⟩:ByteArray);refine h.trans ?_;rw[AB8];have e:((λs:List UInt8=>(⟨s.toArray⟩:ByteArray))∘λb:ByteArray=>b.data.toList)=id:=by funext b;simp
 rw[e,List.map_id]
theorem NU (l:List ByteArray) (et:TypeId):Aj Tryz.prog 51 [.sr 1000000 .str 0 l.length] [(1000000,.arr et .str l)] [1000000] (λres O=>res=.raw (.tuple #[])/\O=[(1000000,.arr et .str (DF l))]):=by
 refine⟨⟨_,Tryz.func51,by kernel_rfl,by kernel_rfl⟩,λw K O0 ρ S E R hG k L=>?_⟩;obtain⟨v,r,rfl,z,i⟩:=L;have i:r=[]:=i;subst i;obtain⟨-,d⟩:=z;have J:=k.obj 1000000 _ rfl;have d:CV (plc (ρ 1000000)) 1 0 l.length v:=d;rcases Vr J with ⟨h,I⟩|⟨g,cap,P,h,s,A,B,C,t,G,D⟩
 .rw[h]at d;subst I;obtain⟨a,m,c,f,_,_,n,o,rfl,_⟩:=d;refine(Any.slices_Sort_string_none dM n o w).mono ?_;rintro e w' ⟨rfl,rfl⟩;exact⟨_,rfl,Ry (res:=.raw (.tuple #[])) k ⟨rfl,by rw[show DF []=[] from dO (Co []).length_eq]⟩ rfl⟩
 rw[h]at d;have M:v=.slice (some ⟨g,0,none⟩) l.length cap:=by
  obtain⟨a,m,c,f,_,_,n,o,rfl,_,y,_⟩:=d;obtain⟨rfl,rfl⟩:=y rfl;have f:Value.slice (some ⟨g,0,none⟩) l.length cap=_:=f;injection f with u Q x
  rw[<-u,<-x];simp
 subst M;have p:=Any.slices_Sort_string dM g 0 cap (Cg l) w D (Au s) (by simp only[Of];simp only[AN]at t;omega);rw[Of]at p;refine p.mono ?_;rintro e w' ⟨rfl,q,os,N⟩;refine⟨_,rfl,Oa (l':=DF l) (res:=.raw (.tuple #[])) k E rfl h s A B C t (Co l).length_eq (λb F=>?_) (q:=q) (os:=os) (by rw[Rz];exact N) ⟨rfl,rfl⟩ rfl⟩;obtain⟨j,H⟩:=AB0 ((Co l).mem_iff.1 F);exact(G j b H).2
end
section
open Go Go.RowKit
theorem n7 (l:List ByteArray) (et:TypeId) (P:l.Nodup):Aj Tryz.prog 129 [.sr 1000000 .str 0 l.length] [(1000000,.arr et .str l)] [1000000] (λres U=>res=.sr 1000000 .str 0 l.length/\U=[(1000000,.arr et .str l)]):=by
 refine⟨⟨_,Tryz.func129,by kernel_rfl,by kernel_rfl⟩,λw K O0 ρ Y H X hG p R=>?_⟩;obtain⟨v,r,rfl,D,n⟩:=R;have n:r=[]:=n;subst n;obtain⟨-,d⟩:=D;have Q:=p.obj 1000000 _ rfl;have d:CV (plc (ρ 1000000)) 1 0 l.length v:=d;rcases Vr Q with ⟨f,O⟩|⟨g,cap,V,f,N,y,E,F,A,J,G⟩
 .subst O;rw[f]at d;have t:=d;obtain⟨a,m,c,i,_,_,u,x,rfl,_⟩:=d;refine(Any.slices_Compact_string_empty dN u x w).mono ?_;rintro e w' ⟨rfl,rfl⟩;exact⟨_,rfl,Ry (res:=.sr 1000000 .str 0 0) p ⟨rfl,rfl⟩ ⟨⟨_,rfl⟩,by show CV (plc (ρ 1000000)) 1 0 0 _;rw[f];exact t⟩⟩
 have t:=d;rw[f]at d;have S:v=.slice (some ⟨g,0,none⟩) l.length cap:=by
  obtain⟨a,m,c,i,_,_,u,x,rfl,_,k,_⟩:=d;obtain⟨rfl,rfl⟩:=k rfl;have i:Value.slice (some ⟨g,0,none⟩) l.length cap=_:=i;injection i with B W C
  rw[<-B,<-C];simp
 subst S;have A0L:(Cg l).Nodup:=AB3.2 (P.imp λ{a b} h e=>h (by have:=p7 (λs:List UInt8=>(⟨s.toArray⟩:ByteArray)) e;simp only[Array.toArray_toList]at this;exact this));have L:Lib.compact (Cg l)=Cg l:=Lib.compact_all _ λj o=>by
  unfold Lib.keeps;rw[Do];by_cases k:j=0
  .exact .inl k
  right;rw[getElem!_pos _ j (by simpa using o),getElem!_pos _ (j-1) (by simp only[AAD];omega)];intro e;simp only[List.getElem_toArray]at e;have:=(ABK A0L).1 e;omega
 have z:=Any.slices_Compact_string dN g 0 cap (Cg l) w G (by simp only[Of];simp only[AN]at A;omega) (by simp only[Of];exact y);rw[L,Of,ABy,List.replicate_zero,AAb]at z;refine z.mono ?_;rintro e w' ⟨rfl,q,T⟩;have M:w'=Go.Sort.grow (Go.Sort.putRow Go.Proofs.encStr (Go.Sort.ahead w q) g 0 (Cg l).toArray) #[]:=by rw[T];exact(Go.Sort.grow_empty _).symm
 refine⟨_,rfl,Oa (l':=l) (res:=.sr 1000000 .str 0 l.length) p H rfl f N y E F A rfl (λb I=>?_) (q:=q) M ⟨rfl,rfl⟩ ⟨⟨_,rfl⟩,t⟩⟩;obtain⟨j,o⟩:=AB0 I;exact(J j b o).2
theorem Ob {w:World} {O:Nat->Prop} {v:Value} {l:List ByteArray} (h:BG w O (.slice .str) v l):l.length<=AN/\((l=[]/\∃a c,v=.slice a 0 c)\/∃g o c,v=.slice (some ⟨g,o,none⟩) l.length c/\l.length<=c/\g<w.heap.size/\∀(j:Nat) (x:ByteArray),l[j]?=some x->w.cell? ⟨g,o+j,none⟩=some (.string x)/\x.size<=AN):=by
 obtain⟨cs,⟨a,c,rfl,p,q,b⟩,rfl⟩:=h;refine⟨q,?_⟩;by_cases e:l=[]
 .subst e;exact .inl ⟨rfl,a,c,rfl⟩
 rcases b with b|⟨ad,rfl,y,t⟩
 .exact absurd b e
 obtain⟨i,r,rfl⟩:=ABD e;have cell:∀(j:Nat) (x:ByteArray),(i :: r)[j]?=some x->w.cell? (ad.add j)=some (.string x)/\x.size<=AN:=λj x d=>by
  obtain⟨es,g1,k,m,n⟩:=t j x d;have:=k 0 (.string x) (by rw[m];rfl);exact⟨by simpa[Ty.size] using this,n⟩
 have f:ad.spot=none:=by
  have:=(cell 0 i rfl).1;rw[Gn]at this;unfold World.cell? at this;split at this
  .cases hs:ad.spot with
   | none=>rfl
   | some s=>rw[hs]at this;simp at this
  cases this
 obtain⟨g,o,u⟩:=ad;have f:u=none:=f;subst f;refine .inr ⟨g,o,c,rfl,p,?_,λj x d=>?_⟩
 .have:=(cell 0 i rfl).1;exact ACe this
 have:=cell j x d
 rwa [Gw]at this
theorem Jd {P : Program} {f : FuncId} {a : Spec} (j : ∃ fn : Func, P.funcs[f]? = some fn /\ (fn.name == "runtime.NumGoroutine") = false /\ fn.body.isNone = false)
  (h:∀(w:World) (O:Nat->Prop) (c:List Value) (ds:H4 a.ins),GW w (λb=>b<w.heap.size) O->Lr w O a.ins c ds->a.pre ds->Calls P f c.toArray w λe w'=>∃u,e=.returned u/\Below w.heap.size w w'/\∀(V:Vw) (nm:Nat),Bn V (F3 nm (a.out ds)) u)
  (hp:∀ds,∀r∈a.out ds,∃t d,r=.p t d):Ap P f a:=by
 refine⟨j,λw O c ds s hG l k=>(h w O c ds hG l k).mono ?_⟩;rintro e w' ⟨u,rfl,i,g⟩;refine⟨u,rfl,λnm=>⟨λ_=>undef,?_⟩⟩;rw[Ka (hp ds)];exact⟨i,λ_ _=>rfl,g _ nm,λn o q=>(by cases q),λn o b q=>(by cases q),λn m o v b q=>(by cases q)⟩
theorem Vs (V:Vw) (b:ByteArray) (h:b.size<=AN):Bn V (.p .str b) (.string b):=⟨[.string b],⟨rfl,h⟩,rfl⟩
def H2 (l:List ByteArray) (s:ByteArray):ByteArray:=⟨(Lib.join (Cg l) s.data.toList).toArray⟩
def n8:Spec:={ ins:=[Ad,T9],pre:=λ(l,s,_)=>(H2 l s).size<=140737488355328,out:=λ(l,s,_)=>[.p T9 (H2 l s)] }
theorem uV:Ap Tryz.prog 41 n8:=by
 refine Jd ⟨_,Tryz.func41,by kernel_rfl,by kernel_rfl⟩ ?_ (by simp[n8]);rintro w O z ⟨l,s,u⟩-⟨v1,v,rfl,p,y,r,rfl,q,d⟩ b;have d:r=[]:=d;subst d;obtain⟨rfl,t⟩:=Ed q;have b:(H2 l s).size<=140737488355328:=b;obtain⟨n,⟨rfl,a,c,rfl⟩|⟨g,o,c,rfl,h,k,i⟩⟩:=Ob p
 .refine(Any.strings_Join_none dP Xx a c s w).mono ?_;rintro e w' ⟨rfl,rfl⟩;exact⟨_,rfl,Below.refl _ _,λV nm=>Vs V (H2 [] s) (by rw[show H2 [] s=⟨#[]⟩ from rfl];exact BY _)⟩
 refine(Any.strings_Join dP Xx g o c l s w (λj x m=>(i j x m).1) k n h ?_).mono ?_
 .have:(H2 l s).size=(Lib.join (l.map λx=>x.data.toList) s.data.toList).length:=by
   show ((Lib.join (Cg l) s.data.toList).toArray).size=_;simp
  rw[this]at b;exact b
 rintro e w' ⟨rfl,f⟩;exact⟨_,rfl,f,λV nm=>Vs V (H2 l s) (by simp only[AN];omega)⟩
def minS:Spec:={ ins:=[Ad],lend:=true,pre:=λ(l,_)=>(l:List ByteArray)≠[],out:=λ(l,_)=>[.p T9 (Lib.minOfS l)] }
theorem R0:∀ {l:List ByteArray},l≠[]->Lib.minOfS l∈l:=by
 have key:∀(l:List ByteArray) (b:ByteArray),l.foldl Lib.minS b=b\/l.foldl Lib.minS b∈l:=by
  intro l;induction l with
  | nil=>intro b;exact .inl rfl
  | cons x l c =>
   intro b;rw[No];rcases c (Lib.minS b x) with h|h
   .rw[h];unfold Lib.minS;split
    .exact .inl rfl
    exact .inr sa
   exact .inr (AAp _ h)
 intro l a;unfold Lib.minOfS;cases l with
 | nil=>exact absurd rfl a
 | cons x l =>
  rcases key (x :: l) x with h|h
  .rw[show (x :: l).headD ByteArray.empty=x from rfl,h];simp
  exact h
theorem y7:Ap Tryz.prog 122 minS:=by
 refine Jd ⟨_,Tryz.func122,by kernel_rfl,by kernel_rfl⟩ ?_ (by simp[minS]);rintro w O q ⟨l,u⟩-⟨v1,m,rfl,k,d⟩ a;have d:m=[]:=d;subst d;have a:(l:List ByteArray)≠[]:=a;obtain⟨i,⟨rfl,_⟩|⟨g,o,c,rfl,n,p,f⟩⟩:=Ob k
 .exact absurd rfl a
 have h:=Any.slices_Min_string nZ g o l.length c l w (ABM.2 a) (If _) (by simp only[AN]at i;omega) λj b=>by
  have:=(f j _ (DO b)).1;rw[AS,DO b];exact this
 rw[TO]at h;refine h.mono ?_;rintro e w' ⟨rfl,rfl⟩;refine⟨_,rfl,Below.refl _ _,λV nm=>Vs V _ ?_⟩;obtain⟨j,b⟩:=AB0 (R0 a);exact(f j _ b).2
def n9 (l:List ByteArray) (x:ByteArray):Nat:=Lib.bsGo (λt=>Op.bytesLess (l.getD t ByteArray.empty).toList x.toList) l.length 0 l.length
def bsB (l:List ByteArray) (x:ByteArray):Bool:=decide (n9 l x<l.length/\l.getD (n9 l x) ByteArray.empty=x)
def bsS:Spec:={ ins:=[Ad,T9],lend:=true,pre:=λ(l,x,_)=>(l:List ByteArray)≠[]/\n9 l x<=140737488355328,out:=λ(l,x,_)=>[.p T3 (n9 l x:Int),.p .bool (bsB l x)] }
theorem A0O:Ap Tryz.prog 74 bsS:=by
 refine Jd ⟨_,Tryz.func74,by kernel_rfl,by kernel_rfl⟩ ?_ (by simp[bsS]);rintro w O z ⟨l,x,u⟩-⟨v1,v,rfl,k,y,n,rfl,m,b⟩ ⟨a,d⟩;have b:n=[]:=b;subst b;obtain⟨rfl,s⟩:=Ed m;have a:(l:List ByteArray)≠[]:=a;have d:n9 l x<=140737488355328:=d;obtain⟨i,⟨rfl,_⟩|⟨g,o,c,rfl,p,r,h⟩⟩:=Ob k
 .exact absurd rfl a
 refine(Any2.slices_BinarySearch_string n4 g o l.length c (λt=>l.getD t ByteArray.empty) x w (by simp only[AN]at i;omega) λj f=>?_).mono ?_
 .have:=(h j _ (DO f)).1;simp only[AS,DO f];exact this
 rintro e w' ⟨rfl,q,rfl⟩;refine⟨_,rfl,⟨rfl,rfl,rfl,If _,λ_ _=>rfl⟩,λV nm=>?_⟩;exact⟨[.int .i64 (n9 l x:Int),.bool (bsB l x)],rfl,_,_,rfl,BD (by rw[Fz];omega),_,[],rfl,⟨[_],rfl,rfl⟩,rfl⟩
theorem dQ {w:World} {O:Nat->Prop}:∀ {l:List Int} {cs:List Value},l≠[]->Bl w O (kD l) cs (q8 l)->cs=l.map (.int .u8)
 | [],_,h,_=>absurd rfl h
 | [x],cs,_,h=>h.1
 | x :: y :: r,cs,_,h=>by
  obtain⟨c1,c2,rfl,a,b⟩:=h;rw[a.1,dQ sa b];rfl
def tzS:Spec:={ ins:=[Se],lend:=true,pre:=λ_=>True,out:=λ(x,_)=>[.p T3 (Lib.ctz 64 (Int.toNat x):Int)] }
theorem y8 {w:World} {O:Nat->Prop} (hG:GW w (λb=>b<w.heap.size) O):TabAt 0 Lib.deBruijn64tab w:=by
 obtain⟨-,-,cs,d,f⟩:=hG _ (by simp only[gls];exact nO.2 rfl);have e:=dQ sa f;intro j a;refine d j _ ?_;rw[e];have a:j<64:=a;have key:∀j,j<64->(List.map (Value.int .u8) [0,1,56,2,57,49,28,3,61,58,42,50,38,29,17,4,62,47,59,36,45,43,51,22,53,39,33,30,24,18,12,5,63,55,48,27,60,41,37,16,46,35,44,21,52,32,23,11,54,26,40,15,34,20,31,10,25,14,19,9,13,8,7,6])[j]?=some (.int .u8 ((Lib.deBruijn64tab.getD j 0:Nat):Int)):=by
  intro j a;rw[AAr];have c:∀j,j<64->([0,1,56,2,57,49,28,3,61,58,42,50,38,29,17,4,62,47,59,36,45,43,51,22,53,39,33,30,24,18,12,5,63,55,48,27,60,41,37,16,46,35,44,21,52,32,23,11,54,26,40,15,34,20,31,10,25,14,19,9,13,8,7,6]:List Int)[j]?=some ((Lib.deBruijn64tab.getD j 0:Nat):Int):=by decide +kernel
  rw[c j a];rfl
 exact key j a
theorem A0P:Ap Tryz.prog 78 tzS:=by
 refine Jd ⟨_,Tryz.func78,by kernel_rfl,by kernel_rfl⟩ ?_ (by simp[tzS]);rintro w O f ⟨x,u⟩ hG ⟨v1,d,rfl,c,a⟩ -;have a:d=[]:=a;subst a;obtain⟨rfl,b⟩:=A3 c;rw[Gg]at b;obtain⟨n,rfl⟩:∃n:Nat,x=(n:Int):=⟨Int.toNat x,(Int.toNat_of_nonneg b.1).symm⟩;refine(Any7.bits_TrailingZeros64 n5 n oa w λ_=>y8 hG).mono ?_;rintro e w' ⟨rfl,rfl⟩;refine⟨_,rfl,Below.refl _ _,λV nm=>BD ?_⟩;have:Lib.ctz 64 n<=64:=by
  unfold Lib.ctz;split
  .exact If _
  exact Nat.le_of_lt (Lib.ctzFrom_spec 64 n oa oa).choose_spec.2
 rw[Fz];simp only[AA4];omega
end
section
attribute [local go_sem] tzS
theorem Je {w:Int} (h:OJ w) (n:Int):0<=Cj .u64 w n/\Cj .u64 w n<=w:=by
 have a:(0:Int)<=2 ^ (min n.toNat IntKind.u64.bits):=Int.pow_nonneg di;unfold Cj;rw[ABl _ a];exact⟨Int.ediv_nonneg h.1 a,Int.ediv_le_self _ h.1⟩
theorem NV {a b:Int} (d:OJ a) (c:OJ b):0<=A4 .and .u64 a b/\A4 .and .u64 a b<=b:=by
 rw[Eh d c];have:a.toNat &&& b.toNat<=b.toNat:=AC9;have:=c.1;omega
theorem oA (y:Int):0<=A4 .and .i64 y 127/\A4 .and .i64 y 127<=127:=by
 have b:(BitVec.ofInt 64 y &&& BitVec.ofInt 64 127).toNat<=127:=by
  rw[ACI];exact f3 AC9 di
 have a:A4 .and .i64 y 127=((BitVec.ofInt 64 y &&& BitVec.ofInt 64 127).toNat:Int):=by
  show IntKind.i64.wrap _=_;exact Hi (by rw[Fz];show _<=((BitVec.ofInt 64 y &&& BitVec.ofInt 64 127).toNat:Int)/\((BitVec.ofInt 64 y &&& BitVec.ofInt 64 127).toNat:Int)<=_;omega)
 rw[a];omega
def dR (x:Int):Int:=A4 .and .i64 (w4 32 (w4 16 (w4 8 (w3 (w2 (w1 x)))))) 127
theorem iA {x:Int} (a:0<=x) (b:x<1024):dR x=Tr x:=(yV a b).2.2.2.2.2.2.2
theorem y9 {x:Int} (h:OJ x) :
  (PT (Cj .u64 x 1)/\PT (w1 x))/\(PT (Cj .u64 (w1 x) 2)/\PT (w2 (w1 x)))/\(PT (Cj .u64 (w2 (w1 x)) 4)/\PT (Cj .u64 (w2 (w1 x)) 4+w2 (w1 x))) /\
 (PT (Cj .u64 (w3 (w2 (w1 x))) 8)/\PT (w4 8 (w3 (w2 (w1 x)))))/\(PT (Cj .u64 (w4 8 (w3 (w2 (w1 x)))) 16)/\PT (w4 16 (w4 8 (w3 (w2 (w1 x)))))) /\
 (PT (Cj .u64 (w4 16 (w4 8 (w3 (w2 (w1 x))))) 32)/\PT (w4 32 (w4 16 (w4 8 (w3 (w2 (w1 x)))))))/\w4 32 (w4 16 (w4 8 (w3 (w2 (w1 x)))))<=9223372036854775807:=by
 have s1:=Je h 1;have f:OJ (Cj .u64 x 1):=⟨s1.1,ABc s1.2 h.2⟩;have b:OJ 6148914691236517205:=⟨by decide,by decide⟩;have t:=NV f b;have u:=NV h b;have B:w1 x=A4 .and .u64 (Cj .u64 x 1) 6148914691236517205+A4 .and .u64 x 6148914691236517205:=rfl;have m:0<=w1 x/\w1 x<=12297829382473034410:=by omega
 generalize w1 x=y at *;have a:OJ y:=⟨m.1,by omega⟩;have s2:=Je a 2;have g:OJ (Cj .u64 y 2):=⟨s2.1,ABc s2.2 a.2⟩;have c:OJ 3689348814741910323:=⟨by decide,by decide⟩;have w:=NV g c;have A:=NV a c;have C:w2 y=A4 .and .u64 (Cj .u64 y 2) 3689348814741910323+A4 .and .u64 y 3689348814741910323:=rfl;have n:0<=w2 y/\w2 y<=7378697629483820646:=by omega
 generalize w2 y=z at *;have k:OJ z:=⟨n.1,by omega⟩;have I:=Je k 4;have i:OJ (Cj .u64 z 4+z):=⟨by omega,by omega⟩;have l:OJ 1085102592571150095:=⟨by decide,by decide⟩;have c1:=NV i l;have D:w3 z=A4 .and .u64 (Cj .u64 z 4+z) 1085102592571150095:=rfl;have o:0<=w3 z/\w3 z<=1085102592571150095:=by omega
 generalize w3 z=v at *;have j:OJ v:=⟨o.1,by omega⟩;have J:=Je j 8;have E:w4 8 v=v+Cj .u64 v 8:=rfl;have p:0<=w4 8 v/\w4 8 v<=2170205185142300190:=by omega
 generalize w4 8 v=q at *;have d:OJ q:=⟨p.1,by omega⟩;have K:=Je d 16;have F:w4 16 q=q+Cj .u64 q 16:=rfl;have s:0<=w4 16 q/\w4 16 q<=4340410370284600380:=by omega
 generalize w4 16 q=r at *;have e:OJ r:=⟨s.1,by omega⟩;have L:=Je e 32;have G:w4 32 r=r+Cj .u64 r 32:=rfl;have M:0<=w4 32 r/\w4 32 r<=8680820740569200760:=by omega
 have H:=h.2;unfold PT;refine⟨⟨⟨?_,?_⟩,?_,?_⟩,⟨⟨?_,?_⟩,?_,?_⟩,⟨⟨?_,?_⟩,?_,?_⟩,⟨⟨?_,?_⟩,?_,?_⟩,⟨⟨?_,?_⟩,?_,?_⟩,⟨⟨?_,?_⟩,?_,?_⟩,?_⟩<;>omega
def oB:Spec:={ ins:=[Se],lend:=true,pre:=λ_=>True,out:=λ(x,_)=>[.p T3 (dR x)] }
attribute [local go_sem] oB
theorem uW:Ap Tryz.prog 23 oB:=by
 refine fK [0,2] Tryz.func23 Tryz.ntmps23 AH ?_;rintro w0 O0 ⟨x,u⟩ c ⟨a,-⟩ -;have a:OJ x:=by
  have h:Gm .u64 x:=a;have h:(0:Int)<=x/\x<=18446744073709551615:=by simpa[Gm,IntKind.min,IntKind.max,IntKind.signed,IntKind.bits] using h
  exact⟨h.1,ABc h.2 di⟩
 obtain⟨g1,e,f,g,i,b,j⟩:=y9 a;simp only[oB,AP];repeat'(first|exact trivial|apply eS rfl|apply AB|refine rX c ?_ ?_|refine rC ?_ ?_<;>intro d<;>try(cases d;done))
 .exact g1
 .exact e
 .exact f
 .exact g
 .exact i
 .exact b
 .exact⟨AAE di b.2.1,j⟩
 exact fI c [.tmp 2] (by unfold dR w4 w3 w2 w1;exact eR)
def Kx (b:List Int):Prop:=∀w∈b,0<=w/\w<1024
theorem R1 {b:List Int}:∀n:Nat,n<=b.length->((Dk b (64*n)).length:Int)=(b.take n).foldl (λa w=>a+Tr w) 0
 | 0,_=>by simp[Dk]
 | n+1,h=>by
  rw[Ai b 0 h,AAk,<-R1 n oa];have key:∀m,m<=64->(Dk b (64*n+m)).length=(Dk b (64*n)).length+((List.range m).filter λ(r:Nat)=>XA (b.getD n 0) (r:Int)).length:=by
   intro m;induction m with
   | zero=>intro _;simp
   | succ m f =>
    intro g;rw[show 64*n+(m+1)=(64*n+m)+1 by omega,MH,YT,f oa,AA0,AAm,YT,AAa,AAC];have e:Gh b ((64*n+m:Nat):Int)=XA (b.getD n 0) (m:Int):=by
     have c:Int.tdiv ((64*n+m:Nat):Int) 64=(n:Int):=by rw[oF oa];omega
     have d:Int.tmod ((64*n+m:Nat):Int) 64=(m:Int):=by rw[AAB oa];omega
     unfold Gh;rw[c,d,As (by rw[bY,Do,Do];omega),AA4]
    rw[e];split<;>simp<;>omega
  rw[show 64*(n+1)=64*n+64 by omega,key 64 (If _)];simp only[No,List.foldl_nil];unfold Tr;omega
theorem Zw (b:List Int):((B8 b).length:Int)=b.foldl (λa w=>a+Tr w) 0:=by
 have:=R1 (b:=b) b.length (If _)
 rwa [TO]at this
def EE (b:List Int):Int:=b.foldl (λa w=>a+dR w) 0
theorem P8 {b:List Int} (h:Kx b):EE b=((B8 b).length:Int):=by
 rw[Zw];unfold EE;have key:∀(b:List Int) (a:Int),Kx b->b.foldl (λa w=>a+dR w) a=b.foldl (λa w=>a+Tr w) a:=by
  intro b;induction b with
  | nil=>intro _ _;rfl
  | cons w b d =>
   intro a h;rw[No,No,iA (h w sa).1 (h w sa).2];exact d _ λx c=>h x (by simp[c])
 exact key b 0 h
theorem oC (b:List Int):0<=EE b/\EE b<=127*b.length:=by
 have key:∀(b:List Int) (a:Int),a<=b.foldl (λa w=>a+dR w) a/\b.foldl (λa w=>a+dR w) a<=a+127*b.length:=by
  intro b;induction b with
  | nil=>intro a;simp
  | cons w b d =>
   intro a;have c:=oA (w4 32 (w4 16 (w4 8 (w3 (w2 (w1 w))))));have e:0<=dR w/\dR w<=127:=c;have:=d (a+dR w);rw[No,iF];omega
 have:=key b 0;unfold EE;omega
def Xz:Spec:={ ins:=[BZ],lend:=true,pre:=λ_=>True,out:=λ(b,_)=>[.p T3 (EE b)] }
theorem Vt:Ap Tryz.prog 7 Xz:=by
 refine fK [0,2,3,5,6,7,8,9] Tryz.func7 Tryz.ntmps7 (AF uW AH) ?_;rintro w0 O0 ⟨b,u⟩ e ⟨⟨f,-⟩,-⟩ -;simp only[AN]at f;have f:List.length b<=140737488355328:=f;simp only[Xz,AP];repeat'(first|exact trivial|apply eS rfl|apply AB|refine rX e ?_ ?_|refine rC ?_ ?_<;>intro c<;>try(cases c;done))
 refine AJ (ι:={k:Nat//k<=List.length b}) (λk=>⟨[(0,.p BZ b),(3,.p (.int .i64) (EE (List.take k.1 b))),(6,.p BZ b),(7,.p (.int .i64) (List.length b:Int)),(8,.p (.int .i64) (k.1:Int))],[]⟩) (λk=>List.length b-k.1) ⟨0,BY _⟩ (AC [] rfl rfl ?_ ?_) (λk=>?_)
 .first|exact eN|refine eM ?_
 .first|exact eN|refine eM ?_
  try rfl
 obtain⟨k,l⟩:=k;have j:∀h:k<List.length b,EE (List.take (k+1) b)=EE (List.take k b)+dR (List.getD b k 0):=λh=>Ce (λa w=>a+dR w) b 0 _ h;have i:=oC (List.take k b);have m:(List.take k b).length<=k:=AA6 k b;have g:0<=dR (List.getD b k 0)/\dR (List.getD b k 0)<=127:=oA _;simp only;repeat'(first|exact trivial|apply eS rfl|apply AB|refine rX e ?_ ?_|refine rC ?_ ?_<;>intro c<;>try(cases c;done))
 .exact c
 .have d:k<List.length b:=An.1 (by assumption);refine⟨?_,?_⟩
  .exact AAE di (Int.add_nonneg i.1 g.1)
  exact AAE (Int.add_le_add i.2 g.2) oa
 .exact eV
 .have d:k<List.length b:=An.1 (by assumption);refine⟨⟨k+1,d⟩,by simp only;omega,AC [] rfl rfl ?_ ?_⟩
  .first|exact eN|refine eM ?_
  simp only;rw[j d];first|exact eN|refine eM ?_
 have d:List.take k b=b:=By (NO.1 c);rw[d];exact fI e [.tmp 2]
theorem zA {k:Nat} (h:k≠0):k &&& (k-1)<k:=ABQ AC9 oa
theorem oD {b:List Int} (f:Kx b) {n:Nat} (g:n<b.length):Dk b (64*(n+1))=Dk b (64*n)++(Xh (b.getD n 0).toNat).map λr=>((64*n+r:Nat):Int):=by
 have h:=f _ (AL (d:=(0:Int)) g);have key:∀m,m<=64->Dk b (64*n+m)=Dk b (64*n)++((List.range m).filter λ(r:Nat)=>(b.getD n 0).toNat.testBit r).map λr=>((64*n+r:Nat):Int):=by
  intro m;induction m with
  | zero=>intro _;simp
  | succ m i =>
   intro j;rw[show 64*n+(m+1)=(64*n+m)+1 by omega,MH,i oa,AA0,AAm,AA7,AAa,AAC,oN];have e:Gh b ((64*n+m:Nat):Int)=(b.getD n 0).toNat.testBit m:=by
    have a:Int.tdiv ((64*n+m:Nat):Int) 64=(n:Int):=by rw[oF oa];omega
    have c:Int.tmod ((64*n+m:Nat):Int) 64=(m:Int):=by rw[AAB oa];omega
    unfold Gh;rw[a,c,As (by rw[bY,Do,Do];omega),AA4,Xe ⟨h.1,by omega⟩ oa]
   rw[e];split<;>rfl
 exact key 64 (If _)
theorem oE {w:Int} (a:0<=w) (b:w<1024) (h:w≠0):A4 .and .u64 w (w-1)=((w.toNat &&& (w.toNat-1):Nat):Int):=by
 rw[Eh ⟨a,by omega⟩ ⟨by omega,by omega⟩,show (w-1).toNat=w.toNat-1 by omega]
def Zx:Spec:={ ins:=[BZ],pre:=λ(b,_)=>List.length b<=100000/\Kx b,out:=λ(b,_)=>[.p Dj (B8 b)] }
theorem oG:Ap Tryz.prog 40 Zx:=by
 refine fK [0,2,3,4,5,6,7,8,9,14] Tryz.func40 Tryz.ntmps40 (AF A0P AH) ?_;rintro w0 O0 ⟨b,u⟩ i-⟨n,h⟩;have n:b.length<=100000:=n;have h:Kx b:=h;simp only[Zx,AP];repeat'(first|exact trivial|apply eS rfl|apply AB|refine rX i ?_ ?_|refine rC ?_ ?_<;>intro a<;>try(cases a;done))
 refine AJ (ι:={k:Nat//k<=b.length}) (λk=>⟨[(3,.sr 26 T3 0 (Dk b (64*k.1)).length),(6,.p BZ b),(7,.p (.int .i64) (b.length:Int)),(8,.p (.int .i64) (k.1:Int))],[(26,.arr 3 T3 (Dk b (64*k.1)))]⟩) (λk=>b.length-k.1) ⟨0,BY _⟩ (AC [(26,.nil)] rfl rfl ?_ ?_) (λk=>?_)
 .first|exact eN|refine eM ?_
  try rfl
 .first|exact eN|refine eM ?_
  try rfl
 obtain⟨k,s⟩:=k;simp only;repeat'(first|exact trivial|apply eS rfl|apply AB|refine rX i ?_ ?_|refine rC ?_ ?_<;>intro a<;>try(cases a;done))
 .exact a
 .have e:k<b.length:=An.1 (by assumption);have t:=oD h e;have q:=h _ (AL (d:=(0:Int)) e);have z:=TU b (64*(k+1));refine AJ (ι:={y:List Int×Int//0<=y.2/\y.2<1024/\y.1++((Xh y.2.toNat).map λr=>((64*k+r:Nat):Int))=Dk b (64*(k+1))}) (λy=>⟨[(3,.sr 26 T3 0 y.1.1.length),(4,.p (.int .i64) (k:Int)),(5,.p Se y.1.2),(6,.p BZ b),(7,.p (.int .i64) (b.length:Int)),(8,.p (.int .i64) (k:Int))],[(26,.arr 3 T3 y.1.1)]⟩) (λy=>y.1.2.toNat) ⟨(Dk b (64*k),b.getD k 0),q.1,q.2,t.symm⟩ (AC [(26,.nm 26)] rfl rfl ?_ ?_) (λy=>?_)
  .first|exact eN|refine eM ?_
   try rfl
  .first|exact eN|refine eM ?_
   try rfl
  obtain⟨⟨o,w⟩,l,m,c⟩:=y;simp only at l m c ⊢;have A:o.length<=64*(k+1):=by
   have:=p7 List.length c;rw[YT]at this;omega
  repeat'(first|exact trivial|apply eS rfl|apply AB|refine rX i ?_ ?_|refine rC ?_ ?_<;>intro a<;>try(cases a;done))
  .have f:w≠0:=a;have j:=c7 w.toNat oa oa;have x:Lib.ctz 64 w.toNat<64:=by
    have:Lib.ctz 64 w.toNat∈Xh w.toNat:=by rw[j];simp
    exact gO.1 (tO.1 this).1
   simp only[AN];omega
  .have f:w≠0:=a;omega
  .have f:w≠0:=a;have j:=c7 w.toNat oa oa;have g:=oE l m f;have v:=zA (show w.toNat≠0 by omega);refine⟨⟨(o++[((64*k+Lib.ctz 64 w.toNat:Nat):Int)],A4 .and .u64 w (w-1)),?_,?_,?_⟩,?_,AC [(26,.nm 26)] rfl rfl ?_ ?_⟩
   .show 0<=A4 .and .u64 w (w-1);rw[g];omega
   .show A4 .and .u64 w (w-1)<1024;rw[g];omega
   .show (o++[((64*k+Lib.ctz 64 w.toNat:Nat):Int)])++((Xh (A4 .and .u64 w (w-1)).toNat).map λr=>((64*k+r:Nat):Int))=_;rw[g,AA4,<-c,j,oR,oN];rfl
   .show (A4 .and .u64 w (w-1)).toNat<w.toNat;rw[g];omega
   .first|exact eN|refine eM ?_
    try rfl
   first|exact eN|refine eM ?_
   try rfl
  .exact eV
  have f:w=0:=by simpa using a
  subst f;have c:o=Dk b (64*(k+1)):=by
   rw[<-c];show o=o++List.map _ (Xh 0);rw[show Xh 0=[] by decide];simp
  subst c;refine⟨⟨k+1,e⟩,by simp only;omega,AC [(26,.nm 26)] rfl rfl ?_ ?_⟩
  .first|exact eN|refine eM ?_
  first|exact eN|refine eM ?_
 have e:k=b.length:=jM s (NO.1 a);subst e;refine DH [26] ?_;exact fI i [.tmp 2] (by unfold B8;exact eR)
end
section
def Pm (w:Int) (j:Nat):Int:=IntKind.u8.wrap (Cj .u64 w (8*j:Nat))
def Li (w:Int) (n:Nat):List Int:=(List.range n).map (Pm w)
def Iv (b:List Int):List Int:=b.flatMap λw=>Li w 8
theorem iB (w:Int) (n:Nat):Li w (n+1)=Li w n++[Pm w n]:=by
 unfold Li;rw[AA0,AA7];rfl
theorem iC {b:List Int} {k:Nat} (h:k<b.length):Iv (b.take (k+1))=Iv (b.take k)++Li (b.getD k 0) 8:=by
 unfold Iv;rw[Ai b 0 h,List.flatMap_append];simp
theorem Ky (b:List Int):(Iv b).length=8*b.length:=by
 unfold Iv;induction b with
 | nil=>rfl
 | cons x p a=>rw[ABC,YT,a];simp[Li];omega
def dS:Spec:={ ins:=[BZ],pre:=λ(b,_)=>List.length b<=1000/\Ei b,out:=λ(b,_)=>[.p .str (GU (Iv b))] }
attribute [local go_sem] dS
theorem uX:Ap Tryz.prog 77 dS:=by
 refine fK [0,2,3,5,6,11,12,13,14,18] Tryz.func77 Tryz.ntmps77 AH ?_;rintro w0 O0 ⟨b,u⟩ c-⟨m,i⟩;have i:Ei b:=i;have m:List.length b<=1000:=m;simp only[dS,AP]
 (apply eS rfl;refine rX c ?_ ?_;(next=>first|exact trivial|exact CC))
 apply eS rfl;refine cP 3 c ?_ ?_
 .exact eV
 refine A1o c ?_ ?_ ?_
 .omega
 .show (8*(b.length:Int)).toNat*1<=AN;simp only[AN];omega
 refine rL c trivial ?_;repeat'(first|exact trivial|apply eS rfl|apply AB|refine rX c ?_ ?_|refine rC ?_ ?_<;>intro a<;>try(cases a;done))
 refine AJ (ι:={k:Nat//k<=b.length}) (λk=>⟨[(3,.sr 10 (.int .u8) 0 (Iv (b.take k.1)).length),(11,.p BZ b),(12,.p (.int .i64) (b.length:Int)),(13,.p (.int .i64) (k.1:Int))],[(10,.arr 5 (.int .u8) (Iv (b.take k.1)))]⟩) (λk=>b.length-k.1) ⟨0,BY _⟩ (AC [(10,.nm 10)] rfl rfl ?_ ?_) (λk=>?_)
 .first|exact eN|refine eM ?_
  try rfl
 .first|exact eN|refine eM ?_
  try rfl
 obtain⟨k,r⟩:=k;have s:=Ky (b.take k);have t:(b.take k).length<=k:=AA6 k b;have f:=λh:k<b.length=>iC h;simp only;repeat'(first|exact trivial|apply eS rfl|apply AB|refine rX c ?_ ?_|refine rC ?_ ?_<;>intro a<;>try(cases a;done))
 .exact a
 .have o:=i _ (AL (d:=(0:Int)) (An.1 a:k<b.length));have e:k<b.length:=An.1 a;replace f:=f e;generalize List.getD b k 0=w at *;have n:=Je o;refine AJ (ι:={j:Nat//j<=8}) (λj=>⟨[(3,.sr 10 (.int .u8) 0 (Iv (b.take k)++Li w j.1).length),(5,.p Se w),(6,.p (.int .i64) ((8*j.1:Nat):Int)),(11,.p BZ b),(12,.p (.int .i64) (b.length:Int)),(13,.p (.int .i64) (k:Int))],[(10,.arr 5 (.int .u8) (Iv (b.take k)++Li w j.1))]⟩) (λj=>8-j.1) ⟨0,by decide⟩ (AC [(10,.nm 10)] rfl rfl ?_ ?_) (λj=>?_)
  .first|exact eN|refine eM ?_
   exact(AAb _).symm
  .first|exact eN|refine eM ?_
   rfl
  obtain⟨j,q⟩:=j;have l:=iB w j;have v:(Li w j).length=j:=by simp[Li]
  simp only
  (apply eS rfl;refine rX c ?_ ?_;(next=>first|exact trivial|exact CC))
  apply eS rfl;refine rC ?_ ?_<;>intro a
  .apply eS rfl;refine cP 4 c ?_ ?_
   .exact⟨(n _).1,AAE (n _).2 (by have:=o.2;omega)⟩
   refine A1n c Tryz.underlying65 Tryz.underlying5 ?_;refine rL c ?_ ?_
   .simp only[AN];omega
   repeat'(first|exact trivial|apply eS rfl|apply AB|refine rX c ?_ ?_|refine rC ?_ ?_<;>intro a<;>try(cases a;done))
   .omega
   have g:j<8:=by omega
   refine⟨⟨j+1,g⟩,by simp only;omega,AC [(10,.nm 10)] rfl rfl ?_ ?_⟩
   .simp only;rw[l,<-oN];first|exact eN|refine eM ?_
    try rfl
   simp only;rw[l,<-oN];first|exact eN|refine eM ?_
   exact(show ((8*j:Nat):Int)+8=((8*(j+1):Nat):Int) by omega)
  have g:j=8:=by omega
  subst g;repeat'(first|exact trivial|apply eS rfl|apply AB|refine rX c ?_ ?_|refine rC ?_ ?_<;>intro a<;>try(cases a;done))
  .exact eV
  refine⟨⟨k+1,e⟩,by simp only;omega,AC [(10,.nm 10)] rfl rfl ?_ ?_⟩
  .simp only;rw[f];first|exact eN|refine eM ?_
  simp only;rw[f];first|exact eN|refine eM ?_
 have e:b.take k=b:=By (NO.1 a);rw[e];refine DH [10] ?_;repeat'(first|exact trivial|apply eS rfl|apply AB|refine rX c ?_ ?_|refine rC ?_ ?_<;>intro a<;>try(cases a;done))
 exact fI c [.tmp 2]
theorem NW {w:Int} (c:0<=w) (d:w<1024):Pm w 0=w % 256/\Pm w 1=w / 256:=by
 have a:Cj .u64 w ((8*0:Nat):Int)=w:=by
  show w.fdiv (2 ^ 0)=w;simp
 have b:Cj .u64 w ((8*1:Nat):Int)=w / 256:=by
  show w.fdiv 256=w / 256;rw[ABl _ di]
 unfold Pm;rw[a,b];constructor
 .show Int.emod w 256=_;rfl
 show Int.emod (w / 256) 256=_;rw[show Int.emod (w / 256) 256=(w / 256) % 256 from rfl];omega
theorem oH (w:Int) (j:Nat):0<=Pm w j/\Pm w j<256:=by
 have:=Hj .u8 (Cj .u64 w (8*j:Nat));unfold Pm;have h:(0:Int)<=IntKind.u8.wrap (Cj .u64 w (8*j:Nat))/\IntKind.u8.wrap (Cj .u64 w (8*j:Nat))<=255:=by
  simpa[Gm,IntKind.min,IntKind.max,IntKind.signed,IntKind.bits] using this
 omega
theorem iD {l m:List Int} (b:∀x∈l,0<=x/\x<256) (c:∀x∈m,0<=x/\x<256) (h:GU l=GU m):l=m:=by
 unfold GU at h;injection h with h
 replace h:=p7 Array.toList h;simp only at h;induction l generalizing m with
 | nil =>
  cases m with
  | nil=>rfl
  | cons y m=>simp at h
 | cons x l g =>
  cases m with
  | nil=>simp at h
  | cons y m =>
   simp only[oR,AAY]at h;obtain⟨d,f⟩:=h;have i:=b x sa;have j:=c y sa;have e:x=y:=by
    have:=p7 UInt8.toNat d;rw[ACm,ACm]at this;omega
   rw[e,g (λz a=>b z (by simp[a])) (λz a=>c z (by simp[a])) f]
theorem X0:∀ {a b:List Int},Kx a->Kx b->Iv a=Iv b->a=b
 | [],[],_,_,_=>rfl
 | [],y :: b,_,_,h=>by
  have:=p7 List.length h;rw[Ky,Ky]at this;simp at this
 | x :: a,[],_,_,h=>by
  have:=p7 List.length h;rw[Ky,Ky]at this;simp at this
 | x :: a,y :: b,i,j,h=>by
  have c:=i x sa;have d:=j y sa;have h:Li x 8++Iv a=Li y 8++Iv b:=h;have f:=List.append_inj h (by simp[Li]);have k:Pm x 0=Pm y 0:=by
   have:=p7 (λl=>l.getD 0 0) f.1;simpa[Li] using this
  have m:Pm x 1=Pm y 1:=by
   have:=p7 (λl=>l.getD 1 0) f.1;simpa[Li] using this
  rw[(NW c.1 c.2).1,(NW d.1 d.2).1]at k;rw[(NW c.1 c.2).2,(NW d.1 d.2).2]at m;have e:x=y:=by omega
  rw[e,X0 (λw g=>i w (by simp[g])) (λw g=>j w (by simp[g])) f.2]
theorem X2 (b:List Int):∀x∈Iv b,0<=x/\x<256:=by
 intro x a;unfold Iv Li at a;obtain⟨w,-,h⟩:=List.mem_flatMap.1 a;obtain⟨j,-,rfl⟩:=To.1 h;exact oH w j
theorem uY {a b:List Int} (c:Kx a) (d:Kx b) (h:GU (Iv a)=GU (Iv b)):a=b:=X0 c d (iD (X2 a) (X2 b) h)
end
section
open Go Go.RowKit
theorem Sj (x s:List UInt8):(x==s)=decide (x=s):=by
 by_cases h:x=s
 .rw[h];simp
 simp[h]
theorem UB (s x:List UInt8) (B:Nat) (W:World) (a:W.cell? ⟨B,0,none⟩=some (Go.Proofs.encStr s)) :
  FnGives Tryz.prog 124 #[.pointer (some ⟨B,0,none⟩)] #[Go.Proofs.encStr x] (.bool (decide (x=s))) W:=by
 show Calls Tryz.prog 124 #[.string ⟨x.toArray⟩,.pointer (some ⟨B,0,none⟩)] W _;have a:W.cell? ⟨B,0,none⟩=some (.string ⟨s.toArray⟩):=a
 go_enter Tryz.func124,Tryz.ntmps124
 go_wp2
 all_goals(go_ret;exact⟨by simp_all<;>exact Sj x s,0,rfl⟩)
def J0 (l:List ByteArray) (s:ByteArray):List ByteArray:=l.filter λx=>!decide (x.data.toList=s.data.toList)
def Pn (l:List ByteArray) (s:ByteArray):List ByteArray:=J0 l s++List.replicate (l.length-(J0 l s).length) ByteArray.empty
theorem X3 (l:List ByteArray) (s:ByteArray):(J0 l s).length<=l.length:=AA2 _ _
theorem oI (l:List ByteArray) (s:ByteArray):(Pn l s).length=l.length:=by
 have:=X3 l s;simp only[Pn,YT,AC3];omega
theorem iE (l:List ByteArray) (s:ByteArray):Cg (J0 l s)=(Cg l).filter λx=>!decide (x=s.data.toList):=by
 unfold Cg J0;rw[List.filter_map];rfl
theorem zB (p:List ByteArray) (k:Nat) (s:ByteArray) (et A:TypeId) (bi:0<k) (ao:k<=p.length):Aj Tryz.prog 123 [.sr 1000000 .str 0 k,.clo 124 [1]] [(1000000,.arr et .str p),(1,.box A false [.p .str s])] [1000000,1]
  (λres ba=>res=.sr 1000000 .str 0 (J0 (p.take k) s).length/\ba=[(1000000,.arr et .str (Pn (p.take k) s++p.drop k)),(1,.box A false [.p .str s])]):=by
 refine⟨⟨_,Tryz.func123,by kernel_rfl,by kernel_rfl⟩,λw K O0 ρ bm ag bh hG F ax=>?_⟩;have u:(p.take k).length=k:=by rw[OS];omega
 obtain⟨v,r,rfl,aa,bl,bb,rfl,H,G⟩:=ax;have G:bb=[]:=G;subst G;obtain⟨-,z⟩:=aa;obtain⟨rfl,aj⟩:=H;obtain⟨-,B,t⟩:=aj 1 sa;have t:ρ 1=_:=t;obtain⟨-,bc,cs,f,D,al⟩:=F.obj 1 _ rfl;rw[t]at f;injection f with f
 injection f with f
 injection f with f
 subst f;have D:w.heap[B]?=some (.cells cs.toArray A (0,0)):=D;obtain⟨c1,c2,rfl,ah,I⟩:=al;have I:c2=[]:=I;subst I;obtain⟨rfl,bk⟩:c1=[.string s]/\ByteArray.size s<=AN:=ah;have O:w.cell? ⟨B,0,none⟩=some (Go.Proofs.encStr s.data.toList):=by
  rw[Xy];simp[World.cell?,D]
 have N:=Au D;have ar:=F.obj 1000000 _ rfl;have z:CV (plc (ρ 1000000)) 1 0 k v:=z;have ak:Ya 124 ([1].map (vw w O0 ⟨[],[(1000000,.arr et .str p),(1,.box A false [.p .str s])]⟩ ρ).ρ)=.func (.func 124) #[] #[.pointer (some ⟨B,0,none⟩)]:=by
  show Ya 124 [ρ 1]=_;rw[t];rfl
 rw[ak];have X:∀args w,(callFunc 124 args).run Tryz.prog w=.ok (.enter 124 args) w:=enters_of Tryz.func124 (by kernel_rfl) rfl;have aw:PredAt Tryz.prog 124 #[.pointer (some ⟨B,0,none⟩)] Go.Proofs.encStr (λx=>decide (x=s.data.toList)) w :=
  λW x d=>UB s.data.toList x B W ((d.cell (p:=⟨B,0,none⟩) N).trans O)
 rcases Vr ar with ⟨y,ap⟩|⟨g,cap,T,y,P,H,ab,ad,S,J,ae⟩
 .subst ap;simp at ao;omega
 have bj:=z;rw[y]at z;have ay:v=.slice (some ⟨g,0,none⟩) k cap:=by
  obtain⟨a,m,c,L,_,_,bd,be,rfl,_,Z,_⟩:=z;obtain⟨rfl,rfl⟩:=Z rfl;have L:Value.slice (some ⟨g,0,none⟩) p.length cap=_:=L;injection L with U bg V
  rw[<-U,<-V];simp
 subst ay;have aq:B≠g:=λe=>by
  have:=F.dist 1 1000000 g ⟨_,rfl⟩ ⟨_,rfl⟩ (by rw[t,e];exact xK.2 rfl) (by rw[y];exact G3.2 rfl);cases this
 generalize R:p.take k=l at *;have af:Go.Sort.Holds Go.Proofs.encStr w g 0 (Cg l).toArray:=λj o=>by
  have o:j<l.length:=by simpa using o
  have:=ae j (by simp only[AAD,Of];omega);rw[HS (by omega:j<p.length)]at this;rw[HS o];have e:l[j]=p[j]:=by subst R;simp
  rw[e];exact this
 have au:PredOver Tryz.prog 124 #[.pointer (some ⟨B,0,none⟩)] Go.Proofs.encStr (λx=>decide (x=s.data.toList)) g 0 (Cg l).toArray.size w :=
  λn os bf x _=>UB s.data.toList x B _ (by
   unfold sortWorld;rw[Go.Sort.cell?_grow _ _ _ (by show B<(Go.Sort.putRow _ _ _ _ _).heap.size;rw[Go.Sort.size_putRow];exact N),Go.Sort.cell?_putRow_other _ _ g _ _ _ (Or.inl aq)];exact O)
 have E:=AnyE.slices_DeleteFunc n6 Go.Proofs.encStr (λ_=>rfl) (λx=>decide (x=s.data.toList)) 124 #[.pointer (some ⟨B,0,none⟩)] X [] (λw=>Tryz.zeroValue9 w) g 0 cap (Cg l).toArray w aw au af (by simp only[AAD,Of,u];simp only[AN]at S;omega) (by simp only[AAD,Of,u];omega);simp only[AAD,Of,u]at E;rw[<-iE]at E;have av:Cg (J0 l s)++List.replicate (k-(Cg (J0 l s)).length) []=Cg (Pn l s):=by
  simp only[Pn,Cg,AA7,List.map_replicate,Of,u];rfl
 rw[av,Of]at E;refine E.mono ?_;rintro e w' ⟨rfl,q,az⟩;have M:(Pn l s).length=k:=(oI l s).trans u;have am:w'=Go.Sort.grow (Go.Sort.putRow Go.Proofs.encStr (Go.Sort.ahead w q) g 0 (Cg (Pn l s++p.drop k)).toArray) #[]:=by
  rw[az,Go.Sort.grow_empty];exact Go.Sort.mapBlock_congr _ g _ _ λc e Y h=>by
   have h:w.heap[g]?=some (.cells c e Y):=h;rw[show w.heap[g]?=_ from P]at h;injection h with h
   injection h with h
   subst h;apply Array.ext_getElem?;intro i;simp only[Go.Sort.putCells,Array.getElem?_mapIdx,BY,true_and,AAO,AAD,Of,AC2,YT,M,AAM];rcases ai:T[i]? with _|v
   .rfl
   simp only[AB7];by_cases Q:i<k
   .rw[At Q,At oa,HS oa,HS (by simp;omega),List.getElem_append_left]
   rw[As Q];by_cases an:i<p.length
   .have C:=(J i p[i] (DO an)).1;rw[ai]at C;injection C with C
    rw[At oa,HS (by simp;omega),C,List.getElem_append_right oa];simp only[ACB,M]
    congr 3
    omega
   rw[As oa]
 refine⟨_,rfl,Oa (l':=Pn l s++p.drop k) (res:=.sr 1000000 .str 0 (J0 l s).length) F ag rfl y P H ab ad S (by rw[YT,M,AAM];omega) (λb d=>?_) (q:=q) am ⟨rfl,rfl⟩ ⟨⟨_,rfl⟩,?_⟩⟩
 .rcases aT.1 d with d|d
  .rcases aT.1 d with d|d
   .obtain⟨j,o⟩:=AB0 (AAv (R▸(tO.1 d).1:b∈p.take k));exact(J j b o).2
   rw[List.eq_of_mem_replicate d];exact BY _
  obtain⟨j,o⟩:=AB0 (ABf d);exact(J j b o).2
 show CV (plc (ρ 1000000)) 1 0 (J0 l s).length _;rw[y];have:=X3 l s;exact⟨_,_,_,rfl,BY _,by omega,_,_,by simp,by omega,λ_=>⟨rfl,rfl⟩,λ_=>by simp[Gn]⟩
end
section
attribute [local instance] Classical.propDecidable
theorem BF {l:List ByteArray} {s:ByteArray}:AR l s=true↔s∈l:=by
 unfold AR;rw[aS];constructor
 .rintro⟨x,a,h⟩;rw[Bg]at h;exact h▸a
 intro h;exact⟨s,h,Bg.2 rfl⟩
theorem R2 {l:List ByteArray} {s:ByteArray}:AR l s=false↔s∉l:=by
 rw[<-BF,Bool.not_eq_true]
theorem R3 {l:List ByteArray} {s x:ByteArray}:x∈J0 l s↔x∈l/\x≠s:=by
 unfold J0;rw[tO];refine and_congr_right λ_=>?_;rw[OF,IF,ACO,not_congr];constructor
 .intro h;cases x;cases s
  congr 1
  exact ABL.1 h
 rintro rfl;rfl
abbrev CL:=List (ByteArray×Int)
abbrev CQ:Ty:=.int .i64
def HT (x:AD) (o:List ByteArray):Nat:=x.2.1.countP λs=>!AR o s
def Sk (d:List AD) (k:Nat):CL:=(d.take k).foldl (λm x=>Bm .str CQ x.1 (x.2.1.length:Int) m) []
def Gk (x:AD) (m:It) (l:List ByteArray):It:=l.foldl (λm s=>Bm .str Ad s ((AQ .str Ad s m).getD []++[x.1]) m) m
def Kz (d:List AD) (k:Nat):It:=(d.take k).foldl (λm x=>Gk x m x.2.1) []
def K0 (d:List AD) (k:Nat):List ByteArray:=((d.take k).filter λx=>x.2.1.length==0).map (·.1)
theorem UC (d:List AD) {k:Nat} (h:k<d.length):Sk d (k+1)=Bm .str CQ (d.getD k d0).1 ((d.getD k d0).2.1.length:Int) (Sk d k):=by
 unfold Sk;rw[Ai d d0 h,AAk];rfl
theorem UD (d:List AD) {k:Nat} (h:k<d.length):Kz d (k+1)=Gk (d.getD k d0) (Kz d k) (d.getD k d0).2.1:=by
 unfold Kz;rw[Ai d d0 h,AAk];rfl
theorem LZ (x:AD) (m:It) (l:List ByteArray) {i:Nat} (h:i<l.length):Gk x m (l.take (i+1))=Bm .str Ad (l.getD i ByteArray.empty) ((AQ .str Ad (l.getD i ByteArray.empty) (Gk x m (l.take i))).getD []++[x.1]) (Gk x m (l.take i)):=by
 unfold Gk;rw[Ai l ByteArray.empty h,AAk];rfl
theorem iG (d:List AD) {k:Nat} (h:k<d.length):K0 d (k+1)=K0 d k++if (d.getD k d0).2.1.length=0 then [(d.getD k d0).1] else []:=by
 unfold K0;rw[Ai d d0 h,AAm,AA7]
 congr 1
 rw[AAa,AAC];by_cases a:(d.getD k d0).2.1.length=0
 .rw[At a,At (by rw[a];rfl)];rfl
 rw[As a,As (by simpa using a)];rfl
theorem Iw (x:AD) (t:ByteArray):∀(l:List ByteArray) (m:It),l.Nodup->(AQ .str Ad t (Gk x m l)).getD []=(AQ .str Ad t m).getD []++if t∈l then [x.1] else []
 | [],m,_=>by simp[Gk]
 | s :: l,m,h=>by
  rw[AAn]at h;show (AQ .str Ad t (Gk x (Bm .str Ad s ((AQ .str Ad s m).getD []++[x.1]) m) l)).getD []=_;rw[Iw x t l _ h.2,Bp];by_cases hs:t=s
  .subst hs;rw[At rfl,As h.1,At sa];simp
  rw[As hs];by_cases a:t∈l
  .rw[At a,At (by simp[a])]
  rw[As a,As (by simp[hs,a])]
theorem Oc {d:List AD} (b:∀x∈d,x.2.1.Nodup) (t:ByteArray):∀k,k<=d.length->(AQ .str Ad t (Kz d k)).getD []=((d.take k).filter λx=>AR x.2.1 t).map (·.1)
 | 0,_=>by simp[Kz,AQ]
 | k+1,h=>by
  rw[UD d h,Iw _ _ _ _ (b _ (AL h)),Oc b t k oa,Ai d d0 h,AAm,AA7]
  congr 1
  rw[AAa,AAC];by_cases a:t∈(d.getD k d0).2.1
  .rw[At a,At (BF.2 a)];rfl
  rw[As a,As (λe=>a (BF.1 e))];rfl
def Ft (d:List AD) (t:ByteArray):List ByteArray:=(d.filter λx=>AR x.2.1 t).map (·.1)
theorem iH {d:List AD} (e:A5 d=0) {x:AD} (f:x∈d):AQ .str CQ x.1 (Sk d d.length)=some (x.2.1.length:Int):=by
 obtain⟨j,b,rfl⟩:=BJ d0 f;have key:∀k,k<=d.length->j<k->AQ .str CQ (d.getD j d0).1 (Sk d k)=some ((d.getD j d0).2.1.length:Int):=by
  intro k;induction k with
  | zero=>intro _ h;omega
  | succ k g =>
   intro h c;rw[UC d h,Bp];by_cases hs:(d.getD j d0).1=(d.getD k d0).1
   .rw[At hs,FT e (AL b) (AL h) (Bg.2 hs)]
   rw[As hs];refine g oa ?_;rcases ABb.1 c with a|a
   .exact a
   subst a;exact absurd rfl hs
 exact key d.length (If _) b
theorem GI {d:List AD} (b:A5 d=0):(d.map (·.1)).Nodup:=by
 rw[List.Nodup,AB3,iN];intro i j hi a h e;have f:=HJ b hi;have g:=HJ b a;have c:(d.getD i d0).1=(d.getD j d0).1:=by simpa[AS,hi,a] using e
 rw[c,g]at f;omega
theorem Dt {l l':List ByteArray} (h:l.Nodup) (hs:∀x∈l,x∈l'):l.length<=l'.length:=by
 have key:∀ {α:Type} [DecidableEq α] {l l':List α},l.Nodup->(∀x∈l,x∈l')->l.length<=l'.length:=by
  intro α _ l;induction l with
  | nil=>intro _ _ _;simp
  | cons x l j =>
   intro l' f h;obtain⟨i,g⟩:=AAn.1 f;have c:=h x sa;have:=j (l':=l'.erase x) g (λy d=>(ABE (λe:y=x=>i (by rw[<-e];exact d))).2 (h y (by simp[d])));rw[ABO c]at this;have:=AAQ c;simp only[iF];omega
 exact @key ByteArray (λa b=>Classical.propDecidable (a=b)) l l' h hs
theorem X4 {l l':List ByteArray} (h:l.Nodup) (hs:∀x∈l,x∈l') (d:l'.length<=l.length) {x:ByteArray} (c:x∈l'):x∈l:=by
 refine IN λb=>?_;have:=Dt (l:=x :: l) (l':=l') (AAn.2 ⟨b,h⟩) (λy a=>by
  rcases Is.1 a with rfl|a
  .exact c
  exact hs y a)
 simp at this;omega
structure Zy (d:List AD) (o:CL) (r out:List ByteArray):Prop where
 nd:(out++r).Nodup
 decl:∀s∈out++r,∃x∈d,x.1=s
 opn:∀x∈d,AQ .str CQ x.1 o=some (HT x out:Int)
 rdy:∀x∈d,x.1∈out++r↔HT x out=0
 pl:∀j,j<out.length->∀x∈d,x.1=out.getD j ByteArray.empty->∀s∈x.2.1,s∈out.take j
noncomputable def R4 (x:AD) (out row:List ByteArray) (a:ByteArray):Nat:=if x.1∈row then HT x (out++[a]) else HT x out
structure Vu (d:List AD) (o:CL) (r out:List ByteArray) (nx:ByteArray) (i:Nat):Prop where
 nd:(out++[nx]++r).Nodup
 decl:∀s∈out++[nx]++r,∃x∈d,x.1=s
 opn:∀x∈d,AQ .str CQ x.1 o=some (R4 x out ((Ft d nx).take i) nx:Int)
 rdy:∀x∈d,x.1∈out++[nx]++r↔R4 x out ((Ft d nx).take i) nx=0
 pl:∀j,j<(out++[nx]).length->∀x∈d,x.1=(out++[nx]).getD j ByteArray.empty->∀s∈x.2.1,s∈(out++[nx]).take j
theorem X5 (x:AD):HT x []=x.2.1.length:=by
 unfold HT;rw[List.countP_eq_length];intro a _;rfl
theorem zC {d:List AD} (e:A5 d=0):Zy d (Sk d d.length) (K0 d d.length) []:=by
 have f:∀s,s∈K0 d d.length↔∃x∈d,x.2.1.length=0/\x.1=s:=λs=>by
  unfold K0;rw[TO];simp[and_assoc]
 refine⟨?_,λs hs=>?_,λx a=>?_,λx a=>?_,λj i=>by simp at i⟩
 .rw[AAK];unfold K0;rw[TO];exact((AAT).map _).nodup (GI e)
 .rw[AAK,f]at hs;obtain⟨x,b,_,c⟩:=hs;exact⟨x,b,c⟩
 .rw[iH e a,X5]
 rw[AAK,f,X5];constructor
 .rintro⟨y,b,g,c⟩;rw[<-FT e b a (Bg.2 c)];exact g
 intro h;exact⟨x,a,h,rfl⟩
theorem Zy.lt {d:List AD} {o:CL} {r out:List ByteArray} (h:Zy d o r out) (b:r≠[]):out.length<d.length:=by
 have a:=Dt h.nd (l':=d.map (·.1)) λs hs=>by
  obtain⟨x,c,e⟩:=h.decl s hs;exact To.2 ⟨x,c,e⟩
 rw[YT,Of]at a;have:0<r.length:=ABM.2 b;omega
theorem R5 {x:AD} {o:List ByteArray}:HT x o=0↔∀s∈x.2.1,s∈o:=by
 unfold HT;rw[List.countP_eq_zero];refine ACC λs=>ACC λ_=>?_;rw[<-BF];simp
theorem X6 {x:AD} {o:List ByteArray} {b:ByteArray} (f:x.2.1.Nodup) (h:b∉o):HT x o=HT x (o++[b])+if b∈x.2.1 then 1 else 0:=by
 unfold HT;generalize x.2.1=l at *;induction l with
 | nil=>simp
 | cons a l g =>
  rw[AAn]at f;have g:=g f.2;rw[ABv,ABv,g];by_cases d:a=b
  .subst d;rw[As f.1,R2.2 h,BF.2 sa];simp
  have e:AR (o++[b]) a=AR o a:=by
   rw[AAo,BF,BF];simp[d]
  rw[e];by_cases c:b∈l
  .rw[At c,At (AAp _ c)];omega
  rw[As c,As (λe=>(Is.1 e).elim (λe=>d e.symm) c)];omega
theorem A0Q {d:List AD} (y:A5 d=0) {o:CL} {r out:List ByteArray} (h:Zy d o r out) {c:ByteArray} (g:c∈r):Vu d o (J0 r c) out c 0:=by
 obtain⟨n,p,k⟩:=wS.1 h.nd;have w:c∉out:=λe=>k c e c g rfl;have l:∀s,s∈out++[c]++J0 r c↔s∈out++r:=λs=>by
  rw[aT,aT,aT,R3,nO];constructor
  .rintro ((h|rfl)|h)
   .exact .inl h
   .exact .inr g
   exact .inr h.1
  rintro (h|h)
  .exact .inl (.inl h)
  by_cases e:s=c
  .exact .inl (.inr e)
  exact .inr ⟨h,e⟩
 refine⟨?_,λs hs=>h.decl s ((l s).1 hs),λx g=>?_,λx g=>?_,λj t x m e s hs=>?_⟩
 .rw[oN];refine wS.2 ⟨n,wS.2 ⟨by simp,p.sublist AAT,λa i b f e=>?_⟩,λa i b f e=>?_⟩
  .rw[nO]at i;exact(R3.1 f).2 (e▸i)
  subst e;rcases aT.1 f with f|f
  .rw[nO]at f;exact w (f▸i)
  exact k a i a (R3.1 f).1 rfl
 .rw[h.opn x g];simp[R4]
 .rw[l,h.rdy x g];simp[R4]
 by_cases u:j<out.length
 .have e:x.1=out.getD j ByteArray.empty:=by rw[e];grind
  have:=h.pl j u x m e s hs;rw[List.take_append_of_le_length oa];exact this
 have v:j=out.length:=by simp at t;omega
 subst v;have e:x.1=c:=by rw[e];simp
 have q:=(h.rdy x m).1 (by rw[e];simp[g]);have:=R5.1 q s hs;simpa using this
theorem NX {d:List AD} {t s:ByteArray}:s∈Ft d t↔∃x∈d,t∈x.2.1/\x.1=s:=by
 unfold Ft;simp[BF,and_assoc]
theorem Zz {d:List AD} (a:A5 d=0) (t:ByteArray):(Ft d t).Nodup:=((AAT).map _).nodup (GI a)
theorem El {l:List ByteArray} {i:Nat} (hi:i<l.length) {s:ByteArray}:s∈l.take (i+1)↔s∈l.take i\/s=l.getD i ByteArray.empty:=by
 rw[Ai l ByteArray.empty hi];simp
theorem iI {l:List ByteArray} (h:l.Nodup) {i:Nat} (hi:i<l.length):l.getD i ByteArray.empty∉l.take i:=by
 intro b;obtain⟨j,c,e⟩:=AAS.1 b;have a:l[j]=l[i]:=by rw[e];simp[AS,hi]
 have:=(ABK h).1 a;omega
theorem Vu.at {d:List AD} {o:CL} {r out:List ByteArray} {a:ByteArray} {i:Nat} (l:A5 d=0) (h:Vu d o r out a i) (hi:i<(Ft d a).length):∃x∈d,x.1=(Ft d a).getD i ByteArray.empty/\a∈x.2.1/\AQ .str CQ ((Ft d a).getD i ByteArray.empty) o=some (HT x out:Int)/\x.1∉out++[a]++r:=by
 obtain⟨x,b,f,c⟩:=NX.1 (AL hi:(Ft d a).getD i ByteArray.empty∈Ft d a);have j:=iI (Zz l a) hi;have g:R4 x out ((Ft d a).take i) a=HT x out:=by
  unfold R4;rw[As (c▸j)]
 have m:a∉out:=λe=>by
  have:=(wS.1 (wS.1 h.nd).1).2.2 a e a sa;exact this rfl
 refine⟨x,b,c,f,?_,λk=>?_⟩
 .rw[<-c,h.opn x b,g]
 have:=(h.rdy x b).1 k;rw[g]at this;exact m (R5.1 this a f)
theorem A0R {d:List AD} (u:A5 d=0) (C:∀x∈d,x.2.1.Nodup) {o:CL} {r out:List ByteArray} {c:ByteArray} {i:Nat} (h:Vu d o r out c i) (hi:i<(Ft d c).length) {s:ByteArray} (hs:s=(Ft d c).getD i ByteArray.empty) {v:Int} (F:AQ .str CQ s o=some v) :
  Vu d (Bm .str CQ s (v-1) o) (if v-1=0 then r++[s] else r) out c (i+1):=by
 obtain⟨x,n,l,H,k,A⟩:=h.at u hi;have D:c∉out:=λe=>by
  have:=(wS.1 (wS.1 h.nd).1).2.2 c e c sa;exact this rfl
 rw[<-hs]at l k;rw[F]at k;injection k with k
 have z:=X6 (C x n) D;rw[At H]at z;have G:v-1=(HT x (out++[c]):Int):=by rw[k,z];omega
 have w:∀y∈d,R4 y out ((Ft d c).take (i+1)) c=if y.1=s then HT x (out++[c]) else R4 y out ((Ft d c).take i) c:=λy j=>by
  unfold R4;by_cases f:y.1=s
  .have:y=x:=FT u j n (Bg.2 (f.trans l.symm));subst this;rw[At f,At ((El hi).2 (.inr (f.trans hs)))]
  rw[As f];by_cases m:y.1∈(Ft d c).take i
  .rw[At m,At ((El hi).2 (.inl m))]
  rw[As m,As (λe=>((El hi).1 e).elim m λe=>f (e.trans hs.symm))]
 have q:∀t,t∈out++[c]++(if v-1=0 then r++[s] else r)↔t∈out++[c]++r\/(v-1=0/\t=s):=λt=>by
  split
  .rename_i e;simp[e,or_assoc]
  rename_i e;simp[e]
 refine⟨?_,λt E=>?_,λy j=>?_,λy j=>?_,h.pl⟩
 .split
  .rw[<-oN];refine wS.2 ⟨h.nd,by simp,λa B b p e=>?_⟩;rw[nO]at p;subst e;exact A (by rw[l,<-p];exact B)
  exact h.nd
 .rcases (q t).1 E with g|⟨_,g⟩
  .exact h.decl t g
  exact⟨x,n,l.trans g.symm⟩
 .rw[Bp,w y j];by_cases f:y.1=s
  .rw[At f,At f,G]
  rw[As f,As f,h.opn y j]
 rw[q,w y j];by_cases f:y.1=s
 .rw[At f];have:y.1∉out++[c]++r:=by rw[f,<-l];exact A
  constructor
  .rintro (g|⟨g,_⟩)
   .exact absurd g this
   omega
  intro g;exact .inr ⟨by omega,f⟩
 rw[As f,<-h.rdy y j];constructor
 .rintro (g|⟨_,g⟩)
  .exact g
  exact absurd g f
 exact .inl
theorem A0S {d:List AD} (i:∀x∈d,x.2.1.Nodup) {o:CL} {r out:List ByteArray} {a:ByteArray} (h:Vu d o r out a (Ft d a).length):Zy d o r (out++[a]):=by
 have j:a∉out:=λe=>by
  have:=(wS.1 (wS.1 h.nd).1).2.2 a e a sa;exact this rfl
 have g:∀x∈d,R4 x out ((Ft d a).take (Ft d a).length) a=HT x (out++[a]):=λx b=>by
  unfold R4;rw[TO];by_cases c:x.1∈Ft d a
  .rw[At c]
  rw[As c];have f:=X6 (i x b) j;rw[As (λe=>c (NX.2 ⟨x,b,e,rfl⟩))]at f;exact f
 exact⟨h.nd,h.decl,λx b=>by rw[h.opn x b,g x b],λx b=>by rw[h.rdy x b,g x b],h.pl⟩
theorem X7 {x:AD} {o:List ByteArray}:GS x o=true↔∀s∈x.2.1,s∈o:=by
 unfold GS;rw[IS];exact ACC λs=>ACC λ_=>BF
theorem iJ {d:List AD} {o:List ByteArray} (h:∃x∈d,x.1∉o/\∀s∈x.2.1,s∈o):(GB d o).1=true:=by
 have key:∀(l:List AD) (s:Bool×ByteArray),(s.1=true\/∃x∈l,x.1∉o/\∀s∈x.2.1,s∈o)->(l.foldl (GY o) s).1=true:=by
  intro l;induction l with
  | nil =>
   rintro s (h|⟨x,h,_⟩)
   .exact h
   cases h
  | cons y l f =>
   intro s hs;rw[No];refine f _ ?_;unfold GY;split
   .rename_i e;rcases hs with h|⟨x,a,b,c⟩
    .exact .inl h
    rcases Is.1 a with rfl|a
    .rw[R2.2 b,X7.2 c]at e;cases e
    exact .inr ⟨x,a,b,c⟩
   exact .inl rfl
 exact key d _ (.inr h)
theorem A0T {d:List AD} (p:A5 d=0) {o:CL} {out:List ByteArray} (h:Zy d o [] out):out.length<d.length↔(BM d).length<d.length:=by
 have z:out.Nodup:=by simpa using h.nd
 have v:∀s∈out,s∈d.map (·.1):=λs hs=>by
  obtain⟨x,a,e⟩:=h.decl s (by simpa using hs);exact To.2 ⟨x,a,e⟩
 rw[<-Nat.not_le,<-Nat.not_le];refine not_congr ?_;constructor
 .intro k;have r:∀x∈d,x.1∈out:=λx a=>X4 z v (by simpa using k) (To.2 ⟨x,a,rfl⟩);have C:∀q,(GB d q).1=false->d.length<=q.length:=λq l=>by
   have D:∀j,j<=out.length->∀s∈out.take j,s∈q:=by
    intro j;induction j with
    | zero=>intro _ s hs;simp at hs
    | succ j c =>
     intro f s hs;rcases (El f).1 hs with b|b
     .exact c oa s b
     refine IN λu=>?_;obtain⟨x,a,e⟩:=h.decl s (by rw[b];simp;exact AL f);have:=iJ (d:=d) (o:=q) ⟨x,a,by rw[e];exact u,λt i=>c oa t (h.pl j f x a (by rw[e,b]) t i)⟩;rw[l]at this;cases this
   have g:=Dt (GI p) (l':=q) λs hs=>by
    obtain⟨x,a,e⟩:=To.1 hs;have:=D out.length (If _) x.1 (by rw[TO];exact r x a);rw[<-e];exact this
   simpa using g
  have w:∀n q,d.length<=n+q.length->d.length<=(FQ d n q).length:=by
   intro n;induction n with
   | zero=>intro q l;unfold FQ;omega
   | succ n c =>
    intro q l;unfold FQ;split
    .exact c _ (by simp;omega)
    rename_i hp;exact C q (by simpa using hp)
  exact w d.length [] sa
 intro k;have A:=OM d;have y:∀j,j<=(BM d).length->∀s∈(BM d).take j,s∈out:=by
  intro j;induction j with
  | zero=>intro _ s hs;simp at hs
  | succ j c =>
   intro f s hs;rcases (El f).1 hs with b|b
   .exact c oa s b
   obtain⟨x,a,e,-,B⟩:=A j f;have g:=(h.rdy x a).2 (R5.2 λt i=>c oa t (X7.1 B t i));rw[b,<-e];simpa using g
 have g:=Dt (GI p) (l':=out) λs hs=>by
  obtain⟨x,a,e⟩:=To.1 hs;obtain⟨t,i,m⟩:=RK k a;rw[Bg]at m;have:=y _ (If _) t (by rw[TO];exact i);rw[<-e,<-m];exact this
 simpa using g
end
section
attribute [local go_sem] minS
theorem UE {d:List AD} {l:List ByteArray}:∀(m i:Nat),i+m=l.length->(l.take i).Nodup->Lh d l i (l.drop i)=0->l.Nodup
 | 0,i,h,f,_=>by rwa [By oa]at f
 | m+1,i,h,f,c=>by
  rw[Ij d l (by omega:i<l.length)]at c;split at c
  .cases c
  split at c
  .cases c
  rename_i j;refine UE m (i+1) oa ?_ c;rw[Ai l ByteArray.empty oa];refine wS.2 ⟨f,by simp,λa k b g e=>?_⟩;rw[nO]at g;subst e;exact j (BF.2 (g▸k))
theorem NY {d:List AD} (h:C4 d=0):∀x∈d,x.2.1.Nodup:=by
 have key:∀(m k:Nat),k+m=d.length->Gi d (d.drop k)=0->∀j,k<=j->j<d.length->(d.getD j d0).2.1.Nodup:=by
  intro m;induction m with
  | zero=>intro k e _ j a f;omega
  | succ m l =>
   intro k e a j f g;rw[JO d d (by omega:k<d.length)]at a;split at a
   .rename_i b;exact absurd a b
   rename_i b;by_cases c:j=k
   .subst c;exact UE (d:=d) (d.getD j d0).2.1.length 0 oa sa (by simpa using b)
   exact l (k+1) oa a j oa g
 intro x i;obtain⟨j,c,rfl⟩:=BJ d0 i;exact key d.length 0 oa h j oa c
theorem oJ {d:List AD} (a:∀x∈d,x.2.1.Nodup) {k:Nat} (c:k<d.length) (i:Nat) (t:ByteArray):((AQ .str Ad t (Gk (d.getD k d0) (Kz d k) ((d.getD k d0).2.1.take i))).getD []).length<=d.length:=by
 rw[Iw _ _ _ _ ((a _ (AL c)).sublist (ACA _ _)),Oc a t k oa,YT,Of];have b:=AA2 (λx=>AR x.2.1 t) (d.take k);rw[OS]at b;split<;>simp<;>omega
theorem oK (d:List AD) (k:Nat):(K0 d k).length<=d.length:=by
 unfold K0;rw[Of];have a:=AA2 (λx:AD=>x.2.1.length==0) (d.take k);rw[OS]at a;omega
theorem Vu.len {d:List AD} {o:CL} {r out:List ByteArray} {c:ByteArray} {i:Nat} (h:Vu d o r out c i):out.length+1+r.length<=d.length:=by
 have a:=Dt h.nd (l':=d.map (·.1)) λs hs=>by
  obtain⟨x,b,e⟩:=h.decl s hs;exact To.2 ⟨x,b,e⟩
 simp only[YT,Of,AAe]at a;omega
theorem zD (d:List AD) (G:A5 d=0) (hs:C4 d=0) (ag:d.length<=256):Aj Tryz.prog 73 [.p Aw d] [] [] (λres ae=>ae=[]/\∃l:List ByteArray,res=.p Ad l/\(l.length<d.length↔(BM d).length<d.length)):=by
 have N:=NY hs;refine Er [0,2,3,4,5,7,9,10,11,13,18,19,20,21,33,40,41,42,43,59,71,72,73,74,84] [] [] Tryz.func73 Tryz.ntmps73 (AF y7 AH) ?_;intro w0 K O0 ρ0 b Z ai;have R:∀x∈d,x.2.1.length<=140737488355328:=λx I=>(Z.1.2 x I).2.1.1;simp only[AX]
 (apply eS rfl;refine rX b ?_ ?_;(next=>first|exact trivial|exact CC))
 (apply eS rfl;refine rX b ?_ ?_;(next=>first|exact trivial|exact CC))
 apply eS rfl;refine cP 0 b trivial ?_;refine A0o .str 9 b Tryz.underlying67 (λx h=>by cases h) ?_;refine rL b trivial ?_;repeat'(first|exact trivial|apply eS rfl|apply AB|refine rX b ?_ ?_|refine rC ?_ ?_<;>intro a<;>try(cases a;done))
 refine AJ (ι:={k:Nat//k<=d.length}) (λk=>⟨[(0,.p Aw d),(3,.mp 16),(4,.mp 17),(5,.sr 38 .str 0 (K0 d k.1).length),(19,.p (.int .i64) (d.length:Int)),(18,.p Aw d),(20,.p (.int .i64) (k.1:Int))],[(16,.mapo .str CQ (Sk d k.1)),(17,.gen (C2 9 .str .str (Kz d k.1))),(38,.arr 9 .str (K0 d k.1))]⟩) (λk=>d.length-k.1) ⟨0,BY _⟩ (AC [(16,.nm 16),(17,.nm 17),(38,.nil)] rfl rfl ?_ ?_) (λk=>?_)
 .first|exact eN|refine eM ?_
  exact⟨rfl,rfl,rfl⟩
 .first|exact eN|refine eM ?_
  rfl
 obtain⟨k,X⟩:=k;have ad:=oK d k;have A:=λh:k<d.length=>UC d h;have w:=λh:k<d.length=>UD d h;have n:=λh:k<d.length=>iG d h;have z:=λh:k<d.length=>oJ N h;simp only;repeat'(first|exact trivial|apply eS rfl|apply AB|refine rX b ?_ ?_|refine rC ?_ ?_<;>intro a<;>try(cases a;done))
 .exact a
 .simp only[AN];omega
 .have m:k<d.length:=An.1 (by assumption);replace A:=A m;replace w:=w m;replace n:=n m;replace z:=z m;have T:=R _ (AL m:d.getD k d0∈d);rw[show d.getD k (ByteArray.empty,[],[])=d.getD k d0 from rfl]at *;rw[At (ACF a)]at n;generalize d.getD k d0=x at *;obtain⟨C,xs,B⟩:=x;simp only at A w n z T a ⊢;refine AJ (ι:={i:Nat//i<=xs.length}) (λi=>⟨[(0,.p Aw d),(3,.mp 16),(4,.mp 17),(5,.sr 38 .str 0 (K0 d (k+1)).length),(19,.p (.int .i64) (d.length:Int)),(18,.p Aw d),(20,.p (.int .i64) (k:Int)),(7,.bp 7 [] 0),(40,.p Ad xs),(41,.p (.int .i64) (xs.length:Int)),(42,.p (.int .i64) (i.1:Int))],[(16,.mapo .str CQ (Sk d (k+1))),(17,.gen (C2 9 .str .str (Gk (C,xs,B) (Kz d k) (xs.take i.1)))),(38,.arr 9 .str (K0 d (k+1))),(7,.box 35 true [.p T9 C,.p Ad xs,.p Lx B])]⟩) (λi=>xs.length-i.1) ⟨0,BY _⟩ (AC [(16,.nm 16),(17,.nm 17),(38,.nm 38),(7,.nm 7)] rfl rfl ?_ ?_) (λi=>?_)
  .rw[A,n];first|exact eN|refine eM ?_
   rfl
  .rw[n];first|exact eN|refine eM ?_
  obtain⟨i,hi⟩:=i;have F:=λh:i<xs.length=>LZ (C,xs,B) (Kz d k) xs h;simp only;repeat'(first|exact trivial|apply eS rfl|apply AB|refine rX b ?_ ?_|refine rC ?_ ?_<;>intro a<;>try(cases a;done))
  .exact a
  .refine cP 4 b trivial ?_;refine sD b Tryz.underlying67 Tryz.underlying9 Tryz.zeroValue32 (λu=>?_) (λj row u L=>?_)
   .refine rN 3 b trivial ?_;refine bO b Tryz.underlying67 Tryz.underlying9 Tryz.underlying32 u ?_ ?_
    .show 1*16<=AN;decide
    refine rL b trivial ?_;repeat'(first|exact trivial|apply eS rfl|apply AB|refine rX b ?_ ?_|refine rC ?_ ?_<;>intro a<;>try(cases a;done))
    .exact eV
    have c:i<xs.length:=An.1 a;refine⟨⟨i+1,c⟩,by simp only;omega,AC [(16,.nm 16),(17,.nm 17),(38,.nm 38),(7,.nm 7)] rfl rfl ?_ ?_⟩
    .simp only;rw[F c];first|exact eN|refine eM ?_
    first|exact eN|refine eM ?_
   have t:=z i (xs.getD i ByteArray.empty);rw[show AQ .str Ad (xs.getD i ByteArray.empty) (Gk (C,xs,B) (Kz d k) (List.take i xs))=some row from u]at t;have t:row.length<=d.length:=t;refine rN 3 b trivial ?_;refine bP b Tryz.underlying67 Tryz.underlying9 Tryz.underlying32 u L ?_ ?_
   .show (row.length+1)*16<=AN;simp only[AN];omega
   refine rL b trivial ?_;repeat'(first|exact trivial|apply eS rfl|apply AB|refine rX b ?_ ?_|refine rC ?_ ?_<;>intro a<;>try(cases a;done))
   .exact eV
   have c:i<xs.length:=An.1 a;refine⟨⟨i+1,c⟩,by simp only;omega,AC [(16,.nm 16),(17,.nm 17),(38,.nm 38),(7,.nm 7)] rfl rfl ?_ ?_⟩
   .simp only;rw[F c];first|exact eN|refine eM ?_
   first|exact eN|refine eM ?_
  .exact eV
  have c:i=xs.length:=jM hi (NO.1 a);subst c;refine⟨⟨k+1,m⟩,by simp only;omega,AC [(16,.nm 16),(17,.nm 17),(38,.nm 38)] rfl rfl ?_ ?_⟩
  .simp only;rw[w,TO];first|exact eN|refine eM ?_
  first|exact eN|refine eM ?_
 .have m:k<d.length:=An.1 (by assumption);replace A:=A m;replace w:=w m;replace n:=n m;replace z:=z m;have T:=R _ (AL m:d.getD k d0∈d);rw[show d.getD k (ByteArray.empty,[],[])=d.getD k d0 from rfl]at *;rw[As (show ¬(d.getD k d0).2.1.length=0 from λe=>a (by rw[e];rfl)),AAb]at n;generalize d.getD k d0=x at *;obtain⟨C,xs,B⟩:=x;simp only at A w n z T a ⊢;refine AJ (ι:={i:Nat//i<=xs.length}) (λi=>⟨[(0,.p Aw d),(3,.mp 16),(4,.mp 17),(5,.sr 38 .str 0 (K0 d (k+1)).length),(19,.p (.int .i64) (d.length:Int)),(18,.p Aw d),(20,.p (.int .i64) (k:Int)),(7,.bp 7 [] 0),(40,.p Ad xs),(41,.p (.int .i64) (xs.length:Int)),(42,.p (.int .i64) (i.1:Int))],[(16,.mapo .str CQ (Sk d (k+1))),(17,.gen (C2 9 .str .str (Gk (C,xs,B) (Kz d k) (xs.take i.1)))),(38,.arr 9 .str (K0 d (k+1))),(7,.box 35 true [.p T9 C,.p Ad xs,.p Lx B])]⟩) (λi=>xs.length-i.1) ⟨0,BY _⟩ (AC [(16,.nm 16),(17,.nm 17),(38,.nm 38),(7,.nm 7)] rfl rfl ?_ ?_) (λi=>?_)
  .rw[A,n];first|exact eN|refine eM ?_
   rfl
  .rw[n];first|exact eN|refine eM ?_
  obtain⟨i,hi⟩:=i;have F:=λh:i<xs.length=>LZ (C,xs,B) (Kz d k) xs h;simp only;repeat'(first|exact trivial|apply eS rfl|apply AB|refine rX b ?_ ?_|refine rC ?_ ?_<;>intro a<;>try(cases a;done))
  .exact a
  .refine cP 4 b trivial ?_;refine sD b Tryz.underlying67 Tryz.underlying9 Tryz.zeroValue32 (λu=>?_) (λj row u L=>?_)
   .refine rN 3 b trivial ?_;refine bO b Tryz.underlying67 Tryz.underlying9 Tryz.underlying32 u ?_ ?_
    .show 1*16<=AN;decide
    refine rL b trivial ?_;repeat'(first|exact trivial|apply eS rfl|apply AB|refine rX b ?_ ?_|refine rC ?_ ?_<;>intro a<;>try(cases a;done))
    .exact eV
    have c:i<xs.length:=An.1 a;refine⟨⟨i+1,c⟩,by simp only;omega,AC [(16,.nm 16),(17,.nm 17),(38,.nm 38),(7,.nm 7)] rfl rfl ?_ ?_⟩
    .simp only;rw[F c];first|exact eN|refine eM ?_
    first|exact eN|refine eM ?_
   have t:=z i (xs.getD i ByteArray.empty);rw[show AQ .str Ad (xs.getD i ByteArray.empty) (Gk (C,xs,B) (Kz d k) (List.take i xs))=some row from u]at t;have t:row.length<=d.length:=t;refine rN 3 b trivial ?_;refine bP b Tryz.underlying67 Tryz.underlying9 Tryz.underlying32 u L ?_ ?_
   .show (row.length+1)*16<=AN;simp only[AN];omega
   refine rL b trivial ?_;repeat'(first|exact trivial|apply eS rfl|apply AB|refine rX b ?_ ?_|refine rC ?_ ?_<;>intro a<;>try(cases a;done))
   .exact eV
   have c:i<xs.length:=An.1 a;refine⟨⟨i+1,c⟩,by simp only;omega,AC [(16,.nm 16),(17,.nm 17),(38,.nm 38),(7,.nm 7)] rfl rfl ?_ ?_⟩
   .simp only;rw[F c];first|exact eN|refine eM ?_
   first|exact eN|refine eM ?_
  .exact eV
  have c:i=xs.length:=jM hi (NO.1 a);subst c;refine⟨⟨k+1,m⟩,by simp only;omega,AC [(16,.nm 16),(17,.nm 17),(38,.nm 38)] rfl rfl ?_ ?_⟩
  .simp only;rw[w,TO];first|exact eN|refine eM ?_
  first|exact eN|refine eM ?_
 have m:k=d.length:=jM X (NO.1 a);subst m;clear A w n z ad a;refine A0p 17 ?_;refine AJ (ι:={s:CL×List ByteArray×List ByteArray×List ByteArray//Zy d s.1 s.2.1 s.2.2.2/\s.2.2.1.take s.2.1.length=s.2.1}) (λs=>⟨[(3,.mp 16),(4,.mp 17),(5,.sr 38 .str 0 s.1.2.1.length),(10,.sr 68 .str 0 s.1.2.2.2.length)],[(16,.mapo .str CQ s.1.1),(17,.mapo .str Ad (Kz d d.length)),(38,.arr 9 .str s.1.2.2.1),(68,.arr 9 .str s.1.2.2.2)]⟩) (λs=>d.length-s.1.2.2.2.length) ⟨(Sk d d.length,K0 d d.length,K0 d d.length,[]),zC G,TO⟩ (AC [(16,.nm 16),(17,.nm 17),(38,.nm 38),(68,.nil)] rfl rfl ?_ ?_) (λs=>?_)
 .first|exact eN|refine eM ?_
  try rfl
 .first|exact eN|refine eM ?_
  try rfl
 obtain⟨⟨o,r,p,out⟩,M,hp⟩:=s;simp only at M hp ⊢;repeat'(first|exact trivial|apply eS rfl|apply AB|refine rX b ?_ ?_|refine rC ?_ ?_<;>intro a<;>try(cases a;done))
 .rw[hp];intro e;rw[e]at a;cases a
 .have S:r≠[]:=λe=>by rw[e]at a;cases a
  have ab:r.length<=p.length:=by
   have:=p7 List.length hp;rw[OS]at this;omega
  have ah:=M.lt S;have Y:Lib.minOfS (p.take r.length)∈r:=by rw[hp];exact R0 S
  generalize Lib.minOfS (p.take r.length)=f at *;have y:=A0Q G M Y;refine cP 2 b ?_ ?_
  .trivial
  have Q:=zB p r.length f 9 9 (ABM.2 S) ab;rw[hp]at Q;refine rM b (Q) [(1000000,.nm 38),(1,.nm 11)] [] ?_ ?_ ?_
  .first|exact eN|refine eM ?_
  .first|exact eN|refine eM ?_
  rintro _ _ ⟨rfl,rfl⟩;refine⟨[(38,.nm 1000000),(11,.nm 1)],.sr 38 .str 0 (J0 r f).length,[(38,.arr 9 .str (Pn r f++p.drop r.length)),(11,.box 9 false [.p .str f])],rfl,rfl,?_,?_,rfl,rfl,?_⟩
  .first|exact eN|refine eM ?_
  .first|exact eN|refine eM ?_
  refine rL b trivial ?_;repeat'(first|exact trivial|apply eS rfl|apply AB|refine rX b ?_ ?_|refine rC ?_ ?_<;>intro a<;>try(cases a;done))
  .simp only[AN];omega
  have D:(AQ .str Ad f (Kz d d.length)).getD []=Ft d f:=by
   rw[Oc N f d.length (If _),TO];rfl
  have t:(Ft d f).length<=d.length:=by
   unfold Ft;rw[Of];exact AA2 _ _
  generalize (AQ .str Ad f (Kz d d.length)).getD []=row at *;have t:row.length<=d.length:=by rw[D];exact t
  have V:(Pn r f++p.drop r.length).take (J0 r f).length=J0 r f:=by
   unfold Pn;rw[oN,List.take_left]
  clear a Q;refine AJ (ι:={q:Nat×CL×List ByteArray×List ByteArray//Vu d q.2.1 q.2.2.1 out f q.1/\q.1<=row.length/\q.2.2.2.take q.2.2.1.length=q.2.2.1}) (λq=>⟨[(3,.mp 16),(4,.mp 17),(5,.sr 38 .str 0 q.1.2.2.1.length),(10,.sr 68 .str 0 (out.length+1)),(71,.p Ad row),(72,.p (.int .i64) (row.length:Int)),(73,.p (.int .i64) (q.1.1:Int))],[(16,.mapo .str CQ q.1.2.1),(17,.mapo .str Ad (Kz d d.length)),(38,.arr 9 .str q.1.2.2.2),(68,.arr 9 .str (out++[f]))]⟩) (λq=>row.length-q.1.1) ⟨(0,o,J0 r f,Pn r f++p.drop r.length),y,BY _,V⟩ (AC [(16,.nm 16),(17,.nm 17),(38,.nm 38),(68,.nm 68)] rfl rfl ?_ ?_) (λq=>?_)
  .first|exact eN|refine eM ?_
   try rfl
  .first|exact eN|refine eM ?_
   try rfl
  clear y V;obtain⟨⟨i,U,J,O⟩,y,hi,H⟩:=q;simp only at y hi H ⊢;have P:=λh:i<row.length=>y.at G (D▸h);have E:=λ(h:i<row.length) (v:Int) g=>A0R G N y (D▸h) (s:=row.getD i ByteArray.empty) (by rw[D]) (v:=v) g;have aj:J.length<=O.length:=by
   have:=p7 List.length H;rw[OS]at this;omega
  repeat'(first|exact trivial|apply eS rfl|apply AB|refine rX b ?_ ?_|refine rC ?_ ?_<;>intro a<;>try(cases a;done))
  .exact a
  .obtain⟨x,I,-,-,g,-⟩:=P (An.1 a);rw[<-D]at g;rw[g];have L:HT x out<=x.2.1.length:=AC6;have af:=R x I;show -9223372036854775808<=(HT x out:Int)-1/\(HT x out:Int)-1<=9223372036854775807;omega
  .have:=y.len;simp only[AN];omega
  .exact eV
  .have c:i<row.length:=An.1 (by assumption);obtain⟨x,I,-,-,g,-⟩:=P c;rw[<-D]at g;have E:=E c _ g;rw[g]at a;rw[Bp,At rfl]at a;have a:(HT x out:Int)-1=0:=a;rw[At a]at E;refine⟨⟨(i+1,Bm .str CQ (row.getD i ByteArray.empty) ((HT x out:Int)-1) U,J++[row.getD i ByteArray.empty],O.take J.length++[row.getD i ByteArray.empty]),E,c,by rw[H,YT,AAe,By sa]⟩,by simp only;omega,AC [(16,.nm 16),(17,.nm 17),(38,.nm 38),(68,.nm 68)] rfl rfl ?_ ?_⟩
   .rw[g];first|exact eN|refine eM ?_
   rw[g];first|exact eN|refine eM ?_
  .exact eV
  .have c:i<row.length:=An.1 (by assumption);obtain⟨x,I,-,-,g,-⟩:=P c;rw[<-D]at g;have E:=E c _ g;rw[g]at a;rw[Bp,At rfl]at a;have a:¬(HT x out:Int)-1=0:=a;rw[As a]at E;refine⟨⟨(i+1,Bm .str CQ (row.getD i ByteArray.empty) ((HT x out:Int)-1) U,J,O),E,c,H⟩,by simp only;omega,AC [(16,.nm 16),(17,.nm 17),(38,.nm 38),(68,.nm 68)] rfl rfl ?_ ?_⟩
   .rw[g];first|exact eN|refine eM ?_
   rw[g];first|exact eN|refine eM ?_
  have c:i=row.length:=jM hi (NO.1 a);rw[c,D]at y;refine⟨⟨(U,J,O,out++[f]),A0S N y,H⟩,by simp only[YT,AAe];omega,AC [(16,.nm 16),(17,.nm 17),(38,.nm 38),(68,.nm 68)] rfl rfl ?_ ?_⟩
  .first|exact eN|refine eM ?_
  first|exact eN|refine eM ?_
 have aa:r=[]:=dO oa;subst aa;have W:=A0T G M;refine DH [68] ?_;refine Ev.ent (σ':=⟨[(2,.p Ad out)],[]⟩) ?_ (AC [] rfl rfl ?_ ?_)
 .exact fM b [.tmp 2] (.p Ad out) eT ⟨rfl,out,rfl,W⟩
 .first|exact eN|refine eM ?_
 first|exact eN|refine eM ?_
end
section
attribute [local go_sem] xC P7 Vf Ht
theorem NZ:∀l:List AD,Fj l≠0->Fj l=7
 | [],h=>absurd rfl h
 | x :: l,h=>by
  unfold Fj at h ⊢;split
  .rfl
  rename_i a;rw[As a]at h;exact NZ l h
theorem Vv {l:List AD} (h:B2 l≠0):B2 l=7:=by
 unfold B2 at h ⊢;split
 .rfl
 rename_i a;rw[As a]at h;exact NZ l h
theorem uZ:Ap Tryz.prog 35 Ht:=by
 refine fK [0,2,3,4,5,7,9,13,18,20,21,22,23,29,34,40] Tryz.func35 Tryz.ntmps35 (AF nE (AF gN (AF nH AH))) ?_;rintro w0 O0 ⟨d,u⟩ c - -;simp only[Ht,AP];repeat'(first|exact trivial|apply eS rfl|apply AB|refine rX c ?_ ?_|refine rC ?_ ?_<;>intro a<;>try(cases a;done))
 .have a:B2 d≠0:=by simpa using a
  have b:AU d=7:=by unfold AU;rw[At a,Vv a]
  exact fI c [.tmp 2] (by rw[b];exact eR)
 .rename_i hs;have hs:B2 d=0:=by simpa using hs
  have b:AU d=A5 d:=by unfold AU;rw[As (by rw[hs];simp),At a]
  exact fI c [.tmp 2] (by rw[b];exact eR)
 .rename_i hs g;have hs:B2 d=0:=by simpa using hs
  have g:A5 d=0:=by simpa using g
  have b:AU d=C4 d:=by unfold AU;rw[As (by rw[hs];simp),As (by rw[g];simp),At a]
  exact fI c [.tmp 2] (by rw[b];exact eR)
 rename_i hs g;have hs:B2 d=0:=by simpa using hs
 have g:A5 d=0:=by simpa using g
 have q:C4 d=0:=by simpa using a
 have r:=Kh hs;have b:AU d=if Et d≠1 then 1 else if (BM d).length<d.length then 6 else 0:=by
  unfold AU;rw[As (by rw[hs];simp),As (by rw[g];simp),As (by rw[q];simp)]
 refine AJ (ι:={k:Nat//k<=d.length}) (λk=>⟨[(0,.p Aw d),(5,.p (.int .i64) (Et (d.take k.1):Int)),(20,.p Aw d),(21,.p (.int .i64) (d.length:Int)),(22,.p (.int .i64) (k.1:Int))],[]⟩) (λk=>d.length-k.1) ⟨0,BY _⟩ (AC [] rfl rfl ?_ ?_) (λk=>?_)
 .first|exact eN|refine eM ?_
 .first|exact eN|refine eM ?_
  rfl
 obtain⟨k,s⟩:=k;have t:=TW (d.take k);have v:=AA6 k d;have o:=λh:k<d.length=>PI d h;simp only;repeat'(first|exact trivial|apply eS rfl|apply AB|refine rX c ?_ ?_|refine rC ?_ ?_<;>intro a<;>try(cases a;done))
 .exact a
 .exact eV
 .exact eV
 .have f:k<d.length:=An.1 (by assumption);have e:=o f;rw[At (AA9.2 (show (d.getD k d0).2.1.length=0 from ACF a))]at e;refine⟨⟨k+1,f⟩,by simp only;omega,AC [] rfl rfl ?_ ?_⟩
  .first|exact eN|refine eM ?_
  first|exact eN|refine eM ?_
  exact(p7 (λn:Nat=>(n:Int)) e).symm
 .exact eV
 .have f:k<d.length:=An.1 (by assumption);have e:=o f;rw[As (λh=>a (by rw[show List.length (d.getD k (ByteArray.empty,[],[])).2.1=0 from AA9.1 h];rfl))]at e;refine⟨⟨k+1,f⟩,by simp only;omega,AC [] rfl rfl ?_ ?_⟩
  .first|exact eN|refine eM ?_
  first|exact eN|refine eM ?_
  exact(p7 (λn:Nat=>(n:Int)) e).symm
 .rename_i j;have f:d.take k=d:=By (NO.1 j);rw[f]at a;have i:Et d≠1:=λe=>a (by rw[e];rfl);rw[At i]at b;refine Ev.ent (σ':=⟨[(2,.p (.int .i64) 1)],[]⟩) ?_ (AC [] rfl rfl ?_ ?_)
  .exact fI c [.tmp 2] (by rw[b];exact eR)
  .first|exact eN|refine eM ?_
  first|exact eN|refine eM ?_
 rename_i j;have f:d.take k=d:=By (NO.1 j);rw[f]at a;have i:¬Et d≠1:=λe=>e (by simp at a;omega);rw[As i]at b;refine cP 1 c ?_ ?_
 .trivial
 refine rM c (zD d g q r) [] [] ?_ ?_ ?_
 .first|exact eN|refine eM ?_
 .first|exact eN|refine eM ?_
 rintro _ _ ⟨rfl,l,rfl,m⟩;refine⟨[],.p Ad l,[],rfl,rfl,?_,?_,rfl,rfl,?_⟩
 .first|exact eN|refine eM ?_
 .first|exact eN|refine eM ?_
 refine rL c ?_ ?_
 .trivial
 repeat'(first|exact trivial|apply eS rfl|apply AB|refine rX c ?_ ?_|refine rC ?_ ?_<;>intro a<;>try(cases a;done))
 .have a:(l.length:Int)<(d.length:Int):=a;rw[At (m.1 (An.1 a))]at b;refine Ev.ent (σ':=⟨[(2,.p (.int .i64) 6)],[]⟩) ?_ (AC [] rfl rfl ?_ ?_)
  .exact fI c [.tmp 2] (by rw[b];exact eR)
  .first|exact eN|refine eM ?_
  first|exact eN|refine eM ?_
 have a:(d.length:Int)<=(l.length:Int):=a;rw[As (λe=>by have:=m.2 e;omega)]at b;refine Ev.ent (σ':=⟨[(2,.p (.int .i64) 0)],[]⟩) ?_ (AC [] rfl rfl ?_ ?_)
 .exact fI c [.tmp 2] (by rw[b];exact eR)
 .first|exact eN|refine eM ?_
 first|exact eN|refine eM ?_
end
section
attribute [local instance] Classical.propDecidable
theorem Cw {x:ByteArray}:¬Bh x x=true:=λh=>List.lt_irrefl _ (Fq.1 h)
theorem Vx:∀ {l m:List ByteArray},Kv l->Kv m->(∀s,s∈l↔s∈m)->l=m
 | [],[],_,_,_=>rfl
 | [],y :: m,_,_,h=>absurd ((h y).2 sa) sa
 | x :: l,[],_,_,h=>absurd ((h x).1 sa) sa
 | x :: l,y :: m,d,f,h=>by
  have b:=AAl.1 d;have c:=AAl.1 f;have g:x=y:=by
   rcases Is.1 ((h x).1 sa) with e|e
   .exact e
   rcases Is.1 ((h y).2 sa) with a|a
   .exact a.symm
   exact absurd (FB (b.1 y a) (c.1 x e)) Cw
  subst g
  congr 1
  refine Vx b.2 c.2 λs=>?_;constructor
  .intro hs;rcases Is.1 ((h s).1 (by simp[hs])) with e|e
   .subst e;exact absurd (b.1 _ hs) Cw
   exact e
  intro hs;rcases Is.1 ((h s).2 (by simp[hs])) with e|e
  .subst e;exact absurd (c.1 _ hs) Cw
  exact e
theorem La (l:List ByteArray):Kv (Y1 l):=by
 have key:∀(l o:List ByteArray),Kv o->Kv (l.foldl C3 o):=by
  intro l;induction l with
  | nil=>exact λo h=>h
  | cons x l a=>exact λo h=>a _ (Xd h x)
 exact key l [] .nil
theorem K1 {l:List ByteArray} {t:ByteArray}:t∈Y1 l↔t∈l:=by
 constructor
 .intro h;exact(NG (o:=[]) h).resolve_left sa
 intro h;exact BF.1 (Ko (o:=[]) h)
theorem X8 {l:List ByteArray} {t:ByteArray}:t∈DF l↔t∈l:=(Co l).mem_iff
theorem UF {l:List ByteArray} (h:l.Nodup):Kv (DF l):=by
 have d:((Cg l).mergeSort λx y=>decide (x<=y)).Pairwise λa b=>decide (a<=b)=true :=
  List.pairwise_mergeSort (le:=λx y:List UInt8=>decide (x<=y)) (λa b c d e=>by
   rw[Do]at *;exact List.le_trans d e) (λa b=>by
   rw[bY,Do,Do];exact List.le_total a b) (Cg l)
 rw[<-Rz]at d;have e:(DF l).Nodup:=(Co l).nodup_iff.2 h;unfold Cg at d;rw[AB3]at d;refine(d.and e).imp λ{a b} f=>?_;refine Fq.2 ?_;rw[ByteArray.toList_eq,ByteArray.toList_eq];have g:a.data.toList<=b.data.toList:=ABB f.1;refine IN λi=>f.2 ?_;have:=List.le_antisymm g (List.not_lt.1 i);cases a;cases b
 congr 1
 exact ABL.1 this
theorem Na {l:List ByteArray} (h:l.Nodup):DF l=Y1 l:=Vx (UF h) (La l) λs=>by rw[X8,K1]
def EF (R:ByteArray->List ByteArray):Nat->Nat->List ByteArray->List ByteArray
 | 0,_,o=>o
 | n+1,i,o=>if i<o.length then EF R n (i+1) ((R (o.getD i ByteArray.empty)).foldl C5 o) else o
theorem PX (d:List AD):∀(n i:Nat) (o:List ByteArray),DM d n i o=EF (Eu d) n i o
 | 0,_,_=>rfl
 | n+1,i,o=>by
  unfold DM EF;rw[PX d n]
theorem UG (d:List AD) (s:ByteArray):∀(l:List AD) (o:List ByteArray),l.foldl (EM s) o=((l.filter λx=>AR x.2.1 s).map (·.1)).foldl C5 o
 | [],_=>rfl
 | x :: l,o=>by
  rw[No,UG d s l,AAa];unfold EM;by_cases h:AR x.2.1 s=true
  .rw[At h,h,oR,No,ABg]
   congr 1
   unfold C5;cases AR o x.1<;>rfl
  rw[As h,As (by rw[AT];exact λe=>h e.1)]
theorem K2 (d:List AD):∀(n i:Nat) (o:List ByteArray),CO d n i o=EF (Ft d) n i o
 | 0,_,_=>rfl
 | n+1,i,o=>by
  unfold CO EF;rw[K2 d n,UG d];rfl
theorem u7 {o:List ByteArray} {s t:ByteArray}:t∈C5 o s↔t∈o\/t=s:=by
 unfold C5;split
 .rename_i h;constructor
  .exact .inl
  rintro (a|rfl)
  .exact a
  exact BF.1 h
 simp
theorem GJ {t:ByteArray}:∀ {l o:List ByteArray},t∈l.foldl C5 o↔t∈o\/t∈l
 | [],o=>by simp
 | s :: l,o=>by
  rw[No,GJ,u7,Is,or_assoc]
theorem u9 {o:List ByteArray} {s:ByteArray} (h:o.Nodup):(C5 o s).Nodup:=by
 unfold C5;split
 .exact h
 rename_i f;refine wS.2 ⟨h,by simp,λa d b c e=>?_⟩;rw[nO]at c;subst e;exact f (BF.2 (c▸d))
theorem R6:∀ {l o:List ByteArray},o.Nodup->(l.foldl C5 o).Nodup
 | [],_,h=>h
 | s :: l,o,h=>R6 (l:=l) (u9 h)
theorem PY {R S:ByteArray->List ByteArray} {U:ByteArray->Prop} (c:∀s,U s->R s=S s) (d:∀s,U s->∀t∈R s,U t):∀(n i:Nat) (o:List ByteArray),(∀s∈o,U s)->EF R n i o=EF S n i o
 | 0,_,_,_=>rfl
 | n+1,i,o,e=>by
  unfold EF;split
  .rename_i hi;have a:=e (o.getD i ByteArray.empty) (AL hi);rw[c _ a];refine PY c d n (i+1) _ λs hs=>?_;rcases GJ.1 hs with b|b
   .exact e s b
   exact d _ a s (by rw[c _ a];exact b)
  rfl
end
def Ix (m:It) (s:ByteArray):List ByteArray:=(AQ .str Ad s m).getD []
def Jf (m:It) (s:ByteArray) (n:Nat):List ByteArray:=if (AQ .str Ad s m).isSome=true then Y1 (EF (Ix m) n 0 [s]) else []
abbrev DT:=List (ByteArray×Bool)
def Z0 (met:DT) (o:List ByteArray):Prop:=∀t,(AQ .str .bool t met).getD false=AR o t
theorem Z0.put {met:DT} {o:List ByteArray} (h:Z0 met o) (s:ByteArray):Z0 (Bm .str .bool s true met) (o++[s]):=λt=>by
 rw[Bp,JP];by_cases e:t=s
 .subst e;rw[At rfl,B3,Bool.or_true];rfl
 rw[As e,h t];have:AM s t=false:=by
  cases a:AM s t with
  | false=>rfl
  | true=>exact absurd (Bg.1 a).symm e
 rw[this,ABo]
structure X9 (m:It) (s:ByteArray) (U:List ByteArray) (i:Nat) (o:List ByteArray) (met:DT):Prop where
 le:i<=o.length
 nd:o.Nodup
 sub:∀t∈o,t∈U
 fin:EF (Ix m) (U.length-i) i o=EF (Ix m) U.length 0 [s]
 met:Z0 met o
theorem X9.len {m:It} {s:ByteArray} {U:List ByteArray} {i:Nat} {o:List ByteArray} {met:DT} (h:X9 m s U i o met):o.length<=U.length:=Dt h.nd h.sub
theorem X9.next {m:It} {s:ByteArray} {U:List ByteArray} {i:Nat} {o:List ByteArray} {met met2:DT} (h:X9 m s U i o met) (f:∀s,∀t∈Ix m s,t∈U) (hi:i<o.length) (d:Z0 met2 ((Ix m (o.getD i ByteArray.empty)).foldl C5 o)):X9 m s U (i+1) ((Ix m (o.getD i ByteArray.empty)).foldl C5 o) met2:=by
 have g:=h.len;have j:o.length<=((Ix m (o.getD i ByteArray.empty)).foldl C5 o).length:=Dt h.nd λt c=>GJ.2 (.inl c);refine⟨by omega,R6 h.nd,λt c=>?_,?_,d⟩
 .rcases GJ.1 c with a|a
  .exact h.sub t a
  exact f _ t a
 have b:=h.fin;rw[show U.length-i=(U.length-(i+1))+1 by omega]at b;have e:EF (Ix m) (U.length-(i+1)+1) i o=if i<o.length then EF (Ix m) (U.length-(i+1)) (i+1) ((Ix m (o.getD i ByteArray.empty)).foldl C5 o) else o:=rfl
 rw[e,At hi]at b;exact b
theorem X9.done {m:It} {s:ByteArray} {U:List ByteArray} {i:Nat} {o:List ByteArray} {met:DT} (h:X9 m s U i o met) (hi:o.length<=i):EF (Ix m) U.length 0 [s]=o:=by
 rw[<-h.fin];cases U.length-i with
 | zero=>rfl
 | succ n =>
  unfold EF;rw[As oa]
theorem iK (o l:List ByteArray) {j:Nat} (h:j<l.length):(l.take (j+1)).foldl C5 o=C5 ((l.take j).foldl C5 o) (l.getD j ByteArray.empty):=by
 rw[Ai l ByteArray.empty h,AAk];rfl
theorem YA (m:It) (s:ByteArray) (U:List ByteArray) (J:U.length<=256) (hs:(AQ .str Ad s m).isSome=true->s∈U) (r:∀s,(∀t∈Ix m s,t∈U)/\(Ix m s).length<=140737488355328) :
  Aj Tryz.prog 24 [.mp 1000000,.p .str s] [(1000000,.mapo .str Ad m)] [1000000] (λres I=>res=.p Ad (Jf m s U.length)/\I=[(1000000,.mapo .str Ad m)]):=by
 refine Er [0,1,4,6,7,8,9,11,19,28,36,37,38,39,45] [] [] Tryz.func24 Tryz.ntmps24 AH ?_;intro w0 K O0 ρ0 b O P;simp only[AX];repeat'(first|exact trivial|apply eS rfl|apply AB|refine rX b ?_ ?_|refine rC ?_ ?_<;>intro a<;>try(cases a;done))
 .have g:Jf m s U.length=[]:=by
   unfold Jf;rw[As (by rw[a];simp)]
  refine Ev.ent (σ':=⟨[(4,.raw (.slice none 0 0))],[(1000000,.mapo .str Ad m)]⟩) ?_ (AC [(1000000,.nm 1000000)] rfl rfl ?_ ?_)
  .exact fM b [.tmp 4] (.p Ad []) eT ⟨by rw[g],rfl⟩
  .first|exact eN|refine eM ?_
  first|exact eN|refine eM ?_
 have hs:=hs a;refine cP 2 b trivial ?_;refine A1m b trivial ?_;refine rL b trivial ?_;repeat'(first|exact trivial|apply eS rfl|apply AB|refine rX b ?_ ?_|refine rC ?_ ?_<;>intro a<;>try(cases a;done))
 refine AJ (ι:={x:Nat×List ByteArray×DT//X9 m s U x.1 x.2.1 x.2.2}) (λx=>⟨[(0,.mp 1000000),(7,.mp 20),(8,.sr 24 .str 0 x.1.2.1.length),(9,.p (.int .i64) (x.1.1:Int))],[(1000000,.mapo .str Ad m),(20,.mapo .str .bool x.1.2.2),(24,.arr 9 .str x.1.2.1)]⟩) (λx=>U.length-x.1.1) ⟨(0,[s],Bm .str .bool s true []),BY _,by simp,λt k=>by rw[nO]at k;exact k▸hs,rfl,Z0.put (met:=[]) (o:=[]) (λt=>rfl) s⟩ (AC [(1000000,.nm 1000000),(20,.nm 20),(24,.nm 24)] rfl rfl ?_ ?_) (λx=>?_)
 .first|exact eN|refine eM ?_
  try rfl
 .first|exact eN|refine eM ?_
  try rfl
 obtain⟨⟨i,o,met⟩,c⟩:=x;simp only at c ⊢;have N:=c.len;have M:=c.le;repeat'(first|exact trivial|apply eS rfl|apply AB|refine rX b ?_ ?_|refine rC ?_ ?_<;>intro a<;>try(cases a;done))
 .exact a
 .have n:i<o.length:=An.1 a;have w:=λmet2 B=>c.next (λs=>(r s).1) n (met2:=met2) B;have F:=(r (o.getD i ByteArray.empty)).2;have z:=(r (o.getD i ByteArray.empty)).1;generalize u:(AQ .str Ad (o.getD i ByteArray.empty) m).getD []=row;have u:Ix m (o.getD i ByteArray.empty)=row:=u;rw[u]at w F z;refine AJ (ι:={y:Nat×List ByteArray×DT//y.1<=row.length/\y.2.1=(row.take y.1).foldl C5 o/\Z0 y.2.2 y.2.1}) (λy=>⟨[(0,.mp 1000000),(7,.mp 20),(8,.sr 24 .str 0 y.1.2.1.length),(9,.p (.int .i64) (i:Int)),(36,.p Ad row),(37,.p (.int .i64) (row.length:Int)),(38,.p (.int .i64) (y.1.1:Int))],[(1000000,.mapo .str Ad m),(20,.mapo .str .bool y.1.2.2),(24,.arr 9 .str y.1.2.1)]⟩) (λy=>row.length-y.1.1) ⟨(0,o,met),BY _,rfl,c.met⟩ (AC [(1000000,.nm 1000000),(20,.nm 20),(24,.nm 24)] rfl rfl ?_ ?_) (λy=>?_)
  .first|exact eN|refine eM ?_
   try rfl
  .first|exact eN|refine eM ?_
   try rfl
  obtain⟨⟨j,l,met2⟩,v,e,f⟩:=y;simp only at v e f ⊢;have L:l.length<=U.length:=Dt (by rw[e];exact R6 c.nd) λt k=>by
   rw[e]at k;rcases GJ.1 k with g|g
   .exact c.sub t g
   exact z t (AAv g)
  have A:=λh:j<row.length=>iK o row h;repeat'(first|exact trivial|apply eS rfl|apply AB|refine rX b ?_ ?_|refine rC ?_ ?_<;>intro a<;>try(cases a;done))
  .exact a
  .simp only[AN];omega
  .exact eV
  .have d:j<row.length:=An.1 (by assumption);have q:AR l (row.getD j ByteArray.empty)=false:=by rw[<-f];exact a
   refine⟨⟨(j+1,l++[row.getD j ByteArray.empty],Bm .str .bool (row.getD j ByteArray.empty) true met2),d,by
    simp only;rw[A d,<-e];unfold C5;rw[As (by rw[q];simp)],f.put _⟩,by simp only;omega,AC [(1000000,.nm 1000000),(20,.nm 20),(24,.nm 24)] rfl rfl ?_ ?_⟩
   .first|exact eN|refine eM ?_
   first|exact eN|refine eM ?_
  .exact eV
  .have d:j<row.length:=An.1 (by assumption);have q:AR l (row.getD j ByteArray.empty)=true:=by rw[<-f];exact a
   refine⟨⟨(j+1,l,met2),d,by
    simp only;rw[A d,<-e];unfold C5;rw[At q],f⟩,by simp only;omega,AC [(1000000,.nm 1000000),(20,.nm 20),(24,.nm 24)] rfl rfl ?_ ?_⟩
   .first|exact eN|refine eM ?_
   first|exact eN|refine eM ?_
  .exact eV
  have d:j=row.length:=jM v (NO.1 a);subst d;rw[TO]at e;subst e;refine⟨⟨(i+1,row.foldl C5 o,met2),w met2 f⟩,by simp only;omega,AC [(1000000,.nm 1000000),(20,.nm 20),(24,.nm 24)] rfl rfl ?_ ?_⟩
  .first|exact eN|refine eM ?_
  first|exact eN|refine eM ?_
 have n:o.length<=i:=NO.1 a;have C:=c.done n;have H:=Na c.nd;have G:(DF o).length=o.length:=(Co o).length_eq;have E:Jf m s U.length=DF o:=by
  unfold Jf;rename_i D;rw[At D,C,H]
 refine cP 1 b ?_ ?_
 .trivial
 refine rM b (NU o 9) [(1000000,.nm 24)] [] ?_ ?_ ?_
 .first|exact eN|refine eM ?_
 .first|exact eN|refine eM ?_
 rintro _ _ ⟨rfl,rfl⟩;refine⟨[(24,.nm 1000000)],.raw (.tuple #[]),[(24,.arr 9 .str (DF o))],rfl,rfl,?_,?_,rfl,rfl,?_⟩
 .first|exact eN|refine eM ?_
 .first|exact eN|refine eM ?_
 refine rL b trivial ?_;repeat'(first|exact trivial|apply eS rfl|apply AB|refine rX b ?_ ?_|refine rC ?_ ?_<;>intro a<;>try(cases a;done))
 refine DH [24] ?_;rw[<-G,TO];refine Ev.ent (σ':=⟨[(4,.p Ad (DF o))],[(1000000,.mapo .str Ad m)]⟩) ?_ (AC [(1000000,.nm 1000000)] rfl rfl ?_ ?_)
 .exact fM b [.tmp 4] (.p Ad (DF o)) eT ⟨by rw[E],rfl⟩
 .first|exact eN|refine eM ?_
 first|exact eN|refine eM ?_
section
def YB (x:AD) (m:It):It:=if (AQ .str Ad x.1 m).isSome=true then m else Bm .str Ad x.1 [] m
def Po (d:List AD) (k:Nat):It:=(d.take k).foldl (λm x=>Gk x (YB x m) x.2.1) []
theorem R7 (d:List AD) {k:Nat} (h:k<d.length):Po d (k+1)=Gk (d.getD k d0) (YB (d.getD k d0) (Po d k)) (d.getD k d0).2.1:=by
 unfold Po;rw[Ai d d0 h,AAk];rfl
theorem dT (x:AD) (m:It) (t:ByteArray):(AQ .str Ad t (YB x m)).getD []=(AQ .str Ad t m).getD []:=by
 unfold YB;split
 .rfl
 rename_i h;rw[Bp];split
 .rename_i e;subst e;cases a:AQ .str Ad x.1 m with
  | none=>rfl
  | some v=>rw[a]at h;simp at h
 rfl
theorem zE (x:AD) (m:It) (t:ByteArray):(AQ .str Ad t (YB x m)).isSome=true↔(AQ .str Ad t m).isSome=true\/t=x.1:=by
 unfold YB;split
 .rename_i h;constructor
  .exact .inl
  rintro (a|rfl)
  .exact a
  exact h
 rw[Bp];split
 .rename_i e;simp[e]
 rename_i e;constructor
 .exact .inl
 rintro (a|a)
 .exact a
 exact absurd a e
theorem dU (x:AD) (t:ByteArray):∀(l:List ByteArray) (m:It),(AQ .str Ad t (Gk x m l)).isSome=true↔(AQ .str Ad t m).isSome=true\/t∈l
 | [],m=>by simp[Gk]
 | s :: l,m=>by
  show (AQ .str Ad t (Gk x (Bm .str Ad s ((AQ .str Ad s m).getD []++[x.1]) m) l)).isSome=true↔_;rw[dU x t l,Bp,Is];split
  .rename_i e;simp[e]
  rename_i e;simp[e]
theorem Vy {d:List AD} (b:∀x∈d,x.2.1.Nodup) (t:ByteArray):∀k,k<=d.length->(AQ .str Ad t (Po d k)).getD []=((d.take k).filter λx=>AR x.2.1 t).map (·.1)
 | 0,_=>by simp[Po,AQ]
 | k+1,h=>by
  rw[R7 d h,Iw _ _ _ _ (b _ (AL h)),dT,Vy b t k oa,Ai d d0 h,AAm,AA7]
  congr 1
  rw[AAa,AAC];by_cases a:t∈(d.getD k d0).2.1
  .rw[At a,At (BF.2 a)];rfl
  rw[As a,As (λe=>a (BF.1 e))];rfl
theorem oL (d:List AD) (t:ByteArray):∀k,k<=d.length->((AQ .str Ad t (Po d k)).isSome=true↔∃j,j<k/\((d.getD j d0).1=t\/t∈(d.getD j d0).2.1))
 | 0,_=>by simp[Po,AQ]
 | k+1,h=>by
  rw[R7 d h,dU,zE,oL d t k oa];constructor
  .rintro ((⟨j,b,a⟩|b)|b)
   .exact⟨j,by omega,a⟩
   .exact⟨k,by omega,.inl b.symm⟩
   exact⟨k,by omega,.inr b⟩
  rintro⟨j,b,a⟩;rcases ABb.1 b with c|c
  .exact .inl (.inl ⟨j,c,a⟩)
  subst c;rcases a with a|a
  .exact .inl (.inr a.symm)
  exact .inr a
theorem GK {d:List AD} {s:ByteArray}:0<=AY d s↔∃x∈d,x.1=s:=by
 constructor
 .intro h;rcases Be d s with c|⟨_,e,a⟩
  .omega
  exact⟨_,AL oa,Bg.1 a⟩
 rintro⟨x,b,rfl⟩;exact CD b
theorem R8 {d:List AD} (hs:Hu d) (t:ByteArray):(AQ .str Ad t (Po d d.length)).isSome=true↔0<=AY d t:=by
 rw[oL d t d.length (If _)];constructor
 .rintro⟨j,b,a|a⟩
  .exact GK.2 ⟨_,AL b,a⟩
  exact hs _ (AL b) t a
 intro h;obtain⟨x,f,e⟩:=GK.1 h;obtain⟨j,c,rfl⟩:=BJ d0 f;exact⟨j,c,.inl e⟩
theorem YC {d:List AD} (a:∀x∈d,x.2.1.Nodup):Ix (Po d d.length)=Ft d:=by
 funext t;unfold Ix Ft;rw[Vy a t d.length (If _),TO]
theorem iL {d:List AD} (a:∀x∈d,x.2.1.Nodup) (hs:Hu d) (s:ByteArray):Jf (Po d d.length) s d.length=Ax d s:=by
 unfold Jf Ax;rw[YC a,K2];by_cases h:0<=AY d s
 .rw[At ((R8 hs s).2 h),As (AAs.2 h)]
 rw[As (λe=>h ((R8 hs s).1 e)),At (ABP.1 h)]
theorem zF {d:List AD} (a:∀x∈d,x.2.1.Nodup) {k:Nat} (c:k<d.length) (i:Nat) (t:ByteArray):((AQ .str Ad t (Gk (d.getD k d0) (YB (d.getD k d0) (Po d k)) ((d.getD k d0).2.1.take i))).getD []).length<=d.length:=by
 rw[Iw _ _ _ _ ((a _ (AL c)).sublist (ACA _ _)),dT,Vy a t k oa,YT,Of];have b:=AA2 (λx=>AR x.2.1 t) (d.take k);rw[OS]at b;split<;>simp<;>omega
def YD:Spec:={ ins:=[Aw,T9],pre:=λ(d,_,_)=>A5 d=0/\C4 d=0/\List.length d<=256,out:=λ(d,s,_)=>[.p Ad (Ax d s)] }
attribute [local go_sem] YD
theorem dV:Ap Tryz.prog 8 YD:=by
 refine fK [0,1,4,5,7,9,11,15,16,17,18,29,34,35,36,37] Tryz.func8 Tryz.ntmps8 AH ?_;rintro w0 O0 ⟨d,s,u⟩ a ⟨⟨-,C⟩,-⟩ ⟨J,hs,A⟩;have A:d.length<=256:=A;have B:=NY hs;have C:∀x∈d,x.2.1.length<=140737488355328:=λx w=>(C x w).2.1.1;simp only[YD,AP]
 (apply eS rfl;refine rX a ?_ ?_;(next=>first|exact trivial|exact CC))
 apply eS rfl;refine cP 2 a ?_ ?_
 .exact eV
 refine A0o .str 9 a Tryz.underlying67 (λx h=>by cases h;exact⟨_,_,rfl⟩) ?_;refine rL a trivial ?_;repeat'(first|exact trivial|apply eS rfl|apply AB|refine rX a ?_ ?_|refine rC ?_ ?_<;>intro b<;>try(cases b;done))
 refine AJ (ι:={k:Nat//k<=d.length}) (λk=>⟨[(1,.p T9 s),(5,.mp 14),(15,.p Aw d),(16,.p (.int .i64) (d.length:Int)),(17,.p (.int .i64) (k.1:Int))],[(14,.gen (C2 9 .str .str (Po d k.1)))]⟩) (λk=>d.length-k.1) ⟨0,BY _⟩ (AC [(14,.nm 14)] rfl rfl ?_ ?_) (λk=>?_)
 .first|exact eN|refine eM ?_
  try rfl
 .first|exact eN|refine eM ?_
  try rfl
 obtain⟨k,G⟩:=k;have m:=λh:k<d.length=>R7 d h;have n:=λh:k<d.length=>zF B h;simp only;repeat'(first|exact trivial|apply eS rfl|apply AB|refine rX a ?_ ?_|refine rC ?_ ?_<;>intro b<;>try(cases b;done))
 .exact b
 .refine cP 3 a trivial ?_;refine A1k a Tryz.underlying67 Tryz.underlying9 Tryz.zeroValue32 ?_;refine rL a trivial ?_;have o:k<d.length:=An.1 (by assumption);replace m:=m o;replace n:=n o;have E:=C _ (AL o:d.getD k d0∈d);rw[show d.getD k (ByteArray.empty,[],[])=d.getD k d0 from rfl]at *;repeat'(first|exact trivial|apply eS rfl|apply AB|refine rX a ?_ ?_|refine rC ?_ ?_<;>intro b<;>try(cases b;done))
  .have r:YB (d.getD k d0) (Po d k)=Bm .str Ad (d.getD k d0).1 [] (Po d k):=by
    unfold YB;rw[As (by rw[show (AQ .str Ad (d.getD k d0).1 (Po d k)).isSome=false from b];simp)]
   refine cP 3 a trivial ?_;refine A1l a Tryz.underlying67 Tryz.underlying9 ?_;refine rL a trivial ?_;repeat'(first|exact trivial|apply eS rfl|apply AB|refine rX a ?_ ?_|refine rC ?_ ?_<;>intro b<;>try(cases b;done))
   generalize d.getD k d0=x at *;obtain⟨g,xs,f⟩:=x;simp only at m n E r ⊢;refine AJ (ι:={i:Nat//i<=xs.length}) (λi=>⟨[(1,.p T9 s),(5,.mp 14),(15,.p Aw d),(16,.p (.int .i64) (d.length:Int)),(17,.p (.int .i64) (k:Int)),(7,.bp 7 [] 0),(34,.p Ad xs),(35,.p (.int .i64) (xs.length:Int)),(36,.p (.int .i64) (i.1:Int))],[(14,.gen (C2 9 .str .str (Gk (g,xs,f) (YB (g,xs,f) (Po d k)) (xs.take i.1)))),(7,.box 35 true [.p T9 g,.p Ad xs,.p Lx f])]⟩) (λi=>xs.length-i.1) ⟨0,BY _⟩ (AC [(14,.nm 14),(7,.nm 7)] rfl rfl ?_ ?_) (λi=>?_)
   .rw[r];first|exact eN|refine eM ?_
    try rfl
   .first|exact eN|refine eM ?_
   obtain⟨i,hi⟩:=i;have v:=λh:i<xs.length=>LZ (g,xs,f) (YB (g,xs,f) (Po d k)) xs h;simp only;repeat'(first|exact trivial|apply eS rfl|apply AB|refine rX a ?_ ?_|refine rC ?_ ?_<;>intro b<;>try(cases b;done))
   .exact b
   .refine cP 4 a trivial ?_;refine sD a Tryz.underlying67 Tryz.underlying9 Tryz.zeroValue32 (λl=>?_) (λj row l z=>?_)
    .refine rN 3 a trivial ?_;refine bO a Tryz.underlying67 Tryz.underlying9 Tryz.underlying32 l ?_ ?_
     .show 1*16<=AN;decide
     refine rL a trivial ?_;repeat'(first|exact trivial|apply eS rfl|apply AB|refine rX a ?_ ?_|refine rC ?_ ?_<;>intro b<;>try(cases b;done))
     .exact eV
     have c:i<xs.length:=An.1 (by assumption);refine⟨⟨i+1,c⟩,by simp only;omega,AC [(14,.nm 14),(7,.nm 7)] rfl rfl ?_ ?_⟩
     .simp only;rw[v c];first|exact eN|refine eM ?_
     first|exact eN|refine eM ?_
    have q:=n i (xs.getD i ByteArray.empty);rw[show AQ .str Ad (xs.getD i ByteArray.empty) (Gk (g,xs,f) (YB (g,xs,f) (Po d k)) (List.take i xs))=some row from l]at q;have q:row.length<=d.length:=q;refine rN 3 a trivial ?_;refine bP a Tryz.underlying67 Tryz.underlying9 Tryz.underlying32 l z ?_ ?_
    .show (row.length+1)*16<=AN;simp only[AN];omega
    refine rL a trivial ?_;repeat'(first|exact trivial|apply eS rfl|apply AB|refine rX a ?_ ?_|refine rC ?_ ?_<;>intro b<;>try(cases b;done))
    .exact eV
    have c:i<xs.length:=An.1 (by assumption);refine⟨⟨i+1,c⟩,by simp only;omega,AC [(14,.nm 14),(7,.nm 7)] rfl rfl ?_ ?_⟩
    .simp only;rw[v c];first|exact eN|refine eM ?_
    first|exact eN|refine eM ?_
   .exact eV
   have c:i=xs.length:=jM hi (NO.1 (by assumption));subst c;refine⟨⟨k+1,o⟩,by simp only;omega,AC [(14,.nm 14)] rfl rfl ?_ ?_⟩
   .simp only;rw[m,TO];first|exact eN|refine eM ?_
   first|exact eN|refine eM ?_
  have r:YB (d.getD k d0) (Po d k)=Po d k:=by
   unfold YB;rw[At b]
  generalize d.getD k d0=x at *;obtain⟨g,xs,f⟩:=x;simp only at m n E r ⊢;refine AJ (ι:={i:Nat//i<=xs.length}) (λi=>⟨[(1,.p T9 s),(5,.mp 14),(15,.p Aw d),(16,.p (.int .i64) (d.length:Int)),(17,.p (.int .i64) (k:Int)),(7,.bp 7 [] 0),(34,.p Ad xs),(35,.p (.int .i64) (xs.length:Int)),(36,.p (.int .i64) (i.1:Int))],[(14,.gen (C2 9 .str .str (Gk (g,xs,f) (YB (g,xs,f) (Po d k)) (xs.take i.1)))),(7,.box 35 true [.p T9 g,.p Ad xs,.p Lx f])]⟩) (λi=>xs.length-i.1) ⟨0,BY _⟩ (AC [(14,.nm 14),(7,.nm 7)] rfl rfl ?_ ?_) (λi=>?_)
  .rw[r];first|exact eN|refine eM ?_
   try rfl
  .first|exact eN|refine eM ?_
  obtain⟨i,hi⟩:=i;have v:=λh:i<xs.length=>LZ (g,xs,f) (YB (g,xs,f) (Po d k)) xs h;simp only;repeat'(first|exact trivial|apply eS rfl|apply AB|refine rX a ?_ ?_|refine rC ?_ ?_<;>intro b<;>try(cases b;done))
  .exact b
  .refine cP 4 a trivial ?_;refine sD a Tryz.underlying67 Tryz.underlying9 Tryz.zeroValue32 (λl=>?_) (λj row l z=>?_)
   .refine rN 3 a trivial ?_;refine bO a Tryz.underlying67 Tryz.underlying9 Tryz.underlying32 l ?_ ?_
    .show 1*16<=AN;decide
    refine rL a trivial ?_;repeat'(first|exact trivial|apply eS rfl|apply AB|refine rX a ?_ ?_|refine rC ?_ ?_<;>intro b<;>try(cases b;done))
    .exact eV
    have c:i<xs.length:=An.1 (by assumption);refine⟨⟨i+1,c⟩,by simp only;omega,AC [(14,.nm 14),(7,.nm 7)] rfl rfl ?_ ?_⟩
    .simp only;rw[v c];first|exact eN|refine eM ?_
    first|exact eN|refine eM ?_
   have q:=n i (xs.getD i ByteArray.empty);rw[show AQ .str Ad (xs.getD i ByteArray.empty) (Gk (g,xs,f) (YB (g,xs,f) (Po d k)) (List.take i xs))=some row from l]at q;have q:row.length<=d.length:=q;refine rN 3 a trivial ?_;refine bP a Tryz.underlying67 Tryz.underlying9 Tryz.underlying32 l z ?_ ?_
   .show (row.length+1)*16<=AN;simp only[AN];omega
   refine rL a trivial ?_;repeat'(first|exact trivial|apply eS rfl|apply AB|refine rX a ?_ ?_|refine rC ?_ ?_<;>intro b<;>try(cases b;done))
   .exact eV
   have c:i<xs.length:=An.1 (by assumption);refine⟨⟨i+1,c⟩,by simp only;omega,AC [(14,.nm 14),(7,.nm 7)] rfl rfl ?_ ?_⟩
   .simp only;rw[v c];first|exact eN|refine eM ?_
   first|exact eN|refine eM ?_
  .exact eV
  have c:i=xs.length:=jM hi (NO.1 (by assumption));subst c;refine⟨⟨k+1,o⟩,by simp only;omega,AC [(14,.nm 14)] rfl rfl ?_ ?_⟩
  .simp only;rw[m,TO];first|exact eN|refine eM ?_
  first|exact eN|refine eM ?_
 have o:k=d.length:=jM G (NO.1 b);subst o;clear m n b;have F:=XF hs;have H:=YC B;have D:=YA (Po d d.length) s (d.map (·.1)) (by rw[Of];exact A) (λh=>by
  obtain⟨x,w,e⟩:=GK.1 ((R8 F s).1 h);exact To.2 ⟨x,w,e⟩) (λt=>by
  rw[H];refine⟨λy I=>?_,?_⟩
  .obtain⟨x,w,-,e⟩:=NX.1 I;exact To.2 ⟨x,w,e⟩
  unfold Ft;rw[Of];exact f3 (AA2 _ _) oa)
 rw[Of,iL B F]at D;refine A0p 14 ?_;refine cP 2 a ?_ ?_
 .trivial
 refine rM a (D) [(1000000,.nm 14)] [] ?_ ?_ ?_
 .first|exact eN|refine eM ?_
 .first|exact eN|refine eM ?_
 rintro _ _ ⟨rfl,rfl⟩;refine⟨[(14,.nm 1000000)],.p Ad (Ax d s),[(14,.mapo .str Ad (Po d d.length))],rfl,rfl,?_,?_,rfl,rfl,?_⟩
 .first|exact eN|refine eM ?_
 .first|exact eN|refine eM ?_
 refine rL a trivial ?_;repeat'(first|exact trivial|apply eS rfl|apply AB|refine rX a ?_ ?_|refine rC ?_ ?_<;>intro b<;>try(cases b;done))
 refine Ev.ent (σ':=⟨[(4,.p Ad (Ax d s))],[]⟩) ?_ (AC [] rfl rfl ?_ ?_)
 .exact fI a [.tmp 4]
 .first|exact eN|refine eM ?_
 first|exact eN|refine eM ?_
end
section
attribute [local go_sem] m9
def HU (d:List AD) (x:ByteArray):Bool:=decide (0<=AY d x)
theorem UH (d:List AD):∀(l o:List ByteArray),l.foldl (Dl d) o=(l.filter (HU d)).foldl C3 o
 | [],_=>rfl
 | x :: l,o=>by
  rw[No,UH d l,AAa];unfold Dl HU;by_cases h:0<=AY d x
  .rw[At h,At (AAt h),No]
  rw[As h,As (by simpa using h)]
theorem Jg (d:List AD) (l:List ByteArray):Ak d l=Y1 (l.filter (HU d)):=UH d l []
theorem K3 {α:Type} (p:α->Bool) (l:List α) (a:α) {k:Nat} (h:k<l.length):(l.take (k+1)).filter p=(l.take k).filter p++if p (l.getD k a)=true then [l.getD k a] else []:=by
 rw[Ai l a h,AAm,AAa,AAC]
theorem oM (d:List AD) (s:ByteArray):(AQ .str Ad s (IM d)).isSome=HU d s:=by
 rw[AAo,Gv];unfold HU;rw[Do]
def oO:Spec:={ ins:=[Aw,Ad],pre:=λ(_,l,_)=>List.length l<=100000/\(l:List ByteArray).Nodup,out:=λ(d,l,_)=>[.p Ad (Ak d l)] }
attribute [local go_sem] oO
theorem vA:Ap Tryz.prog 82 oO:=by
 refine fK [0,1,4,5,6,8,10,13,14,15,16,25] Tryz.func82 Tryz.ntmps82 AH ?_;rintro w0 O0 ⟨d,l,u⟩ a-⟨j,r⟩;have j:l.length<=100000:=j;have i:=Jg d l;simp only[oO,AP];repeat'(first|exact trivial|apply eS rfl|apply AB|refine rX a ?_ ?_|refine rC ?_ ?_<;>intro b<;>try(cases b;done))
 refine cP 1 a ?_ ?_
 .trivial
 refine rM a (Ve d) [] [] ?_ ?_ ?_
 .first|exact eN|refine eM ?_
 .first|exact eN|refine eM ?_
 rintro _ _ ⟨rfl,rfl⟩;refine⟨[(12,.nm 20)],.mp 12,[(12,.mapo .str Ad (IM d))],rfl,rfl,?_,?_,rfl,rfl,?_⟩
 .first|exact eN|refine eM ?_
 .first|exact eN|refine eM ?_
 refine rL a trivial ?_;repeat'(first|exact trivial|apply eS rfl|apply AB|refine rX a ?_ ?_|refine rC ?_ ?_<;>intro b<;>try(cases b;done))
 refine AJ (ι:={k:Nat//k<=l.length}) (λk=>⟨[(1,.p Ad l),(5,.mp 12),(6,.sr 29 .str 0 ((l.take k.1).filter (HU d)).length),(13,.p Ad l),(14,.p (.int .i64) (l.length:Int)),(15,.p (.int .i64) (k.1:Int))],[(12,.mapo .str Ad (IM d)),(29,.arr 9 .str ((l.take k.1).filter (HU d)))]⟩) (λk=>l.length-k.1) ⟨0,BY _⟩ (AC [(12,.nm 12),(29,.nil)] rfl rfl ?_ ?_) (λk=>?_)
 .first|exact eN|refine eM ?_
  try rfl
 .first|exact eN|refine eM ?_
  try rfl
 obtain⟨k,w⟩:=k;have v:((l.take k).filter (HU d)).length<=k:=f3 (AA2 _ _) (by rw[OS];exact ACJ _ _);have c:=λh:k<l.length=>K3 (HU d) l ByteArray.empty h;have g:=oM d (l.getD k ByteArray.empty);simp only;repeat'(first|exact trivial|apply eS rfl|apply AB|refine rX a ?_ ?_|refine rC ?_ ?_<;>intro b<;>try(cases b;done))
 .exact b
 .simp only[AN];omega
 .exact eV
 .have f:k<l.length:=An.1 (by assumption);have c:=c f;rw[At (by rw[<-g];exact b)]at c;refine⟨⟨k+1,f⟩,by simp only;omega,AC [(12,.nm 12),(29,.nm 29)] rfl rfl ?_ ?_⟩
  .simp only;rw[c];first|exact eN|refine eM ?_
  simp only;rw[c];first|exact eN|refine eM ?_
 .exact eV
 .have f:k<l.length:=An.1 (by assumption);have c:=c f;rw[As (by rw[<-g];intro e;rw[show (AQ .str Ad (l.getD k ByteArray.empty) (IM d)).isSome=false from b]at e;cases e),AAb]at c;refine⟨⟨k+1,f⟩,by simp only;omega,AC [(12,.nm 12),(29,.nm 29)] rfl rfl ?_ ?_⟩
  .simp only;rw[c];first|exact eN|refine eM ?_
  simp only;rw[c];first|exact eN|refine eM ?_
 have f:l.take k=l:=By (NO.1 b);rw[f];have m:(l.filter (HU d)).Nodup:=ACt AAT r;have o:=Na m;have s:(DF (l.filter (HU d))).length=(l.filter (HU d)).length:=(Co _).length_eq;have t:(DF (l.filter (HU d))).Nodup:=(Co _).nodup_iff.2 m;have n:Ak d l=DF (l.filter (HU d)):=by rw[i,o]
 rw[n];clear c g b n o i v;generalize l.filter (HU d)=q at *;refine cP 1 a ?_ ?_
 .trivial
 refine rM a (NU q 9) [(1000000,.nm 29)] [] ?_ ?_ ?_
 .first|exact eN|refine eM ?_
 .first|exact eN|refine eM ?_
 rintro _ _ ⟨rfl,rfl⟩;refine⟨[(29,.nm 1000000)],.raw (.tuple #[]),[(29,.arr 9 .str (DF q))],rfl,rfl,?_,?_,rfl,rfl,?_⟩
 .first|exact eN|refine eM ?_
 .first|exact eN|refine eM ?_
 refine rL a trivial ?_;repeat'(first|exact trivial|apply eS rfl|apply AB|refine rX a ?_ ?_|refine rC ?_ ?_<;>intro b<;>try(cases b;done))
 refine cP 1 a ?_ ?_
 .trivial
 refine rM a (n7 (DF q) 9 t) [(1000000,.nm 29)] [] ?_ ?_ ?_
 .first|exact eN|refine eM ?_
  exact s.symm
 .first|exact eN|refine eM ?_
 rintro _ _ ⟨rfl,rfl⟩;refine⟨[(29,.nm 1000000)],.sr 29 .str 0 (DF q).length,[(29,.arr 9 .str (DF q))],rfl,rfl,?_,?_,rfl,rfl,?_⟩
 .first|exact eN|refine eM ?_
 .first|exact eN|refine eM ?_
 refine rL a trivial ?_;repeat'(first|exact trivial|apply eS rfl|apply AB|refine rX a ?_ ?_|refine rC ?_ ?_<;>intro b<;>try(cases b;done))
 refine DH [29] ?_;refine Ev.ent (σ':=⟨[(4,.p Ad (DF q))],[]⟩) ?_ (AC [] rfl rfl ?_ ?_)
 .exact fI a [.tmp 4]
 .first|exact eN|refine eM ?_
 first|exact eN|refine eM ?_
theorem iM {d:List AD} (e:A5 d=0) {x:AD} (f:x∈d):Ix (IM d) x.1=x.2.1:=by
 obtain⟨j,b,rfl⟩:=BJ d0 f;have key:∀k,k<=d.length->j<k->AQ .str Ad (d.getD j d0).1 (Xi d k)=some (d.getD j d0).2.1:=by
  intro k;induction k with
  | zero=>intro _ h;omega
  | succ k g =>
   intro h c;rw[OY d h,Bp];by_cases hs:(d.getD j d0).1=(d.getD k d0).1
   .rw[At hs,FT e (AL b) (AL h) (Bg.2 hs)]
   rw[As hs];refine g oa ?_;rcases ABb.1 c with a|a
   .exact a
   subst a;exact absurd rfl hs
 unfold Ix IM;rw[key d.length (If _) b];rfl
theorem R9 {d:List AD} (e:A5 d=0) (t:ByteArray):Ix (IM d) t=if 0<=AY d t then Eu d t else []:=by
 by_cases h:0<=AY d t
 .rw[At h];rcases Be d t with f|⟨_,g,b⟩
  .omega
  have a:=iM e (AL (d:=d0) (by omega:(AY d t).toNat<d.length));rw[Bg.1 b]at a;rw[a];rfl
 rw[As h];unfold Ix;cases c:AQ .str Ad t (IM d) with
 | none=>rfl
 | some v=>exact absurd ((Gv d t).1 (by rw[c];rfl)) h
theorem iO {d:List AD} (b:A5 d=0) (hs:Hu d) (s:ByteArray):Jf (IM d) s d.length=Bt d s:=by
 unfold Jf Bt;rw[PX];by_cases h:0<=AY d s
 .rw[At ((Gv d s).2 h),As (AAs.2 h)]
  congr 1
  refine PY (U:=λt=>0<=AY d t) (λt a=>by rw[R9 b,At a]) (λt a y c=>?_) _ _ _ (λt a=>by rw[nO]at a;exact a▸h);rw[R9 b,At a]at c;exact Hv hs t y c
 rw[As (λe=>h ((Gv d s).1 e)),At (ABP.1 h)]
def Gl (d:List AD) (s x:ByteArray):Bool:=!AM x s&&AR (Bt d s) x
theorem iP {d:List AD} {all:List ByteArray} (m:all.Nodup) {i:Nat} (hi:i<all.length):Ju d all i all.length=!all.any (Gl d (all.getD i ByteArray.empty)):=by
 rw[AAo,OF,ABj,ACO,aS];unfold Ju;rw[IS];have f:∀k,k<all.length->(AM (all.getD k ByteArray.empty) (all.getD i ByteArray.empty)=true↔k=i):=λk a=>by
  rw[Bg];constructor
  .intro e;have g:all[k]=all[i]:=by simpa[AS,a,hi] using e
   exact(ABK m).1 g
  rintro rfl;rfl
 constructor
 .rintro h ⟨x,n,b⟩;obtain⟨k,a,rfl⟩:=BJ ByteArray.empty n;have c:=h k (gO.2 a);unfold PJ at c;unfold Gl at b;rw[AT,OF]at b;rw[b.2,ABU,ABo,AA9]at c;have:=(f k a).2 oa;rw[b.1]at this;cases this
 intro h k a;have a:=gO.1 a;unfold PJ;by_cases e:k=i
 .rw[e];simp
 rw[bY];right;cases l:AR (Bt d (all.getD i ByteArray.empty)) (all.getD k ByteArray.empty) with
 | false=>rfl
 | true =>
  refine absurd ⟨all.getD k ByteArray.empty,AL a,?_⟩ h;unfold Gl;rw[l,Bool.and_true,OF];cases j:AM (all.getD k ByteArray.empty) (all.getD i ByteArray.empty) with
  | false=>rfl
  | true=>exact absurd ((f k a).1 j) e
theorem oP (d:List AD) (s:ByteArray) (x:ByteArray):Aj Tryz.prog 84 [.p T9 x,.bp 1 [] 0,.bp 2 [] 0] [(1,.box 9 false [.p T9 s]),(2,.box 32 false [.p Ad (Bt d s)])] [1,2] (λres c=>res=.p .bool (Gl d s x)/\c=[(1,.box 9 false [.p T9 s]),(2,.box 32 false [.p Ad (Bt d s)])]):=by
 refine Er [0,1,2,4] [] [] Tryz.func84 Tryz.ntmps84 (AF nC AH) ?_;intro w0 K O0 ρ0 a e f;simp only[AX];repeat'(first|exact trivial|apply eS rfl|apply AB|refine rX a ?_ ?_|refine rC ?_ ?_<;>intro b<;>try(cases b;done))
 refine Ev.ent (σ':=⟨[(4,.p .bool (Gl d s x))],[(1,.box 9 false [.p T9 s]),(2,.box 32 false [.p Ad (Bt d s)])]⟩) ?_ (AC [(1,.nm 1),(2,.nm 2)] rfl rfl ?_ ?_)
 .exact fM a [.tmp 4] (.p .bool (Gl d s x)) eT ⟨rfl,rfl⟩
 .first|exact eN|refine eM ?_
 unfold Gl;first|exact eN|refine eM ?_
theorem oQ (d:List AD) (s:ByteArray) (l:List (ByteArray)) (q:l.length<=140737488355328):Aj Tryz.prog 131 [.p Ad l,.clo 84 [1,2]] [(1,.box 9 false [.p T9 s]),(2,.box 32 false [.p Ad (Bt d s)])] [1,2] (λres n=>res=.p T3 (CR (Gl d s) 0 l)/\n=[(1,.box 9 false [.p T9 s]),(2,.box 32 false [.p Ad (Bt d s)])]):=by
 refine Er [0,1,4,5,7,8,9,16] [] [] Tryz.func131 Tryz.ntmps131 AH ?_;intro w0 K O0 ρ0 c r t;simp only[AX];repeat'(first|exact trivial|apply eS rfl|apply AB|refine rX c ?_ ?_|refine rC ?_ ?_<;>intro a<;>try(cases a;done))
 refine AJ (ι:={k:Nat//k<=l.length/\CR (Gl d s) k (l.drop k)=CR (Gl d s) 0 l}) (λk=>⟨[(0,.p Ad l),(1,.clo 84 [1,2]),(7,.p (.int .i64) (l.length:Int)),(8,.p (.int .i64) (k.1:Int))],[(1,.box 9 false [.p T9 s]),(2,.box 32 false [.p Ad (Bt d s)])]⟩) (λk=>l.length-k.1) ⟨0,BY _,rfl⟩ (AC [(1,.nm 1),(2,.nm 2)] rfl rfl ?_ ?_) (λk=>?_)
 .first|exact eN|refine eM ?_
 .first|exact eN|refine eM ?_
 obtain⟨k,o,f⟩:=k;have m:k<l.length->∀b,(Gl d s) (l.getD k ByteArray.empty)=b->CR (Gl d s) k (l.drop k)=if b=true then (k:Int) else CR (Gl d s) (k+1) (l.drop (k+1)):=λh b e=>by rw[<-e];exact Dm (Gl d s) ByteArray.empty l h
 simp only;repeat'(first|exact trivial|apply eS rfl|apply AB|refine rX c ?_ ?_|refine rC ?_ ?_<;>intro a<;>try(cases a;done))
 .have g:k<l.length:=An.1 a;refine cP 5 c ?_ ?_
  .exact a
  have key:=oP d s (l.getD k ByteArray.empty);refine rM c (key) [(1,.nm 1),(2,.nm 2)] [] ?_ ?_ ?_
  .first|exact eN|refine eM ?_
  .first|exact eN|refine eM ?_
  rintro _ _ ⟨rfl,rfl⟩;refine⟨[(1,.nm 1),(2,.nm 2)],.p .bool ((Gl d s) (l.getD k ByteArray.empty)),[(1,.box 9 false [.p T9 s]),(2,.box 32 false [.p Ad (Bt d s)])],rfl,rfl,?_,?_,rfl,rfl,Bq ?_⟩
  .first|exact eN|refine eM ?_
  .first|exact eN|refine eM ?_
  generalize u:(Gl d s) (l.getD k ByteArray.empty)=j at *;have i:=m g j rfl;repeat'(first|exact trivial|apply eS rfl|apply AB|refine rX c ?_ ?_|refine rC ?_ ?_<;>intro a<;>try(cases a;done))
  .have a:j=true:=a;rw[At a,f]at i;refine Ev.ent (σ':=⟨[(4,.p (.int .i64) (k:Int))],[(1,.box 9 false [.p T9 s]),(2,.box 32 false [.p Ad (Bt d s)])]⟩) ?_ (AC [(1,.nm 1),(2,.nm 2)] rfl rfl ?_ ?_)
   .exact fM c [.tmp 4] (.p T3 (k:Int)) eT ⟨by rw[i],rfl⟩
   .first|exact eN|refine eM ?_
   first|exact eN|refine eM ?_
  .omega
  have a:j=false:=a;rw[As (by rw[a];simp)]at i;refine⟨⟨k+1,g,i.symm.trans f⟩,by simp only;omega,AC [(1,.nm 1),(2,.nm 2)] rfl rfl ?_ ?_⟩
  .first|exact eN|refine eM ?_
  first|exact eN|refine eM ?_
 have g:l.drop k=[]:=OR (NO.1 a);rw[g]at f;have f:(-1:Int)=CR (Gl d s) 0 l:=f;refine Ev.ent (σ':=⟨[(4,.p (.int .i64) (-1))],[(1,.box 9 false [.p T9 s]),(2,.box 32 false [.p Ad (Bt d s)])]⟩) ?_ (AC [(1,.nm 1),(2,.nm 2)] rfl rfl ?_ ?_)
 .exact fM c [.tmp 4] (.p T3 (-1)) eT ⟨by rw[f],rfl⟩
 .first|exact eN|refine eM ?_
 first|exact eN|refine eM ?_
theorem oT (d:List AD) (s:ByteArray) (l:List (ByteArray)) (f:l.length<=140737488355328):Aj Tryz.prog 86 [.p Ad l,.clo 84 [1,2]] [(1,.box 9 false [.p T9 s]),(2,.box 32 false [.p Ad (Bt d s)])] [1,2] (λres g=>res=.p .bool (l.any (Gl d s))/\g=[(1,.box 9 false [.p T9 s]),(2,.box 32 false [.p Ad (Bt d s)])]):=by
 refine Er [0,1,4] [] [] Tryz.func86 Tryz.ntmps86 AH ?_;intro w0 K O0 ρ0 a h i;simp only[AX];repeat'(first|exact trivial|apply eS rfl|apply AB|refine rX a ?_ ?_|refine rC ?_ ?_<;>intro b<;>try(cases b;done))
 refine cP 2 a ?_ ?_
 .trivial
 have key:=oQ d s l f;refine rM a (key) [(1,.nm 1),(2,.nm 2)] [] ?_ ?_ ?_
 .first|exact eN|refine eM ?_
 .first|exact eN|refine eM ?_
 rintro _ _ ⟨rfl,rfl⟩;refine⟨[(1,.nm 1),(2,.nm 2)],.p T3 (CR (Gl d s) 0 l),[(1,.box 9 false [.p T9 s]),(2,.box 32 false [.p Ad (Bt d s)])],rfl,rfl,?_,?_,rfl,rfl,?_⟩
 .first|exact eN|refine eM ?_
 .first|exact eN|refine eM ?_
 have e:=F1 (Gl d s) 0 l;generalize CR (Gl d s) 0 l=c at *;refine rL a ?_ ?_
 .trivial
 repeat'(first|exact trivial|apply eS rfl|apply AB|refine rX a ?_ ?_|refine rC ?_ ?_<;>intro b<;>try(cases b;done))
 refine Ev.ent (σ':=⟨[(4,.p .bool (decide (0<=c)))],[(1,.box 9 false [.p T9 s]),(2,.box 32 false [.p Ad (Bt d s)])]⟩) ?_ (AC [(1,.nm 1),(2,.nm 2)] rfl rfl ?_ ?_)
 .exact fM a [.tmp 4] (.p .bool (decide (0<=c))) eT ⟨by rw[e],rfl⟩
 .first|exact eN|refine eM ?_
 first|exact eN|refine eM ?_
def oU:Spec:={ ins:=[Aw,Ad],pre:=λ(d,l,_)=>A5 d=0/\Hu d/\List.length d<=256/\List.length l<=100000/\(l:List ByteArray).Nodup,out:=λ(d,l,_)=>[.p Ad (Ag d l)] }
theorem vB:Ap Tryz.prog 42 oU:=by
 refine fK [0,1,4,5,6,7,9,10,11,17,18,19,20,30] Tryz.func42 Tryz.ntmps42 (AF vA AH) ?_;rintro w0 O0 ⟨d,l,u⟩ a ⟨⟨-,n⟩,-⟩ ⟨s,hs,j,k,m⟩;have n:∀x∈d,x.2.1.length<=140737488355328:=λx c=>(n x c).2.1.1;have j:d.length<=256:=j;have k:l.length<=100000:=k;have r:Ag d l=Ik d (Ak d l) (Ak d l).length:=rfl;have D:=F0 d l;have w:(Ak d l).Nodup:=by
  rw[Jg,<-Na (ACt AAT m)];exact(Co _).nodup_iff.2 (ACt AAT m)
 have C:∀x∈Ak d l,0<=AY d x:=λx c=>by
  rw[Jg,K1,tO]at c;exact ABB c.2
 simp only[oU,AP];repeat'(first|exact trivial|apply eS rfl|apply AB|refine rX a ?_ ?_|refine rC ?_ ?_<;>intro b<;>try(cases b;done))
 .exact⟨k,m⟩
 rw[r];clear r;generalize Ak d l=all at *;refine cP 1 a ?_ ?_
 .trivial
 refine rM a (Ve d) [] [] ?_ ?_ ?_
 .first|exact eN|refine eM ?_
 .first|exact eN|refine eM ?_
 rintro _ _ ⟨rfl,rfl⟩;refine⟨[(16,.nm 20)],.mp 16,[(16,.mapo .str Ad (IM d))],rfl,rfl,?_,?_,rfl,rfl,?_⟩
 .first|exact eN|refine eM ?_
 .first|exact eN|refine eM ?_
 refine rL a trivial ?_;repeat'(first|exact trivial|apply eS rfl|apply AB|refine rX a ?_ ?_|refine rC ?_ ?_<;>intro b<;>try(cases b;done))
 refine AJ (ι:={i:Nat//i<=all.length}) (λi=>⟨[(5,.p Ad all),(6,.mp 16),(7,.sr 34 .str 0 (Ik d all i.1).length),(17,.p Ad all),(18,.p (.int .i64) (all.length:Int)),(19,.p (.int .i64) (i.1:Int))],[(16,.mapo .str Ad (IM d)),(34,.arr 9 .str (Ik d all i.1))]⟩) (λi=>all.length-i.1) ⟨0,BY _⟩ (AC [(16,.nm 16),(34,.nil)] rfl rfl ?_ ?_) (λi=>?_)
 .first|exact eN|refine eM ?_
  try rfl
 .first|exact eN|refine eM ?_
  try rfl
 obtain⟨i,hi⟩:=i;have E:=RC d all i;have f:=TY d all i;simp only;repeat'(first|exact trivial|apply eS rfl|apply AB|refine rX a ?_ ?_|refine rC ?_ ?_<;>intro b<;>try(cases b;done))
 .exact b
 .have g:i<all.length:=An.1 (by assumption);have q:=iP (d:=d) w g;have v:=YA (IM d) (all.getD i ByteArray.empty) (d.map (·.1)) (by rw[Of];exact j) (λh=>by
   obtain⟨x,c,e⟩:=GK.1 ((Gv d _).1 h);exact To.2 ⟨x,c,e⟩) (λt=>by
   rw[R9 s];refine⟨λy o=>?_,?_⟩
   .split at o
    .obtain⟨x,c,e⟩:=GK.1 (Hv hs t y o);exact To.2 ⟨x,c,e⟩
    cases o
   split
   .unfold Eu;rename_i h;rcases Be d t with z|⟨_,A,B⟩
    .omega
    exact n _ (AL oa)
   exact BY _)
  rw[Of,iO s hs]at v;refine cP 2 a ?_ ?_
  .trivial
  refine rM a (v) [(1000000,.nm 16)] [] ?_ ?_ ?_
  .first|exact eN|refine eM ?_
  .first|exact eN|refine eM ?_
  rintro _ _ ⟨rfl,rfl⟩;refine⟨[(16,.nm 1000000)],.p Ad (Bt d (all.getD i ByteArray.empty)),[(16,.mapo .str Ad (IM d))],rfl,rfl,?_,?_,rfl,rfl,?_⟩
  .first|exact eN|refine eM ?_
  .first|exact eN|refine eM ?_
  refine rL a trivial ?_;repeat'(first|exact trivial|apply eS rfl|apply AB|refine rX a ?_ ?_|refine rC ?_ ?_<;>intro b<;>try(cases b;done))
  refine cP 2 a ?_ ?_
  .trivial
  refine rM a (oT d (all.getD i ByteArray.empty) all oa) [(1,.nm 9),(2,.nm 10)] [] ?_ ?_ ?_
  .first|exact eN|refine eM ?_
  .first|exact eN|refine eM ?_
  rintro _ _ ⟨rfl,rfl⟩;refine⟨[(9,.nm 1),(10,.nm 2)],.p .bool (all.any (Gl d (all.getD i ByteArray.empty))),[(9,.box 9 false [.p T9 (all.getD i ByteArray.empty)]),(10,.box 32 false [.p Ad (Bt d (all.getD i ByteArray.empty))])],rfl,rfl,?_,?_,rfl,rfl,?_⟩
  .first|exact eN|refine eM ?_
  .first|exact eN|refine eM ?_
  refine rL a trivial ?_;repeat'(first|exact trivial|apply eS rfl|apply AB|refine rX a ?_ ?_|refine rC ?_ ?_<;>intro b<;>try(cases b;done))
  .simp only[AN];omega
  .exact eV
  .rw[q,At (by rw[show all.any (Gl d (all.getD i ByteArray.empty))=false from b];rfl)]at f;refine⟨⟨i+1,g⟩,by simp only;omega,AC [(16,.nm 16),(34,.nm 34)] rfl rfl ?_ ?_⟩
   .simp only;rw[f];first|exact eN|refine eM ?_
   simp only;rw[f];first|exact eN|refine eM ?_
  .exact eV
  rw[q,As (by rw[show all.any (Gl d (all.getD i ByteArray.empty))=true from b];simp),AAb]at f;refine⟨⟨i+1,g⟩,by simp only;omega,AC [(16,.nm 16),(34,.nm 34)] rfl rfl ?_ ?_⟩
  .simp only;rw[f];first|exact eN|refine eM ?_
  simp only;rw[f];first|exact eN|refine eM ?_
 have g:i=all.length:=jM hi (NO.1 b);subst g;refine DH [34] ?_;refine Ev.ent (σ':=⟨[(4,.p Ad (Ik d all all.length))],[]⟩) ?_ (AC [] rfl rfl ?_ ?_)
 .exact fI a [.tmp 4]
 .first|exact eN|refine eM ?_
 first|exact eN|refine eM ?_
end
section
attribute [local go_sem] dS Rg
def Sl (l:List (List Int)) (b:List Int):List (List Int):=if (decide (0<(b.length:Int))&&!OI l b)=true then l++[b] else l
def iQ (b:List Int):ByteArray:=GU (Iv b)
structure xH (kn:DT) (l:List (List Int)):Prop where
 sm:∀b∈l,Kx b/\b.length<=64
 kn:∀b,Kx b->(AQ .str .bool (iQ b) kn).getD false=OI l b
theorem SA {l:List (List Int)} {b:List Int}:OI l b=true↔b∈l:=by
 unfold OI GX;rw[aS];constructor
 .rintro⟨x,a,h⟩;exact(ABB h)▸a
 intro h;exact⟨b,h,AAt rfl⟩
theorem EY {b:List Int} (h:Kx b):Ei b:=λx a=>⟨(h x a).1,by have:=(h x a).2;omega⟩
theorem xH.add {kn:DT} {l:List (List Int)} (h:xH kn l) {b:List Int} (c:Kx b) (f:b.length<=64):xH (Bm .str .bool (iQ b) true kn) (l++[b]):=by
 refine⟨λx a=>?_,λx a=>?_⟩
 .rcases aT.1 a with a|a
  .exact h.sm x a
  rw[nO]at a;subst a;exact⟨c,f⟩
 rw[Bp,AAo,SA,aT,nO];by_cases e:iQ x=iQ b
 .rw[At e];have:=uY a c e;simp[this]
 rw[As e,h.kn x a,SA];constructor
 .exact .inl
 rintro (d|rfl)
 .exact d
 exact absurd rfl e
theorem dW (b:List Int) (l:List (List Int)) (kn:DT) (c:Kx b) (m:b.length<=64) (g:xH kn l) (o:l.length<=300) :
  Aj Tryz.prog 76 [.p BZ b,.bp 1 [] 0,.bp 2 [] 0] [(1,.box 100 false [.mp 3]),(2,.box 81 false [.sr 4 BZ 0 l.length]),(3,.mapo .str .bool kn),(4,.arr 38 BZ l)] [1,2,3]
  (λres n=>res=.raw (.tuple #[])/\∃i,xH i (Sl l b)/\n=[(1,.box 100 false [.mp 3]),(2,.box 81 false [.sr 4 BZ 0 (Sl l b).length]),(3,.mapo .str .bool i),(4,.arr 38 BZ (Sl l b))]):=by
 refine Er [0,1,2,13] [] [] Tryz.func76 Tryz.ntmps76 (AF uX AH) ?_;intro w0 K O0 ρ0 f q r;simp only[AX];have h:=g.kn b c;repeat'(first|exact trivial|apply eS rfl|apply AB|refine rX f ?_ ?_|refine rC ?_ ?_<;>intro a<;>try(cases a;done))
 .intro _;exact⟨by omega,EY c⟩
 .exact⟨by omega,EY c⟩
 .simp only[AN];omega
 .have j:OI l b=false:=by rw[<-h];exact a.2
  have d:Sl l b=l++[b]:=by unfold Sl;rw[At (by rw[j,AAt a.1];rfl)]
  rw[d];refine Ev.ent (σ':=⟨[],[(1,.box 100 false [.mp 3]),(2,.box 81 false [.sr 4 BZ 0 (l++[b]).length]),(3,.mapo .str .bool (Bm .str .bool (iQ b) true kn)),(4,.arr 38 BZ (l++[b]))]⟩) ?_ (AC [(1,.nm 1),(2,.nm 2),(3,.nm 3),(4,.nm 4)] rfl rfl ?_ ?_)
  .exact fM f [] (.raw (.tuple #[])) rfl ⟨rfl,_,g.add c m,rfl⟩
  .first|exact eN|refine eM ?_
   try rfl
  first|exact eN|refine eM ?_
 have d:Sl l b=l:=by
  unfold Sl;rw[As];intro e;rw[AT,Do,OF]at e;rw[<-h]at e;have k:(AQ .str .bool (GU (Iv b)) kn).getD false=true:=by simpa using a e.1
  rw[show (AQ .str .bool (iQ b) kn).getD false=_ from k]at e;cases e.2
 rw[d];refine Ev.ent (σ':=⟨[],[(1,.box 100 false [.mp 3]),(2,.box 81 false [.sr 4 BZ 0 l.length]),(3,.mapo .str .bool kn),(4,.arr 38 BZ l)]⟩) ?_ (AC [(1,.nm 1),(2,.nm 2),(3,.nm 3),(4,.nm 4)] rfl rfl ?_ ?_)
 .exact fM f [] (.raw (.tuple #[])) rfl ⟨rfl,kn,g,rfl⟩
 .first|exact eN|refine eM ?_
 first|exact eN|refine eM ?_
end
section
attribute [local go_sem] Rg
theorem dX {a b:List Int} (c:Kx a) (d:Kx b):CI a b=DP a b:=by
 refine MR (NQ (EY c) (EY d)) (LU (EY c) (EY d)) ?_ ?_ λi=>?_
 .unfold CI;exact DD _
 .unfold DP;exact DD _
 rw[NP (EY c) (EY d),LT (EY c) (EY d)]
theorem UI {a b:List Int} (d:Kx a) (f:Kx b):Kx (DP a b):=by
 intro w h;obtain⟨k,m,rfl⟩:=BJ (0:Int) h;rw[XT];split
 .have c:=BA (EY d) k;have e:=BA (EY f) k;rw[Eh c e];have i:(a.getD k 0).toNat &&& (b.getD k 0).toNat<=(a.getD k 0).toNat:=ABR;have j:(a.getD k 0)<1024:=by
   rename_i g;exact(d _ (AL g)).2
  have l:=c.1;omega
 omega
theorem iR (l:List (List Int)) (i k:Nat):Sl l (DP (l.getD i []) (l.getD k []))=Cs l i k:=rfl
def dY:Spec:={ ins:=[Pz],pre:=λ(c,_)=>List.length c<=256/\(c:List (List Int)).Nodup/\∀x∈(c:List (List Int)),Kx x/\x.length<=64/\x≠[],out:=λ(c,_)=>[.p Pz (if (AO c).length<=256 then AO c else []),.p .bool (decide ((AO c).length<=256))] }
attribute [local go_sem] dY
theorem vC:Ap Tryz.prog 37 dY:=by
 refine fK [0,2,3,4,5,6,8,9,10,13,14,15,16,26,31,47] Tryz.func37 Tryz.ntmps37 (AF P5 AH) ?_;rintro w0 O0 ⟨c,u⟩ f-⟨z,S,T⟩;have z:c.length<=256:=z;simp only[dY,AP];repeat'(first|exact trivial|apply eS rfl|apply AB|refine rX f ?_ ?_|refine rC ?_ ?_<;>intro a<;>try(cases a;done))
 refine AJ (ι:={x:Nat×DT//x.1<=c.length/\xH x.2 (c.take x.1)}) (λx=>⟨[(6,.clo 76 [4,5]),(5,.bp 5 [] 0),(4,.bp 4 [] 0),(13,.p Pz c),(14,.p (.int .i64) (c.length:Int)),(15,.p (.int .i64) (x.1.1:Int))],[(4,.box 100 false [.mp 11]),(5,.box 81 false [.sr 20 BZ 0 (c.take x.1.1).length]),(11,.mapo .str .bool x.1.2),(20,.arr 38 BZ (c.take x.1.1))]⟩) (λx=>c.length-x.1.1) ⟨(0,[]),BY _,⟨λb R=>by simp at R,λb _=>rfl⟩⟩ (AC [(4,.nm 4),(5,.nm 5),(11,.nm 11),(20,.nil)] rfl rfl ?_ ?_) (λx=>?_)
 .first|exact eN|refine eM ?_
  try rfl
 .first|exact eN|refine eM ?_
  try rfl
 obtain⟨⟨k,kn⟩,s,g⟩:=x;simp only at s g ⊢;have W:(c.take k).length=k:=by rw[OS];omega
 repeat'(first|exact trivial|apply eS rfl|apply AB|refine rX f ?_ ?_|refine rC ?_ ?_<;>intro a<;>try(cases a;done))
 .exact a
 .have h:k<c.length:=An.1 a;have E:=T _ (AL (d:=([]:List Int)) h);have P:Sl (c.take k) (c.getD k [])=c.take (k+1):=by
   rw[Ai c [] h];unfold Sl;rw[At];rw[AT,Do,OF];refine⟨by have:=ABM.2 E.2.2;omega,?_⟩;cases V:OI (c.take k) (c.getD k []) with
   | false=>rfl
   | true =>
    obtain⟨j,ab,e⟩:=AAS.1 (SA.1 V);have M:c[j]=c[k]:=by rw[e];simp[AS,h]
    have:=(ABK S).1 M;omega
  have r:=dW (c.getD k []) (c.take k) kn E.1 E.2.1 g oa;rw[P]at r;refine cP 2 f ?_ ?_
  .trivial
  refine rM f (r) [(1,.nm 4),(2,.nm 5),(3,.nm 11),(4,.nm 20)] [20] ?_ ?_ ?_
  .first|exact eN|refine eM ?_
  .first|exact eN|refine eM ?_
  rintro _ _ ⟨rfl,J,N,rfl⟩;refine⟨[(4,.nm 1),(5,.nm 2),(11,.nm 3),(20,.nm 4)],.raw (.tuple #[]),[(4,.box 100 false [.mp 11]),(5,.box 81 false [.sr 20 BZ 0 (c.take (k+1)).length]),(11,.mapo .str .bool J),(20,.arr 38 BZ (c.take (k+1)))],rfl,rfl,?_,?_,rfl,rfl,?_⟩
  .first|exact eN|refine eM ?_
  .first|exact eN|refine eM ?_
  refine rL f trivial ?_;repeat'(first|exact trivial|apply eS rfl|apply AB|refine rX f ?_ ?_|refine rC ?_ ?_<;>intro a<;>try(cases a;done))
  .exact eV
  refine⟨⟨(k+1,J),h,N⟩,by simp only;omega,AC [(4,.nm 4),(5,.nm 5),(11,.nm 11),(20,.nm 20)] rfl rfl ?_ ?_⟩
  .first|exact eN|refine eM ?_
  first|exact eN|refine eM ?_
 have h:c.take k=c:=By (NO.1 a);rw[h]at g ⊢;clear W s a h;refine AJ (ι:={x:Nat×List (List Int)×DT//x.1<=x.2.1.length/\x.2.1.length<=256/\GC (257-x.1) x.1 x.2.1=AO c/\xH x.2.2 x.2.1}) (λx=>⟨[(6,.clo 76 [4,5]),(5,.bp 5 [] 0),(4,.bp 4 [] 0),(9,.p (.int .i64) (x.1.1:Int))],[(4,.box 100 false [.mp 11]),(5,.box 81 false [.sr 20 BZ 0 (x.1.2.1).length]),(11,.mapo .str .bool x.1.2.2),(20,.arr 38 BZ (x.1.2.1))]⟩) (λx=>257-x.1.1) ⟨(0,c,kn),BY _,z,rfl,g⟩ (AC [(4,.nm 4),(5,.nm 5),(11,.nm 11),(20,.nm 20)] rfl rfl ?_ ?_) (λx=>?_)
 .first|exact eN|refine eM ?_
  try rfl
 .first|exact eN|refine eM ?_
  try rfl
 obtain⟨⟨i,l,kn⟩,hi,w,B,g⟩:=x;simp only at hi w B g ⊢;repeat'(first|exact trivial|apply eS rfl|apply AB|refine rX f ?_ ?_|refine rC ?_ ?_<;>intro a<;>try(cases a;done))
 .have H:i<l.length:=An.1 a;have t:GC (257-(i+1)) (i+1) (D2 i i 0 l)=AO c:=by
   rw[<-B,show 257-i=(257-(i+1))+1 by omega];show _=if i<l.length/\l.length<=256 then GC (257-(i+1)) (i+1) (D2 i i 0 l) else l
   rw[At ⟨H,w⟩]
  refine AJ (ι:={y:Nat×List (List Int)×DT//y.1<=i/\i<y.2.1.length/\y.2.1.length<=256/\D2 i (i-y.1) y.1 y.2.1=D2 i i 0 l/\xH y.2.2 y.2.1}) (λy=>⟨[(6,.clo 76 [4,5]),(5,.bp 5 [] 0),(4,.bp 4 [] 0),(9,.p (.int .i64) (i:Int)),(10,.p (.int .i64) (y.1.1:Int))],[(4,.box 100 false [.mp 11]),(5,.box 81 false [.sr 20 BZ 0 (y.1.2.1).length]),(11,.mapo .str .bool y.1.2.2),(20,.arr 38 BZ (y.1.2.1))]⟩) (λy=>i-y.1.1) ⟨(0,l,kn),BY _,H,w,rfl,g⟩ (AC [(4,.nm 4),(5,.nm 5),(11,.nm 11),(20,.nm 20)] rfl rfl ?_ ?_) (λy=>?_)
  .first|exact eN|refine eM ?_
   try rfl
  .first|exact eN|refine eM ?_
   try rfl
  obtain⟨⟨k,m,K⟩,s,v,D,o,q⟩:=y;simp only at s v D o q ⊢;repeat'(first|exact trivial|apply eS rfl|apply AB|refine rX f ?_ ?_|refine rC ?_ ?_<;>intro a<;>try(cases a;done))
  .have C:k<i:=An.1 a;have F:=q.sm _ (AL (d:=([]:List Int)) v);have I:=q.sm _ (AL (d:=([]:List Int)) (show k<m.length by omega));have Q:=dX F.1 I.1;have r:=dW (DP (m.getD i []) (m.getD k [])) m K (UI F.1 I.1) (f3 (RI _ _) F.2) q oa;rw[iR]at r;have Z:=XH m i k;have G:D2 i (i-(k+1)) (k+1) (Cs m i k)=D2 i i 0 l:=by
    rw[<-o,show i-k=(i-(k+1))+1 by omega];show _=if m.length<=256 then D2 i (i-(k+1)) (k+1) (Cs m i k) else m
    rw[At D]
   refine cD 10 f ?_ ?_
   .exact⟨An.2 v,An.2 oa,by omega⟩
   rw[Q];refine rM f (r) [(1,.nm 4),(2,.nm 5),(3,.nm 11),(4,.nm 20)] [20] ?_ ?_ ?_
   .first|exact eN|refine eM ?_
   .first|exact eN|refine eM ?_
   rintro _ _ ⟨rfl,L,O,rfl⟩;refine⟨[(4,.nm 1),(5,.nm 2),(11,.nm 3),(20,.nm 4)],.raw (.tuple #[]),[(4,.box 100 false [.mp 11]),(5,.box 81 false [.sr 20 BZ 0 (Cs m i k).length]),(11,.mapo .str .bool L),(20,.arr 38 BZ (Cs m i k))],rfl,rfl,?_,?_,rfl,rfl,?_⟩
   .first|exact eN|refine eM ?_
   .first|exact eN|refine eM ?_
   refine rL f trivial ?_;repeat'(first|exact trivial|apply eS rfl|apply AB|refine rX f ?_ ?_|refine rC ?_ ?_<;>intro a<;>try(cases a;done))
   .have Y:256<(Cs m i k).length:=An.1 a;have U:D2 i i 0 l=Cs m i k:=by
     rw[<-G];cases i-(k+1) with
     | zero=>rfl
     | succ n =>
      show (if (Cs m i k).length<=256 then _ else Cs m i k)=Cs m i k;rw[As oa]
    rw[U]at t;have A:AO c=Cs m i k:=by
     rw[<-t];cases 257-(i+1) with
     | zero=>rfl
     | succ n =>
      show (if (i+1)<(Cs m i k).length/\(Cs m i k).length<=256 then _ else Cs m i k)=Cs m i k;rw[As oa]
    rw[A,As oa,ABx (show ¬(Cs m i k).length<=256 by omega)];refine Ev.ent (σ':=⟨[(2,.raw (.slice none 0 0)),(3,.p .bool false)],[]⟩) ?_ (AC [] rfl rfl ?_ ?_)
    .exact fI f [.tmp 2,.tmp 3]
    .first|exact eN|refine eM ?_
    first|exact eN|refine eM ?_
   .exact eV
   have X:(Cs m i k).length<=256:=NO.1 a;refine⟨⟨(k+1,Cs m i k,L),C,(show i<(Cs m i k).length by omega),X,G,O⟩,by simp only;omega,AC [(4,.nm 4),(5,.nm 5),(11,.nm 11),(20,.nm 20)] rfl rfl ?_ ?_⟩
   .first|exact eN|refine eM ?_
   first|exact eN|refine eM ?_
  .exact eV
  have C:k=i:=jM s (NO.1 a);subst C;rw[ABy]at o;have o:m=D2 k k 0 l:=o;rw[<-o]at t;refine⟨⟨(k+1,m,K),v,D,t,q⟩,by simp only;omega,AC [(4,.nm 4),(5,.nm 5),(11,.nm 11),(20,.nm 20)] rfl rfl ?_ ?_⟩
  .first|exact eN|refine eM ?_
  first|exact eN|refine eM ?_
 have aa:l.length<=i:=NO.1 a;have A:AO c=l:=by
  rw[<-B];cases 257-i with
  | zero=>rfl
  | succ n =>
   show (if i<l.length/\l.length<=256 then _ else l)=l;rw[As oa]
 rw[A,At w];have e:decide ((l.length:Int)<=256)=decide (l.length<=256):=by
  rw[AC8];omega
 rw[e];refine DH [20] ?_;refine Ev.ent (σ':=⟨[(2,.p Pz l),(3,.p .bool (decide (l.length<=256)))],[]⟩) ?_ (AC [] rfl rfl ?_ ?_)
 .exact fI f [.tmp 2,.tmp 3]
 .first|exact eN|refine eM ?_
 first|exact eN|refine eM ?_
end
section
attribute [local go_sem] YD bsS uH
theorem Vz (d:Nat->Bool) (k n:Nat) (e:∀t,t<k->d t=true) (g:∀t,k<=t->t<n->d t=false):∀(f lo hi:Nat),hi-lo<=f->lo<=k->k<=hi->hi<=n->Lib.bsGo d f lo hi=k
 | 0,lo,hi,i,a,b,_=>by simp[Lib.bsGo];omega
 | f+1,lo,hi,i,a,b,c=>by
  unfold Lib.bsGo;by_cases h:lo<hi
  .rw[At h];by_cases j:(lo+hi) / 2<k
   .rw[e _ j,At rfl];exact Vz d k n e g f _ _ oa oa b c
   rw[g _ oa oa];exact Vz d k n e g f _ _ oa a oa oa
  rw[As h];omega
theorem oV {l:List ByteArray} (h:Kv l) {i j:Nat} (b:i<j) (a:j<l.length):Bh (l.getD i ByteArray.empty) (l.getD j ByteArray.empty)=true:=by
 have:=(iN.1 h) i j oa a b;simpa[AS,show i<l.length by omega,a] using this
theorem SB {l:List ByteArray} (h:Kv l) {i:Nat} (hi:i<l.length):n9 l (l.getD i ByteArray.empty)=i:=by
 unfold n9;refine Vz _ i l.length (λt b=>oV h b hi) (λt b d=>?_) _ _ _ oa (BY _) oa (If _);show Bh (l.getD t ByteArray.empty) (l.getD i ByteArray.empty)=false;cases c:Bh (l.getD t ByteArray.empty) (l.getD i ByteArray.empty) with
 | false=>rfl
 | true =>
  rcases Nat.lt_or_eq_of_le b with a|a
  .exact absurd (FB (oV h a d) c) Cw
  subst a;exact absurd c Cw
theorem UJ {R:ByteArray->List ByteArray} {U:ByteArray->Prop} (c:∀s,U s->∀t∈R s,U t):∀(n i:Nat) (o:List ByteArray),(∀s∈o,U s)->∀s∈EF R n i o,U s
 | 0,_,_,a=>a
 | n+1,i,o,a=>by
  unfold EF;split
  .rename_i hi;have d:=a (o.getD i ByteArray.empty) (AL hi);refine UJ c n (i+1) _ λs hs=>?_;rcases GJ.1 hs with b|b
   .exact a s b
   exact c _ d s b
  exact a
theorem Jh {d:List AD} {s x:ByteArray} (h:x∈Ax d s):0<=AY d x:=by
 unfold Ax at h;split at h
 .cases h
 rename_i hs;rw[K1,K2]at h;refine UJ (U:=λt=>0<=AY d t) (λt _ y b=>?_) _ _ _ (λt a=>by rw[nO]at a;subst a;exact AAs.1 hs) x h;obtain⟨z,c,-,e⟩:=NX.1 b;exact GK.2 ⟨z,c,e⟩
theorem Lb {d:List AD}:AG d=Y1 (d.map (·.1)):=by
 have key:∀(l:List AD) (o:List ByteArray),l.foldl (λo x=>C3 o x.1) o=(l.map (·.1)).foldl C3 o:=by
  intro l;induction l with
  | nil=>intro o;rfl
  | cons x l a=>intro o;exact a _
 exact key d []
theorem HV (d:List AD):Kv (AG d):=by rw[Lb];exact La _
theorem Iy {d:List AD} {s:ByteArray}:s∈AG d↔0<=AY d s:=by
 rw[Lb,K1,GK,To]
theorem V0 {d:List AD} (a:A5 d=0):DF (d.map (·.1))=AG d:=by rw[Lb,Na (GI a)]
def SC (names l:List ByteArray):List Int:=l.map λs=>(n9 names s:Int)
theorem dZ {d:List AD} {s:ByteArray} {i:Int}:i∈SC (AG d) (Ax d s)↔i∈Kj (Ax d s) (AG d) (AG d).length:=by
 unfold SC Kj;rw[To,To];constructor
 .rintro⟨x,b,rfl⟩;obtain⟨j,a,rfl⟩:=BJ ByteArray.empty (Iy.2 (Jh b));rw[SB (HV d) a];exact⟨j,tO.2 ⟨gO.2 a,BF.2 b⟩,rfl⟩
 rintro⟨j,a,rfl⟩;obtain⟨c,e⟩:=tO.1 a;exact⟨_,BF.1 e,by rw[SB (HV d) (gO.1 c)]⟩
theorem DU (d:List AD):(AG d).length<=d.length:=by
 rw[Lb];have:=OE (d.map (·.1))
 rwa [Of]at this
theorem oW {d:List AD} (b:d.length<=256) (s:ByteArray):(SC (AG d) (Ax d s)).all YV=true:=by
 have h:=VP (low:=Ax d s) (all:=AG d) (n:=(AG d).length) (by have:=DU d;omega);rw[IS]at h ⊢;exact λx a=>h x (dZ.1 a)
theorem oX {d:List AD} (c:d.length<=256) (s:ByteArray):(ZT (SC (AG d) (Ax d s))).1=DN d (AG d) s:=by
 have a:=oW c s;have b:=VP (low:=Ax d s) (all:=AG d) (n:=(AG d).length) (by have:=DU d;omega);unfold DN ZT;rw[At a,At b];refine MR (Ex (LP a 0).2) (Ex (LP b 0).2) (DD _) (DD _) λi=>?_;rw[Ew,Ew,(LP a i).1,(LP b i).1,AC8];exact dZ
def K4 (d:List AD) (i:Nat):List (List Int):=HL d i++List.replicate ((AG d).length-i) []
theorem iT {d:List AD} {i:Nat} (h:i<=(AG d).length):(K4 d i).length=(AG d).length:=by
 unfold K4;rw[YT,JW h,AC3];omega
theorem iU {d:List AD} {i:Nat} (h:i<(AG d).length):(K4 d i).set i (DN d (AG d) ((AG d).getD i ByteArray.empty))=K4 d (i+1):=by
 unfold K4;rw[PO h,show (AG d).length-i=((AG d).length-(i+1))+1 by omega,List.replicate_succ,List.set_append_right _ _ (by rw[JW oa];exact If _),JW oa,ABy,List.set_cons_zero,oN];rfl
theorem Z1 (d:List AD):K4 d 0=List.replicate (AG d).length []:=by
 unfold K4 HL;simp
theorem UK (d:List AD):K4 d (AG d).length=AK d:=by
 unfold K4;rw[RR,ABy];simp
theorem oY (names l:List ByteArray) {j:Nat} (h:j<l.length):SC names (l.take (j+1))=SC names (l.take j)++[(n9 names (l.getD j ByteArray.empty):Int)]:=by
 unfold SC;rw[Ai l ByteArray.empty h,AA7];rfl
theorem A0U {d:List AD} {s:ByteArray} (h:0<=AY d s):n9 (AG d) s<(AG d).length:=by
 obtain⟨j,a,rfl⟩:=BJ ByteArray.empty (Iy.2 h);rw[SB (HV d) a];exact a
theorem Z2 (d:List AD) (s:ByteArray):(Ax d s).length<=d.length:=by
 have c:(Ax d s).Nodup:=by
  unfold Ax;split
  .exact List.nodup_nil
  refine(La _).imp λ{a b} h e=>?_;subst e;exact Cw h
 have:=Dt c (l':=AG d) λx f=>Iy.2 (Jh f);have:=DU d;omega
def d3:Spec:={ ins:=[Aw],pre:=λ(d,_)=>A5 d=0/\C4 d=0/\List.length d<=256,out:=λ(d,_)=>[.p Ad (AG d),.p Pz (AK d)] }
attribute [local go_sem] d3
theorem vD:Ap Tryz.prog 36 d3:=by
 refine fK [0,2,3,4,6,7,8,9,10,12,13,15,16,17,18,32,33,34,35,41,42,43,44] Tryz.func36 Tryz.ntmps36 (AF dV (AF A0O (AF yW AH))) ?_;rintro w0 O0 ⟨d,u⟩ c-⟨w,hs,m⟩;have m:d.length<=256:=m;simp only[d3,AP];repeat'(first|exact trivial|apply eS rfl|apply AB|refine rX c ?_ ?_|refine rC ?_ ?_<;>intro a<;>try(cases a;done))
 refine AJ (ι:={k:Nat//k<=d.length}) (λk=>⟨[(0,.p Aw d),(4,.sr 25 .str 0 ((d.take k.1).map (·.1)).length),(15,.p Aw d),(16,.p (.int .i64) (d.length:Int)),(17,.p (.int .i64) (k.1:Int))],[(25,.arr 9 .str ((d.take k.1).map (·.1)))]⟩) (λk=>d.length-k.1) ⟨0,BY _⟩ (AC [(25,.nil)] rfl rfl ?_ ?_) (λk=>?_)
 .first|exact eN|refine eM ?_
  try rfl
 .first|exact eN|refine eM ?_
  try rfl
 obtain⟨k,A⟩:=k;have v:((d.take k).map (·.1)).length=k:=by rw[Of,OS];omega
 have s:∀h:k<d.length,(d.take (k+1)).map (·.1)=(d.take k).map (·.1)++[(d.getD k d0).1]:=λh=>by rw[Ai d d0 h,AA7];rfl
 simp only;repeat'(first|exact trivial|apply eS rfl|apply AB|refine rX c ?_ ?_|refine rC ?_ ?_<;>intro a<;>try(cases a;done))
 .exact a
 .simp only[AN];have:k<d.length:=An.1 (by assumption);rw[v];omega
 .exact eV
 .have l:k<d.length:=An.1 (by assumption);refine⟨⟨k+1,l⟩,by simp only;omega,AC [(25,.nm 25)] rfl rfl ?_ ?_⟩
  .simp only;rw[s l];first|exact eN|refine eM ?_
  simp only;rw[s l];first|exact eN|refine eM ?_
 have l:d.take k=d:=By (NO.1 a);rw[l];have o:=V0 w;have q:(DF (d.map (·.1))).length=(d.map (·.1)).length:=(Co _).length_eq;rw[o]at q;have r:=NU (d.map (·.1)) 9;rw[o]at r;clear s v A a l;refine cP 1 c ?_ ?_
 .trivial
 refine rM c (r) [(1000000,.nm 25)] [] ?_ ?_ ?_
 .first|exact eN|refine eM ?_
 .first|exact eN|refine eM ?_
 rintro _ _ ⟨rfl,rfl⟩;refine⟨[(25,.nm 1000000)],.raw (.tuple #[]),[(25,.arr 9 .str (AG d))],rfl,rfl,?_,?_,rfl,rfl,?_⟩
 .first|exact eN|refine eM ?_
 .first|exact eN|refine eM ?_
 refine rL c trivial ?_;rw[<-q];refine DH [25] ?_;repeat'(first|exact trivial|apply eS rfl|apply AB|refine rX c ?_ ?_|refine rC ?_ ?_<;>intro a<;>try(cases a;done))
 .have:=DU d;simp only[AN];omega
 clear r q o;have G:=DU d;refine AJ (ι:={i:Nat//i<=(AG d).length}) (λi=>⟨[(0,.p Aw d),(4,.p Ad (AG d)),(7,.sr 31 BZ 0 (AG d).length),(32,.p Ad (AG d)),(33,.p (.int .i64) ((AG d).length:Int)),(34,.p (.int .i64) (i.1:Int))],[(31,.arr 38 BZ (K4 d i.1))]⟩) (λi=>(AG d).length-i.1) ⟨0,BY _⟩ (AC [(31,.nm 31)] rfl rfl ?_ ?_) (λi=>?_)
 .rw[Z1];first|exact eN|refine eM ?_
  try rfl
 .first|exact eN|refine eM ?_
  try rfl
 obtain⟨i,hi⟩:=i;have t:=iT hi;have n:=λh:i<(AG d).length=>iU h;simp only;repeat'(first|exact trivial|apply eS rfl|apply AB|refine rX c ?_ ?_|refine rC ?_ ?_<;>intro a<;>try(cases a;done))
 .exact a
 .exact⟨w,hs,m⟩
 .have f:i<(AG d).length:=An.1 (by assumption);have n:=n f;have z:=λx (h:x∈Ax d ((AG d).getD i ByteArray.empty))=>A0U (Jh h);have E:=Z2 d ((AG d).getD i ByteArray.empty);have D:=oW m ((AG d).getD i ByteArray.empty);have C:=oX m ((AG d).getD i ByteArray.empty);generalize Ax d ((AG d).getD i ByteArray.empty)=b at *;have B:AG d≠[]:=λe=>by rw[e]at f;cases f
  refine AJ (ι:={j:Nat//j<=b.length}) (λj=>⟨[(0,.p Aw d),(4,.p Ad (AG d)),(7,.sr 31 BZ 0 (AG d).length),(32,.p Ad (AG d)),(33,.p (.int .i64) ((AG d).length:Int)),(34,.p (.int .i64) (i:Int)),(8,.p (.int .i64) (i:Int)),(10,.sr 56 T3 0 (SC (AG d) (b.take j.1)).length),(41,.p Ad b),(42,.p (.int .i64) (b.length:Int)),(43,.p (.int .i64) (j.1:Int))],[(31,.arr 38 BZ (K4 d i)),(56,.arr 3 T3 (SC (AG d) (b.take j.1)))]⟩) (λj=>b.length-j.1) ⟨0,BY _⟩ (AC [(31,.nm 31),(56,.nil)] rfl rfl ?_ ?_) (λj=>?_)
  .first|exact eN|refine eM ?_
   try rfl
  .first|exact eN|refine eM ?_
   try rfl
  obtain⟨j,F⟩:=j;have H:(SC (AG d) (b.take j)).length=j:=by unfold SC;rw[Of,OS];omega
  have y:=λh:j<b.length=>oY (AG d) b h;simp only;repeat'(first|exact trivial|apply eS rfl|apply AB|refine rX c ?_ ?_|refine rC ?_ ?_<;>intro a<;>try(cases a;done))
  .exact a
  .have g:j<b.length:=An.1 a;have:=z _ (AL (d:=ByteArray.empty) g);exact⟨B,by omega⟩
  .simp only[AN];omega
  .exact eV
  .have g:j<b.length:=An.1 (by assumption);refine⟨⟨j+1,g⟩,by simp only;omega,AC [(31,.nm 31),(56,.nm 56)] rfl rfl ?_ ?_⟩
   .simp only;rw[y g];first|exact eN|refine eM ?_
   simp only;rw[y g];first|exact eN|refine eM ?_
  have g:b.take j=b:=By (NO.1 a);rw[g];refine DH [56] ?_;repeat'(first|exact trivial|apply eS rfl|apply AB|refine rX c ?_ ?_|refine rC ?_ ?_<;>intro a<;>try(cases a;done))
  .exact⟨D,An.2 f⟩
  .exact eV
  rw[C,n];refine⟨⟨i+1,f⟩,by simp only;omega,AC [(31,.nm 31)] rfl rfl ?_ ?_⟩
  .first|exact eN|refine eM ?_
  first|exact eN|refine eM ?_
 have f:i=(AG d).length:=jM hi (NO.1 (by assumption));subst f;rw[UK];rw[UK]at t;rw[<-t];refine DH [31] ?_;refine Ev.ent (σ':=⟨[(2,.p Ad (AG d)),(3,.p Pz (AK d))],[]⟩) ?_ (AC [] rfl rfl ?_ ?_)
 .exact fI c [.tmp 2,.tmp 3]
 .first|exact eN|refine eM ?_
 first|exact eN|refine eM ?_
end
section
attribute [local go_sem] Xz c8 H1 Vi
def BN (a b:AI):Int:=xD [NT (EE b.2) (EE a.2),MT a.1 b.1]
theorem iV (a b:ByteArray):MT b a=- MT a b:=by
 unfold MT;by_cases c:Bh a b=true
 .have d:¬Bh b a=true:=λh=>Cw (FB c h);have e:¬AM b a=true:=λh=>by rw[Bg]at h;subst h;exact Cw c
  rw[At c,As d,As e];rfl
 by_cases d:Bh b a=true
 .have e:¬AM a b=true:=λh=>by rw[Bg]at h;subst h;exact Cw d
  rw[As c,At d,As e]
 have e:AM a b=true:=IN λh=>d (Xc c h);rw[As c,As d,At e,At (CX e)];rfl
theorem oZ {a b:ByteArray}:MT a b<0↔Bh a b=true:=by
 unfold MT;by_cases c:Bh a b=true
 .rw[At c];simp[c]
 rw[As c];constructor
 .intro h;split at h<;>omega
 intro h;exact absurd h c
theorem iW {a b:ByteArray}:MT a b=0↔a=b:=by
 unfold MT;by_cases d:Bh a b=true
 .rw[At d];constructor
  .intro h;omega
  rintro rfl;exact absurd d Cw
 rw[As d];by_cases c:AM a b=true
 .rw[At c];simp[Bg.1 c]
 rw[As c];constructor
 .intro h;omega
 rintro rfl;exact absurd (B3 _) c
theorem P9 (a b:AI):BN a b=if EE a.2=EE b.2 then MT a.1 b.1 else NT (EE b.2) (EE a.2):=by
 unfold BN;show (if NT (EE b.2) (EE a.2)=0 then (if MT a.1 b.1=0 then (0:Int) else MT a.1 b.1) else NT (EE b.2) (EE a.2))=_;by_cases h:EE a.2=EE b.2
 .rw[At (y4.2 h.symm),At h];split
  .rename_i c;exact c.symm
  rfl
 rw[As (λe=>h (y4.1 e).symm),As h]
theorem SD {a b:AI}:BN a b<0↔EE b.2<EE a.2\/(EE a.2=EE b.2/\Bh a.1 b.1=true):=by
 rw[P9];by_cases h:EE a.2=EE b.2
 .rw[At h,oZ];constructor
  .intro c;exact .inr ⟨h,c⟩
  rintro (c|c)
  .omega
  exact c.2
 rw[As h];unfold NT;constructor
 .intro c;left;split at c<;>(try split at c)<;>omega
 rintro (c|c)
 .rw[At c];decide
 exact absurd c.1 h
theorem BK:SO BN:=by
 refine⟨λa b=>?_,λ{a b c} d f=>?_⟩
 .rw[P9,P9];by_cases h:EE a.2=EE b.2
  .rw[At h,At h.symm,iV]
  rw[As h,As (λe=>h e.symm)];unfold NT
  (repeat' split)<;>omega
 rw[SD]at d f ⊢;rcases d with d|⟨d,g1⟩<;>rcases f with f|⟨f,g⟩
 .left;omega
 .left;omega
 .left;omega
 exact .inr ⟨by omega,FB g1 g⟩
def SE:Spec:={ ins:=[Bv,Bv],pre:=λ_=>True,out:=λ(a,b,_)=>[.p T3 (BN a b)],lend:=true }
attribute [local go_sem] SE
theorem Lc:Ap Tryz.prog 44 SE:=by
 refine fK [0,1,2,3,4] Tryz.func44 Tryz.ntmps44 (AF Vt (AF Si (AF uB (AF nN AH)))) ?_;rintro w0 O0 ⟨a,b,u⟩ c - -;simp only[SE,AP];repeat'(first|exact trivial|apply eS rfl|apply AB|refine rX c ?_ ?_|refine rC ?_ ?_<;>intro d<;>try(cases d;done))
 refine Ev.ent (σ':=⟨[(4,.p T3 (BN a b))],[]⟩) ?_ (AC [] rfl rfl ?_ ?_)
 .exact fI c [.tmp 4]
 .first|exact eN|refine eM ?_
 unfold BN;first|exact eN|refine eM ?_
end
section
attribute [local go_sem] SE
theorem vE (l:List (ByteArray×List Int)) (O:l.length<=100000) (A:WC BN (ByteArray.empty,[]) l) (a b:Nat) (J:a<=100000) (L:b<=l.length):Aj Tryz.prog 132 [.sr 1000000 Bv 0 l.length,.p T3 (a:Int),.p T3 (b:Int),.fn 44] [(1000000,.arr 61 Bv l)] [1000000] (λres H=>res=.raw (.tuple #[])/\∃r,H=[(1000000,.arr 61 Bv r)]/\Df (ByteArray.empty,[]) a b l r/\PU BN (ByteArray.empty,[]) a b r):=by
 refine Er [0,1,2,3,8,9,14,34] [] [] Tryz.func132 Tryz.ntmps132 (AF Lc AH) ?_;intro w0 K O0 ρ0 d Q R;simp only[AX];repeat'(first|exact trivial|apply eS rfl|apply AB|refine rX d ?_ ?_|refine rC ?_ ?_<;>intro e<;>try(cases e;done))
 .omega
 refine AJ (ι:={s:Nat×List (ByteArray×List Int)//a+1<=s.1/\(s.1=a+1\/s.1<=b)/\Df (ByteArray.empty,[]) a b l s.2/\PU BN (ByteArray.empty,[]) a s.1 s.2}) (λs=>⟨[(0,.sr 1000000 Bv 0 l.length),(1,.p T3 (a:Int)),(2,.p T3 (b:Int)),(3,.fn 44),(8,.p (.int .i64) (s.1.1:Int))],[(1000000,.arr 61 Bv s.1.2)]⟩) (λs=>b-s.1.1) ⟨(a+1,l),If _,.inl rfl,Df.refl a b l,Vj a l⟩ (AC [(1000000,.nm 1000000)] rfl rfl ?_ ?_) (λs=>?_)
 .first|exact eN|refine eM ?_
 .first|exact eN|refine eM ?_
 obtain⟨⟨i,m⟩,D,E,hp,hs⟩:=s;simp only at D E hp hs ⊢;have P:=hp.len;repeat'(first|exact trivial|apply eS rfl|apply AB|refine rX d ?_ ?_|refine rC ?_ ?_<;>intro e<;>try(cases e;done))
 .have F:i<b:=by exact eV
  refine AJ (ι:={t:Nat×List (ByteArray×List Int)//a<=t.1/\t.1<=i/\Df (ByteArray.empty,[]) a b l t.2/\Zs BN (ByteArray.empty,[]) a i t.1 t.2}) (λt=>⟨[(0,.sr 1000000 Bv 0 l.length),(1,.p T3 (a:Int)),(2,.p T3 (b:Int)),(3,.fn 44),(8,.p (.int .i64) (i:Int)),(9,.p (.int .i64) (t.1.1:Int))],[(1000000,.arr 61 Bv t.1.2)]⟩) (λt=>t.1.1) ⟨(i,m),by omega,If i,hp,Zt hs⟩ (AC [(1000000,.nm 1000000)] rfl rfl ?_ ?_) (λt=>?_)
  .first|exact eN|refine eM ?_
  .first|exact eN|refine eM ?_
  obtain⟨⟨j,c⟩,u,q,g,o⟩:=t;simp only at u q g o ⊢;have M:=g.len;have B:=A.perm BK g.perm;repeat'(first|exact trivial|apply eS rfl|apply AB|refine rX d ?_ ?_)
  .dsimp only[Ty.den]at *;exact⟨λ_=>by omega,λ_=>⟨by omega,by omega⟩,λ_=>⟨by omega,by omega⟩⟩
  have n:a<j->((j:Int)-1).toNat=j-1:=λ_=>by omega
  refine DK (by simp only[go_sem,Nat.reduceEqDiff,reduceCtorEq,Nat.reduceAdd,Nat.reduceSub,Nat.reduceMul,Nat.reduceLeDiff,Nat.reduceLT,Int.reduceLE,Int.reduceToNat,Int.reduceNeg,↓reduceIte];rfl) ?_ ?_
  .intro f;simp only[AT,Do]at f;have k:a<j:=by omega
   have v:BN (c.getD j (ByteArray.empty,[])) (c.getD ((j:Int)-1).toNat (ByteArray.empty,[]))<0:=f.2;rw[n k]at v;have G:CP (ByteArray.empty,[]) c j (j-1)=(c.set j (c.getD (j-1) (ByteArray.empty,[]))).set (j-1) (c.getD j (ByteArray.empty,[])):=rfl;repeat'(first|exact trivial|apply eS rfl|apply AB|refine rP d ?_ ?_|fail)
   (refine Dw drawsAny d 16 [([0,1,5,6,7,8,9,10,11,12,13,14],15)] [2,3,4] (by kernel_rfl) (WA ?_ ?_);(next=>exact CC);refine YU d [] ?_ ?_;(next=>exact CC);refine WB d ?_ ?_ ?_;(next=>exact CC);(next=>exact CC))
   rw[n k];repeat'(first|exact trivial|apply eS rfl|apply AB|refine rX d ?_ ?_|refine rC ?_ ?_<;>intro e<;>try(cases e;done))
   .dsimp only[Ty.den]at *;omega
   refine⟨⟨(j-1,CP (ByteArray.empty,[]) c j (j-1)),by simp only;omega,by simp only;omega,g.trans (Df.swap c oa oa oa oa oa),UA o k q oa v⟩,by simp only;omega,AC [(1000000,.nm 1000000)] rfl rfl ?_ ?_⟩
   .simp only;rw[G];first|exact eN|refine eM ?_
   simp only;rw[show ((j-1:Nat):Int)=(j:Int)-1 by omega];first|exact eN|refine eM ?_
  intro f;have C:j=a\/BN (c.getD (j-1) (ByteArray.empty,[])) (c.getD j (ByteArray.empty,[]))<0:=by
   by_cases k:j=a
   .exact .inl k
   right;simp only[AA1,IF]at f;rw[n oa]at f;rcases f with h|h
   .omega
   exact B.lt BK oa oa oa h
  repeat'(first|exact trivial|apply eS rfl|apply AB|refine rX d ?_ ?_|refine rC ?_ ?_<;>intro e<;>try(cases e;done))
  .exact eV
  refine⟨⟨(i+1,c),by simp only;omega,.inr F,g,Rv BK o u q C⟩,by simp only;omega,AC [(1000000,.nm 1000000)] rfl rfl ?_ ?_⟩
  .first|exact eN|refine eM ?_
  first|exact eN|refine eM ?_
 have N:b<=i:=by exact eV
 exact fM d [] (.raw (.tuple #[])) rfl ⟨rfl,m,rfl,hp,λx y w z I=>hs x y w z oa⟩
theorem vF (l:List (ByteArray×List Int)) (o:l.length<=100000) (a b:Nat) (h:a<b) (k:b<=l.length):Aj Tryz.prog 136 [.sr 1000000 Bv 0 l.length,.p T3 (a:Int),.p T3 (b:Int),.fn 44] [(1000000,.arr 61 Bv l)] [1000000] (λres g=>res=.raw (.tuple #[])/\∃r,g=[(1000000,.arr 61 Bv r)]/\Df (ByteArray.empty,[]) a b l r):=by
 refine Er [0,1,2,8,9,15] [] [] Tryz.func136 Tryz.ntmps136 AH ?_;intro w0 K O0 ρ0 c t u;simp only[AX];repeat'(first|exact trivial|apply eS rfl|apply AB|refine rX c ?_ ?_|refine rC ?_ ?_<;>intro d<;>try(cases d;done))
 .omega
 rw[show (b:Int)-1=((b-1:Nat):Int) by omega];refine AJ (ι:={s:Nat×Nat×List (ByteArray×List Int)//a<=s.1/\s.2.1<b/\Df (ByteArray.empty,[]) a b l s.2.2}) (λs=>⟨[(0,.sr 1000000 Bv 0 l.length),(8,.p (.int .i64) (s.1.1:Int)),(9,.p (.int .i64) (s.1.2.1:Int))],[(1000000,.arr 61 Bv s.1.2.2)]⟩) (λs=>s.1.2.1-s.1.1) ⟨(a,b-1,l),If _,by simp only;omega,Df.refl a b l⟩ (AC [(1000000,.nm 1000000)] rfl rfl ?_ ?_) (λs=>?_)
 .first|exact eN|refine eM ?_
 .first|exact eN|refine eM ?_
 obtain⟨⟨i,j,m⟩,hi,e,hp⟩:=s;simp only at hi e hp ⊢;have q:=hp.len;repeat'(first|exact trivial|apply eS rfl|apply AB|refine rX c ?_ ?_)
 refine rC ?_ ?_<;>intro d
 .repeat'(first|exact trivial|apply eS rfl|apply AB|refine rP c ?_ ?_|fail)
  have n:i<j:=by omega
  have f:CP (ByteArray.empty,[]) m i j=(m.set i (m.getD j (ByteArray.empty,[]))).set j (m.getD i (ByteArray.empty,[])):=rfl
  (refine Dw drawsAny c 14 [([0,1,4,5,6,7,8,9,10,11,12],13)] [2,3] (by kernel_rfl) (WA ?_ ?_);(next=>exact CC);refine YU c [] ?_ ?_;(next=>exact CC);refine WB c ?_ ?_ ?_;(next=>exact CC);(next=>exact CC))
  repeat'(first|exact trivial|apply eS rfl|apply AB|refine rX c ?_ ?_|refine rC ?_ ?_<;>intro d<;>try(cases d;done))
  .omega
  .omega
  refine⟨⟨(i+1,j-1,CP (ByteArray.empty,[]) m i j),by simp only;omega,by simp only;omega,hp.trans (Df.swap m oa oa oa oa oa)⟩,by simp only;omega,AC [(1000000,.nm 1000000)] rfl rfl ?_ ?_⟩
  .simp only;rw[f];first|exact eN|refine eM ?_
  simp only;rw[show ((j-1:Nat):Int)=(j:Int)-1 by omega];first|exact eN|refine eM ?_
 repeat'(first|exact trivial|apply eS rfl|apply AB|refine rX c ?_ ?_|refine rC ?_ ?_<;>intro d<;>try(cases d;done))
 exact fM c [] (.raw (.tuple #[])) rfl ⟨rfl,m,rfl,hp⟩
theorem YE (l:List (ByteArray×List Int)) (o:l.length<=100000) (A:WC BN (ByteArray.empty,[]) l) (lo hi f:Nat) (I:lo<=100000) (G:f+hi<=l.length) (B:xE BN (ByteArray.empty,[]) f hi lo lo l):Aj Tryz.prog 171 [.sr 1000000 Bv 0 l.length,.p T3 (lo:Int),.p T3 (hi:Int),.p T3 (f:Int),.fn 44] [(1000000,.arr 61 Bv l)] [1000000] (λres F=>res=.raw (.tuple #[])/\∃r,F=[(1000000,.arr 61 Bv r)]/\Df (ByteArray.empty,[]) f (f+hi) l r/\Hp BN (ByteArray.empty,[]) f hi lo r):=by
 refine Er [0,1,2,3,4,10,11,18,40,58] [] [] Tryz.func171 Tryz.ntmps171 (AF Lc AH) ?_;intro w0 K O0 ρ0 a L M;simp only[AX];repeat'(first|exact trivial|apply eS rfl|apply AB|refine rX a ?_ ?_|refine rC ?_ ?_<;>intro d<;>try(cases d;done))
 refine AJ (ι:={s:Nat×List (ByteArray×List Int)//s.1<=lo+hi/\Df (ByteArray.empty,[]) f (f+hi) l s.2/\xE BN (ByteArray.empty,[]) f hi lo s.1 s.2}) (λs=>⟨[(0,.sr 1000000 Bv 0 l.length),(2,.p T3 (hi:Int)),(3,.p T3 (f:Int)),(4,.fn 44),(10,.p (.int .i64) (s.1.1:Int))],[(1000000,.arr 61 Bv s.1.2)]⟩) (λs=>lo+hi-s.1.1) ⟨(lo,l),by omega,Df.refl _ _ l,B⟩ (AC [(1000000,.nm 1000000)] rfl rfl ?_ ?_) (λs=>?_)
 .first|exact eN|refine eM ?_
 .first|exact eN|refine eM ?_
 obtain⟨⟨root,m⟩,E,hp,k⟩:=s;simp only at E hp k ⊢;have J:=hp.len;have t:=A.perm BK hp.perm;repeat'(first|exact trivial|apply eS rfl|apply AB|refine rX a ?_ ?_)
 .omega
 refine rC ?_ ?_<;>intro d
 .have o:hi<=2*root+1:=by omega
  repeat'(first|exact trivial|apply eS rfl|apply AB|refine rX a ?_ ?_|refine rC ?_ ?_<;>intro d<;>try(cases d;done))
  exact fM a [] (.raw (.tuple #[])) rfl ⟨rfl,m,rfl,hp,nQ k o⟩
 have o:2*root+1<hi:=by omega
 have n:((f:Int)+(2*(root:Int)+1)).toNat=f+(2*root+1):=by omega
 have q:((f:Int)+(2*(root:Int)+1+1)).toNat=f+(2*root+2):=by omega
 have w:((f:Int)+(2*(root:Int)+1)+1).toNat=f+(2*root+2):=by omega
 have g:((f:Int)+(root:Int)).toNat=f+root:=by omega
 repeat'(first|exact trivial|apply eS rfl|apply AB|refine rX a ?_ ?_)
 .dsimp only[Ty.den];exact⟨by omega,λ_=>by omega,λ_=>by omega,λ_=>by omega,λ_=>by omega,λ_=>by omega⟩
 refine DK (by simp only[go_sem,Nat.reduceEqDiff,reduceCtorEq,Nat.reduceAdd,Nat.reduceSub,Nat.reduceMul,Nat.reduceLeDiff,Nat.reduceLT,Int.reduceLE,Int.reduceToNat,Int.reduceNeg,↓reduceIte];rfl) ?_ ?_
 .intro e;simp only[AT,Do]at e;obtain⟨H,e⟩:=e;have D:BN (m.getD (f+(2*root+1)) (ByteArray.empty,[])) (m.getD (f+(2*root+2)) (ByteArray.empty,[]))<0:=by rw[<-n,<-w];exact e
  have C:2*root+2<hi:=by omega
  have hs:∀c,(c=2*root+1\/c=2*root+2)->c<hi->c≠2*root+2->BN (m.getD (f+c) (ByteArray.empty,[])) (m.getD (f+(2*root+2)) (ByteArray.empty,[]))<0:=λc x y z=>by
   rw[show c=2*root+1 by omega];exact D
  repeat'(first|exact trivial|apply eS rfl|apply AB|refine rX a ?_ ?_)
  .omega
  .exact CC
  refine DK (by simp only[go_sem,Nat.reduceEqDiff,reduceCtorEq,Nat.reduceAdd,Nat.reduceSub,Nat.reduceMul,Nat.reduceLeDiff,Nat.reduceLT,Int.reduceLE,Int.reduceToNat,Int.reduceNeg,↓reduceIte];rfl) ?_ ?_
  .intro b;simp only[OF,IF]at b;rw[g,q]at b;have u:=t.lt BK (i:=f+root) (j:=f+(2*root+2)) oa oa oa b;repeat'(first|exact trivial|apply eS rfl|apply AB|refine rX a ?_ ?_|refine rC ?_ ?_<;>intro d<;>try(cases d;done))
   exact fM a [] (.raw (.tuple #[])) rfl ⟨rfl,m,rfl,hp,Xo BK k (.inr rfl) u hs⟩
  intro b;simp only[AAP,Do]at b;rw[g,q]at b;have v:CP (ByteArray.empty,[]) m (f+root) (f+(2*root+2))=(m.set (f+root) (m.getD (f+(2*root+2)) (ByteArray.empty,[]))).set (f+(2*root+2)) (m.getD (f+root) (ByteArray.empty,[])):=rfl;repeat'(first|exact trivial|apply eS rfl|apply AB|refine rP a ?_ ?_|fail)
  (refine Dw drawsAny a 22 [([0,1,2,3,8,9,10,11,12,13,14,15,16,17,18,19,20],21)] [4,5,6,7] (by kernel_rfl) (WA ?_ ?_);(next=>exact CC);refine YU a [] ?_ ?_;(next=>exact CC);refine WB a ?_ ?_ ?_;(next=>exact CC);(next=>exact CC))
  rw[g,q];repeat'(first|exact trivial|apply eS rfl|apply AB|refine rX a ?_ ?_|refine rC ?_ ?_<;>intro d<;>try(cases d;done))
  refine⟨⟨(2*root+2,CP (ByteArray.empty,[]) m (f+root) (f+(2*root+2))),by simp only;omega,hp.trans (Df.swap m oa oa oa oa oa),Xp k C oa (.inr rfl) b hs⟩,by simp only;omega,AC [(1000000,.nm 1000000)] rfl rfl ?_ ?_⟩
  .simp only;rw[v];first|exact eN|refine eM ?_
  simp only;rw[show ((2*root+2:Nat):Int)=2*(root:Int)+1+1 by omega];first|exact eN|refine eM ?_
 intro e;have hs:∀c,(c=2*root+1\/c=2*root+2)->c<hi->c≠2*root+1->BN (m.getD (f+c) (ByteArray.empty,[])) (m.getD (f+(2*root+1)) (ByteArray.empty,[]))<0:=λc x y z=>by
  simp only[AA1,IF]at e;have a:c=2*root+2:=by omega
  subst a;rcases e with h|h
  .omega
  rw[n,w]at h;exact t.lt BK oa oa oa h
 repeat'(first|exact trivial|apply eS rfl|apply AB|refine rX a ?_ ?_)
 .exact CC
 refine DK (by simp only[go_sem,Nat.reduceEqDiff,reduceCtorEq,Nat.reduceAdd,Nat.reduceSub,Nat.reduceMul,Nat.reduceLeDiff,Nat.reduceLT,Int.reduceLE,Int.reduceToNat,Int.reduceNeg,↓reduceIte];rfl) ?_ ?_
 .intro b;simp only[OF,IF]at b;rw[g,n]at b;have u:=t.lt BK (i:=f+root) (j:=f+(2*root+1)) oa oa oa b;repeat'(first|exact trivial|apply eS rfl|apply AB|refine rX a ?_ ?_|refine rC ?_ ?_<;>intro d<;>try(cases d;done))
  exact fM a [] (.raw (.tuple #[])) rfl ⟨rfl,m,rfl,hp,Xo BK k (.inl rfl) u hs⟩
 intro b;simp only[AAP,Do]at b;rw[g,n]at b;have v:CP (ByteArray.empty,[]) m (f+root) (f+(2*root+1))=(m.set (f+root) (m.getD (f+(2*root+1)) (ByteArray.empty,[]))).set (f+(2*root+1)) (m.getD (f+root) (ByteArray.empty,[])):=rfl;repeat'(first|exact trivial|apply eS rfl|apply AB|refine rP a ?_ ?_|fail)
 (refine Dw drawsAny a 22 [([0,1,2,3,8,9,10,11,12,13,14,15,16,17,18,19,20],21)] [4,5,6,7] (by kernel_rfl) (WA ?_ ?_);(next=>exact CC);refine YU a [] ?_ ?_;(next=>exact CC);refine WB a ?_ ?_ ?_;(next=>exact CC);(next=>exact CC))
 rw[g,n];repeat'(first|exact trivial|apply eS rfl|apply AB|refine rX a ?_ ?_|refine rC ?_ ?_<;>intro d<;>try(cases d;done))
 refine⟨⟨(2*root+1,CP (ByteArray.empty,[]) m (f+root) (f+(2*root+1))),by simp only;omega,hp.trans (Df.swap m oa oa oa oa oa),Xp k o oa (.inl rfl) b hs⟩,by simp only;omega,AC [(1000000,.nm 1000000)] rfl rfl ?_ ?_⟩
 .simp only;rw[v];first|exact eN|refine eM ?_
 simp only;rw[show ((2*root+1:Nat):Int)=2*(root:Int)+1 by omega];first|exact eN|refine eM ?_
theorem o0 (l:List (ByteArray×List Int)) (P:l.length<=100000) (v:WC BN (ByteArray.empty,[]) l) (a b:Nat) (N:a<=b) (O:b<=l.length):Aj Tryz.prog 133 [.sr 1000000 Bv 0 l.length,.p T3 (a:Int),.p T3 (b:Int),.fn 44] [(1000000,.arr 61 Bv l)] [1000000] (λres G=>res=.raw (.tuple #[])/\∃r,G=[(1000000,.arr 61 Bv r)]/\Df (ByteArray.empty,[]) a b l r/\PU BN (ByteArray.empty,[]) a b r):=by
 refine Er [0,1,2,3,8,9,10,11,12,21,33] [] [] Tryz.func133 Tryz.ntmps133 AH ?_;intro w0 K O0 ρ0 d Q R;simp only[AX];obtain⟨n,C⟩:∃n,b=a+n:=⟨b-a,by omega⟩;subst C;have u:(((a+n:Nat):Int)-(a:Int)-1).tdiv 2=(((n-1) / 2+1:Nat):Int)-1:=by
  by_cases x:n=0
  .subst x;rw[show ((a+0:Nat):Int)-(a:Int)-1=-1 by omega];decide
  rw[oF oa];omega
 have en:((a+n:Nat):Int)-(a:Int)=(n:Int):=by omega
 repeat'(first|exact trivial|apply eS rfl|apply AB|refine rX d ?_ ?_|refine rC ?_ ?_<;>intro e<;>try(cases e;done))
 .omega
 .rw[u];exact⟨by omega,by decide,by omega⟩
 rw[u,en];refine AJ (ι:={s:Nat×List (ByteArray×List Int)//s.1<=n+1/\Df (ByteArray.empty,[]) a (a+n) l s.2/\Hp BN (ByteArray.empty,[]) a n s.1 s.2}) (λs=>⟨[(0,.sr 1000000 Bv 0 l.length),(3,.fn 44),(8,.p T3 (a:Int)),(9,.p (.int .i64) (0:Int)),(10,.p (.int .i64) (n:Int)),(11,.p (.int .i64) ((s.1.1:Int)-1))],[(1000000,.arr 61 Bv s.1.2)]⟩) (λs=>s.1.1) ⟨((n-1) / 2+1,l),by simp only;omega,Df.refl _ _ l,λk c y L M=>by simp only at y;omega⟩ (AC [(1000000,.nm 1000000)] rfl rfl ?_ ?_) (λs=>?_)
 .first|exact eN|refine eM ?_
 .first|exact eN|refine eM ?_
 obtain⟨⟨k,m⟩,o,hp,t⟩:=s;simp only at o hp t ⊢;have B:=hp.len;have A:=v.perm BK hp.perm;repeat'(first|exact trivial|apply eS rfl|apply AB|refine rX d ?_ ?_)
 refine rC ?_ ?_<;>intro e
 .have f:0<k:=by omega
  have key:=YE m oa A (k-1) n a oa oa (gS (by rw[show k-1+1=k by omega];exact t));rw[B,show ((k-1:Nat):Int)=(k:Int)-1 by omega]at key;repeat'(first|exact trivial|apply eS rfl|apply AB|refine rX d ?_ ?_)
  refine cP 5 d ?_ ?_
  .trivial
  refine rM d (key) [(1000000,.nm 1000000)] [] ?_ ?_ ?_
  .first|exact eN|refine eM ?_
  .first|exact eN|refine eM ?_
  rintro _ _ ⟨rfl,r,rfl,i,j⟩;refine⟨[(1000000,.nm 1000000)],.raw (.tuple #[]),[(1000000,.arr 61 Bv r)],rfl,rfl,?_,?_,rfl,rfl,Bq ?_⟩
  .first|exact eN|refine eM ?_
  .first|exact eN|refine eM ?_
  repeat'(first|exact trivial|apply eS rfl|apply AB|refine rX d ?_ ?_|refine rC ?_ ?_<;>intro e<;>try(cases e;done))
  .omega
  refine⟨⟨(k-1,r),by simp only;omega,hp.trans i,j⟩,by simp only;omega,AC [(1000000,.nm 1000000)] rfl rfl ?_ ?_⟩
  .simp only;first|exact eN|refine eM ?_
  simp only;rw[show ((k-1:Nat):Int)=(k:Int)-1 by omega];first|exact eN|refine eM ?_
 have f:k=0:=by omega
 subst f;repeat'(first|exact trivial|apply eS rfl|apply AB|refine rX d ?_ ?_)
 .omega
 refine AJ (ι:={s:Nat×List (ByteArray×List Int)//s.1<=n/\Df (ByteArray.empty,[]) a (a+n) l s.2/\gT BN (ByteArray.empty,[]) a n s.1 s.2}) (λs=>⟨[(0,.sr 1000000 Bv 0 l.length),(3,.fn 44),(8,.p T3 (a:Int)),(9,.p (.int .i64) (0:Int)),(12,.p (.int .i64) ((s.1.1:Int)-1))],[(1000000,.arr 61 Bv s.1.2)]⟩) (λs=>s.1.1) ⟨(n,m),If _,hp,Zu t⟩ (AC [(1000000,.nm 1000000)] rfl rfl ?_ ?_) (λs=>?_)
 .first|exact eN|refine eM ?_
 .first|exact eN|refine eM ?_
 obtain⟨⟨k,c⟩,o,g,h⟩:=s;simp only at o g h ⊢;have z:=g.len;repeat'(first|exact trivial|apply eS rfl|apply AB|refine rX d ?_ ?_)
 refine rC ?_ ?_<;>intro e
 .have f:0<k:=by omega
  have h:gT BN (ByteArray.empty,[]) a n (k-1+1) c:=by rw[show k-1+1=k by omega];exact h
  obtain⟨H,I,J⟩:=gU BK h oa oa;have q:Df (ByteArray.empty,[]) a (a+n) c (CP (ByteArray.empty,[]) c a (a+(k-1))):=Df.swap c oa oa oa oa oa;have E:=q.len;have D:=v.perm BK (g.trans q).perm;have w:((a:Int)+((k:Int)-1)).toNat=a+(k-1):=by omega
  have F:CP (ByteArray.empty,[]) c a (a+(k-1))=(c.set a (c.getD (a+(k-1)) (ByteArray.empty,[]))).set (a+(k-1)) (c.getD a (ByteArray.empty,[])):=rfl;have key:=YE (CP (ByteArray.empty,[]) c a (a+(k-1))) oa D 0 (k-1) a oa oa H;rw[E,z,show ((k-1:Nat):Int)=(k:Int)-1 by omega]at key;repeat'(first|exact trivial|apply eS rfl|apply AB|refine rP d ?_ ?_|fail)
  (refine Dw drawsAny d 18 [([0,1,6,7,8,9,10,11,12,13,14,15,16],17)] [2,3,4,5] (by kernel_rfl) (WA ?_ ?_);(next=>exact CC);refine YU d [] ?_ ?_;(next=>exact CC);refine WB d ?_ ?_ ?_;(next=>exact CC);(next=>exact CC))
  rw[w,<-F];repeat'(first|exact trivial|apply eS rfl|apply AB|refine rP d ?_ ?_|fail)
  refine cP 5 d ?_ ?_
  .trivial
  refine rM d (key) [(1000000,.nm 1000000)] [] ?_ ?_ ?_
  .first|exact eN|refine eM ?_
  .first|exact eN|refine eM ?_
  rintro _ _ ⟨rfl,r,rfl,i,j⟩;refine⟨[(1000000,.nm 1000000)],.raw (.tuple #[]),[(1000000,.arr 61 Bv r)],rfl,rfl,?_,?_,rfl,rfl,Bq ?_⟩
  .first|exact eN|refine eM ?_
  .first|exact eN|refine eM ?_
  repeat'(first|exact trivial|apply eS rfl|apply AB|refine rX d ?_ ?_|refine rC ?_ ?_<;>intro e<;>try(cases e;done))
  .omega
  refine⟨⟨(k-1,r),by simp only;omega,(g.trans q).trans (i.mono (If _) oa),gV i j I J⟩,by simp only;omega,AC [(1000000,.nm 1000000)] rfl rfl ?_ ?_⟩
  .simp only;first|exact eN|refine eM ?_
  simp only;rw[show ((k-1:Nat):Int)=(k:Int)-1 by omega];first|exact eN|refine eM ?_
 have f:k=0:=by omega
 subst f;repeat'(first|exact trivial|apply eS rfl|apply AB|refine rX d ?_ ?_|refine rC ?_ ?_<;>intro e<;>try(cases e;done))
 exact fM d [] (.raw (.tuple #[])) rfl ⟨rfl,c,rfl,g,nR h⟩
end
section
attribute [local go_sem] SE
theorem vG (l:List (ByteArray×List Int)) (aj:l.length<=100000) (P:WC BN (ByteArray.empty,[]) l) (a b p:Nat) (W:a<=p) (ad:p<b) (X:b<=l.length):Aj Tryz.prog 139 [.sr 1000000 Bv 0 l.length,.p T3 (a:Int),.p T3 (b:Int),.p T3 (p:Int),.fn 44] [(1000000,.arr 61 Bv l)] [1000000] (λres ag=>∃(q:Nat) (w:Bool) (r:List (ByteArray×List Int)),res=.tup [.p T3 (q:Int),.p .bool w]/\ag=[(1000000,.arr 61 Bv r)]/\Df (ByteArray.empty,[]) a b l r/\jP BN (ByteArray.empty,[]) a b q r):=by
 refine Er [0,1,2,3,4,10,11,12,13,47,66,71,120,139,144] [] [] Tryz.func139 Tryz.ntmps139 (AF Lc AH) ?_;intro w0 K O0 ρ0 c ak al;simp only[AX];have g:Df (ByteArray.empty,[]) a b l (CP (ByteArray.empty,[]) l a p):=Df.swap l (If _) oa W ad X;have n:CP (ByteArray.empty,[]) l a p=(l.set a (l.getD p (ByteArray.empty,[]))).set p (l.getD a (ByteArray.empty,[])):=rfl;repeat'(first|exact trivial|apply eS rfl|apply AB|refine rP c ?_ ?_|fail)
 (refine Dw drawsAny c 14 [([0,1,4,5,6,7,8,9,10,11,12],13)] [2,3] (by kernel_rfl) (WA ?_ ?_);(next=>exact CC);refine YU c [] ?_ ?_;(next=>exact CC);refine WB c ?_ ?_ ?_;(next=>exact CC);(next=>exact CC))
 rw[<-n];have A:=P.perm BK g.perm;have S:=g.len;clear n;generalize CP (ByteArray.empty,[]) l a p=m at *;repeat'(first|exact trivial|apply eS rfl|apply AB|refine rP c ?_ ?_|fail)
 .exact CC
 rw[show (a:Int)+1=((a+1:Nat):Int) by omega,show (b:Int)-1=((b-1:Nat):Int) by omega];refine AJ (ι:={i:Nat//a<i/\i<=b/\xF BN (ByteArray.empty,[]) a b i (b-1) m}) (λs=>⟨[(0,.sr 1000000 Bv 0 l.length),(1,.p T3 (a:Int)),(4,.fn 44),(12,.p (.int .i64) (s.1:Int)),(13,.p (.int .i64) ((b-1:Nat):Int))],[(1000000,.arr 61 Bv m)]⟩) (λs=>b-s.1) ⟨a+1,by omega,by omega,⟨λx o f=>by omega,λx o f=>by omega⟩⟩ (AC [(1000000,.nm 1000000)] rfl rfl ?_ ?_) (λs=>?_)
 .first|exact eN|refine eM ?_
 .first|exact eN|refine eM ?_
 obtain⟨i,F,J,u⟩:=s;simp only at F J u ⊢;repeat'(first|exact trivial|apply eS rfl|apply AB|refine rX c ?_ ?_)
 .dsimp only[Ty.den];exact⟨λ_=>by omega,λ_=>by omega⟩
 refine DK (by simp only[go_sem,Nat.reduceEqDiff,reduceCtorEq,Nat.reduceAdd,Nat.reduceSub,Nat.reduceMul,Nat.reduceLeDiff,Nat.reduceLT,Int.reduceLE,Int.reduceToNat,Int.reduceNeg,↓reduceIte];rfl) ?_ ?_
 .intro d;simp only[AT,Do]at d;obtain⟨o,f⟩:=d;repeat'(first|exact trivial|apply eS rfl|apply AB|refine rX c ?_ ?_)
  .exact CC
  refine⟨⟨i+1,by omega,by omega,⟨λx H I=>?_,u.hi⟩⟩,by simp only;omega,AC [(1000000,.nm 1000000)] rfl rfl ?_ ?_⟩
  .by_cases e:x=i
   .rw[e];exact f
   exact u.lo x H oa
  .first|exact eN|refine eM ?_
  first|exact eN|refine eM ?_
 intro d;have B:i<=b-1->BN (m.getD a (ByteArray.empty,[])) (m.getD i (ByteArray.empty,[]))<0:=λo=>A.lt BK oa oa oa λf=>by
  simp only[AA1,IF]at d;rcases d with h|h
  .omega
  exact h f
 have ai:i<=b-1+1:=by omega
 repeat'(first|exact trivial|apply eS rfl|apply AB|refine rX c ?_ ?_)
 refine AJ (ι:={j:Nat//a<=j/\j<b/\i<=j+1/\xF BN (ByteArray.empty,[]) a b i j m}) (λs=>⟨[(0,.sr 1000000 Bv 0 l.length),(1,.p T3 (a:Int)),(4,.fn 44),(12,.p (.int .i64) (i:Int)),(13,.p (.int .i64) (s.1:Int))],[(1000000,.arr 61 Bv m)]⟩) (λs=>s.1) ⟨b-1,by omega,by omega,by omega,u⟩ (AC [(1000000,.nm 1000000)] rfl rfl ?_ ?_) (λs=>?_)
 .first|exact eN|refine eM ?_
 .first|exact eN|refine eM ?_
 obtain⟨j,v,y,Y,D⟩:=s;simp only at v y Y D ⊢;clear d;repeat'(first|exact trivial|apply eS rfl|apply AB|refine rX c ?_ ?_)
 .dsimp only[Ty.den];exact⟨λ_=>by omega,λ_=>by omega⟩
 refine DK (by simp only[go_sem,Nat.reduceEqDiff,reduceCtorEq,Nat.reduceAdd,Nat.reduceSub,Nat.reduceMul,Nat.reduceLeDiff,Nat.reduceLT,Int.reduceLE,Int.reduceToNat,Int.reduceNeg,↓reduceIte];rfl) ?_ ?_
 .intro d;simp only[AT,Do,OF,IF]at d;obtain⟨o,f⟩:=d;have f:=A.lt BK (i:=j) (j:=a) oa oa oa f;repeat'(first|exact trivial|apply eS rfl|apply AB|refine rX c ?_ ?_)
  .exact CC
  refine⟨⟨j-1,by omega,by omega,by omega,⟨D.lo,λx H I=>?_⟩⟩,by simp only;omega,AC [(1000000,.nm 1000000)] rfl rfl ?_ ?_⟩
  .by_cases e:x=j
   .rw[e];exact f
   exact D.hi x oa I
  .first|exact eN|refine eM ?_
  simp only;rw[show ((j-1:Nat):Int)=(j:Int)-1 by omega];first|exact eN|refine eM ?_
 intro d;have C:i<=j->BN (m.getD j (ByteArray.empty,[])) (m.getD a (ByteArray.empty,[]))<0:=λo=>by
  simp only[AA1,IF,AAP,Do]at d;rcases d with h|h
  .omega
  exact h
 repeat'(first|exact trivial|apply eS rfl|apply AB|refine rX c ?_ ?_)
 refine rC ?_ ?_<;>intro E
 .have R:i=j+1:=by omega
  subst R;have t:Df (ByteArray.empty,[]) a b m (CP (ByteArray.empty,[]) m j a):=Df.swap m v y (If _) oa oa;have n:CP (ByteArray.empty,[]) m j a=(m.set j (m.getD a (ByteArray.empty,[]))).set a (m.getD j (ByteArray.empty,[])):=rfl;repeat'(first|exact trivial|apply eS rfl|apply AB|refine rP c ?_ ?_|fail)
  (refine Dw drawsAny c 14 [([0,1,4,5,6,7,8,9,10,11,12],13)] [2,3] (by kernel_rfl) (WA ?_ ?_);(next=>exact CC);refine YU c [] ?_ ?_;(next=>exact CC);refine WB c ?_ ?_ ?_;(next=>exact CC);(next=>exact CC))
  rw[<-n];repeat'(first|exact trivial|apply eS rfl|apply AB|refine rX c ?_ ?_|refine rC ?_ ?_<;>intro E<;>try(cases E;done))
  exact fM c [.tmp 10,.tmp 11] (.tup [.p T3 (j:Int),.p .bool true]) eT ⟨j,true,_,rfl,rfl,g.trans t,dH D v y oa⟩
 have ab:i≠j:=λe=>by
  have T:=B oa;have ah:=C oa;rw[e,BK.anti]at T;omega
 have Q:i<j:=by omega
 have t:Df (ByteArray.empty,[]) a b m (CP (ByteArray.empty,[]) m i j):=Df.swap m oa oa v y oa;have n:CP (ByteArray.empty,[]) m i j=(m.set i (m.getD j (ByteArray.empty,[]))).set j (m.getD i (ByteArray.empty,[])):=rfl;have N:=Xr D F Q y oa (B oa) (C oa);repeat'(first|exact trivial|apply eS rfl|apply AB|refine rP c ?_ ?_|fail)
 (refine Dw drawsAny c 14 [([0,1,4,5,6,7,8,9,10,11,12],13)] [2,3] (by kernel_rfl) (WA ?_ ?_);(next=>exact CC);refine YU c [] ?_ ?_;(next=>exact CC);refine WB c ?_ ?_ ?_;(next=>exact CC);(next=>exact CC))
 rw[<-n];have L:=g.trans t;have A:=P.perm BK L.perm;have S:=L.len;clear n t D u B C d g;generalize CP (ByteArray.empty,[]) m i j=af at *;repeat'(first|exact trivial|apply eS rfl|apply AB|refine rX c ?_ ?_)
 .exact CC
 .exact CC
 rw[show (i:Int)+1=((i+1:Nat):Int) by omega,show (j:Int)-1=((j-1:Nat):Int) by omega];refine AJ (ι:={s:Nat×Nat×List (ByteArray×List Int)//(a<s.1/\s.1<=s.2.1+1)/\(a<=s.2.1/\s.2.1<b)/\Df (ByteArray.empty,[]) a b l s.2.2/\xF BN (ByteArray.empty,[]) a b s.1 s.2.1 s.2.2}) (λs=>⟨[(0,.sr 1000000 Bv 0 l.length),(1,.p T3 (a:Int)),(4,.fn 44),(12,.p (.int .i64) (s.1.1:Int)),(13,.p (.int .i64) (s.1.2.1:Int))],[(1000000,.arr 61 Bv s.1.2.2)]⟩) (λs=>s.1.2.1+1-s.1.1) ⟨(i+1,j-1,af),by simp only;omega,by simp only;omega,L,N⟩ (AC [(1000000,.nm 1000000)] rfl rfl ?_ ?_) (λs=>?_)
 .first|exact eN|refine eM ?_
 .first|exact eN|refine eM ?_
 clear N A S L;obtain⟨⟨i,j,m⟩,⟨F,J⟩,⟨v,y⟩,g,u⟩:=s;simp only at F J v y g u ⊢;have A:=P.perm BK g.perm;have S:=g.len;repeat'(first|exact trivial|apply eS rfl|apply AB|refine rX c ?_ ?_)
 refine AJ (ι:={k:Nat//a<k/\i<=k/\k<=j+1/\xF BN (ByteArray.empty,[]) a b k j m}) (λs=>⟨[(0,.sr 1000000 Bv 0 l.length),(1,.p T3 (a:Int)),(4,.fn 44),(12,.p (.int .i64) (s.1:Int)),(13,.p (.int .i64) (j:Int))],[(1000000,.arr 61 Bv m)]⟩) (λs=>j+1-s.1) ⟨i,F,If _,J,u⟩ (AC [(1000000,.nm 1000000)] rfl rfl ?_ ?_) (λs=>?_)
 .first|exact eN|refine eM ?_
 .first|exact eN|refine eM ?_
 obtain⟨k,U,Z,V,M⟩:=s;simp only at U V Z M ⊢;repeat'(first|exact trivial|apply eS rfl|apply AB|refine rX c ?_ ?_)
 .dsimp only[Ty.den];exact⟨λ_=>by omega,λ_=>by omega⟩
 refine DK (by simp only[go_sem,Nat.reduceEqDiff,reduceCtorEq,Nat.reduceAdd,Nat.reduceSub,Nat.reduceMul,Nat.reduceLeDiff,Nat.reduceLT,Int.reduceLE,Int.reduceToNat,Int.reduceNeg,↓reduceIte];rfl) ?_ ?_
 .intro d;simp only[AT,Do]at d;obtain⟨o,f⟩:=d;repeat'(first|exact trivial|apply eS rfl|apply AB|refine rX c ?_ ?_)
  .exact CC
  refine⟨⟨k+1,by omega,by omega,by omega,⟨λx H I=>?_,M.hi⟩⟩,by simp only;omega,AC [(1000000,.nm 1000000)] rfl rfl ?_ ?_⟩
  .by_cases e:x=k
   .rw[e];exact f
   exact M.lo x H oa
  .first|exact eN|refine eM ?_
  first|exact eN|refine eM ?_
 intro d;have B:k<=j->BN (m.getD a (ByteArray.empty,[])) (m.getD k (ByteArray.empty,[]))<0:=λo=>A.lt BK oa oa oa λf=>by
  simp only[AA1,IF]at d;rcases d with h|h
  .omega
  exact h f
 repeat'(first|exact trivial|apply eS rfl|apply AB|refine rX c ?_ ?_)
 refine AJ (ι:={z:Nat//a<=z/\z<=j/\k<=z+1/\xF BN (ByteArray.empty,[]) a b k z m}) (λs=>⟨[(0,.sr 1000000 Bv 0 l.length),(1,.p T3 (a:Int)),(4,.fn 44),(12,.p (.int .i64) (k:Int)),(13,.p (.int .i64) (s.1:Int))],[(1000000,.arr 61 Bv m)]⟩) (λs=>s.1) ⟨j,v,If _,V,M⟩ (AC [(1000000,.nm 1000000)] rfl rfl ?_ ?_) (λs=>?_)
 .first|exact eN|refine eM ?_
 .first|exact eN|refine eM ?_
 obtain⟨z,O,ae,aa,G⟩:=s;simp only at O ae aa G ⊢;clear d;repeat'(first|exact trivial|apply eS rfl|apply AB|refine rX c ?_ ?_)
 .dsimp only[Ty.den];exact⟨λ_=>by omega,λ_=>by omega⟩
 refine DK (by simp only[go_sem,Nat.reduceEqDiff,reduceCtorEq,Nat.reduceAdd,Nat.reduceSub,Nat.reduceMul,Nat.reduceLeDiff,Nat.reduceLT,Int.reduceLE,Int.reduceToNat,Int.reduceNeg,↓reduceIte];rfl) ?_ ?_
 .intro d;simp only[AT,Do,OF,IF]at d;obtain⟨o,f⟩:=d;have f:=A.lt BK (i:=z) (j:=a) oa oa oa f;repeat'(first|exact trivial|apply eS rfl|apply AB|refine rX c ?_ ?_)
  .exact CC
  refine⟨⟨z-1,by omega,by omega,by omega,⟨G.lo,λx H I=>?_⟩⟩,by simp only;omega,AC [(1000000,.nm 1000000)] rfl rfl ?_ ?_⟩
  .by_cases e:x=z
   .rw[e];exact f
   exact G.hi x oa I
  .first|exact eN|refine eM ?_
  simp only;rw[show ((z-1:Nat):Int)=(z:Int)-1 by omega];first|exact eN|refine eM ?_
 intro d;have C:k<=z->BN (m.getD z (ByteArray.empty,[])) (m.getD a (ByteArray.empty,[]))<0:=λo=>by
  simp only[AA1,IF,AAP,Do]at d;rcases d with h|h
  .omega
  exact h
 repeat'(first|exact trivial|apply eS rfl|apply AB|refine rX c ?_ ?_)
 refine rC ?_ ?_<;>intro E
 .have R:k=z+1:=by omega
  subst R;have t:Df (ByteArray.empty,[]) a b m (CP (ByteArray.empty,[]) m z a):=Df.swap m O oa (If _) oa oa;have n:CP (ByteArray.empty,[]) m z a=(m.set z (m.getD a (ByteArray.empty,[]))).set a (m.getD z (ByteArray.empty,[])):=rfl;repeat'(first|exact trivial|apply eS rfl|apply AB|refine rP c ?_ ?_|fail)
  (refine Dw drawsAny c 14 [([0,1,4,5,6,7,8,9,10,11,12],13)] [2,3] (by kernel_rfl) (WA ?_ ?_);(next=>exact CC);refine YU c [] ?_ ?_;(next=>exact CC);refine WB c ?_ ?_ ?_;(next=>exact CC);(next=>exact CC))
  rw[<-n];repeat'(first|exact trivial|apply eS rfl|apply AB|refine rX c ?_ ?_|refine rC ?_ ?_<;>intro E<;>try(cases E;done))
  exact fM c [.tmp 10,.tmp 11] (.tup [.p T3 (z:Int),.p .bool false]) eT ⟨z,false,_,rfl,rfl,g.trans t,dH G O oa oa⟩
 have ab:k≠z:=λe=>by
  have T:=B oa;have ah:=C oa;rw[e,BK.anti]at T;omega
 have Q:k<z:=by omega
 have t:Df (ByteArray.empty,[]) a b m (CP (ByteArray.empty,[]) m k z):=Df.swap m oa oa O oa oa;have n:CP (ByteArray.empty,[]) m k z=(m.set k (m.getD z (ByteArray.empty,[]))).set z (m.getD k (ByteArray.empty,[])):=rfl;have N:=Xr G U Q oa oa (B oa) (C oa);repeat'(first|exact trivial|apply eS rfl|apply AB|refine rP c ?_ ?_|fail)
 (refine Dw drawsAny c 14 [([0,1,4,5,6,7,8,9,10,11,12],13)] [2,3] (by kernel_rfl) (WA ?_ ?_);(next=>exact CC);refine YU c [] ?_ ?_;(next=>exact CC);refine WB c ?_ ?_ ?_;(next=>exact CC);(next=>exact CC))
 rw[<-n];repeat'(first|exact trivial|apply eS rfl|apply AB|refine rX c ?_ ?_)
 .exact CC
 .exact CC
 refine⟨⟨(k+1,z-1,CP (ByteArray.empty,[]) m k z),by simp only;omega,by simp only;omega,g.trans t,N⟩,by simp only;omega,AC [(1000000,.nm 1000000)] rfl rfl ?_ ?_⟩
 .first|exact eN|refine eM ?_
 simp only;rw[show ((z-1:Nat):Int)=(z:Int)-1 by omega];first|exact eN|refine eM ?_
theorem vH (l:List (ByteArray×List Int)) (ao:l.length<=100000) (M:WC BN (ByteArray.empty,[]) l) (a b:Nat) (am:a<b) (an:b<=l.length) (W:Bf BN (ByteArray.empty,[]) a b l):Aj Tryz.prog 137 [.sr 1000000 Bv 0 l.length,.p T3 (a:Int),.p T3 (b:Int),.fn 44] [(1000000,.arr 61 Bv l)] [1000000] (λres al=>∃(w:Bool) (r:List (ByteArray×List Int)),res=.p .bool w/\al=[(1000000,.arr 61 Bv r)]/\Df (ByteArray.empty,[]) a b l r/\(w=true->PU BN (ByteArray.empty,[]) a b r)):=by
 refine Er [0,1,2,3,8,9,10,11,12,16,36,41,45,65,69,84,104,109,124] [] [] Tryz.func137 Tryz.ntmps137 (AF Lc AH) ?_;intro w0 K O0 ρ0 f aq ar;simp only[AX];repeat'(first|exact trivial|apply eS rfl|apply AB|refine rX f ?_ ?_|refine rC ?_ ?_<;>intro q<;>try(cases q;done))
 .exact CC
 refine AJ (ι:={s:Nat×Nat×List (ByteArray×List Int)//(a+1<=s.1/\s.1<=b)/\s.2.1<=5/\Df (ByteArray.empty,[]) a b l s.2.2/\PU BN (ByteArray.empty,[]) a s.1 s.2.2}) (λs=>⟨[(0,.sr 1000000 Bv 0 l.length),(1,.p T3 (a:Int)),(2,.p T3 (b:Int)),(3,.fn 44),(9,.p (.int .i64) (s.1.1:Int)),(10,.p (.int .i64) (s.1.2.1:Int))],[(1000000,.arr 61 Bv s.1.2.2)]⟩) (λs=>5-s.1.2.1) ⟨(a+1,0,l),by simp only;omega,BY _,Df.refl a b l,Vj a l⟩ (AC [(1000000,.nm 1000000)] rfl rfl ?_ ?_) (λs=>?_)
 .first|exact eN|refine eM ?_
 .first|exact eN|refine eM ?_
 obtain⟨⟨i,t,m⟩,⟨ae,O⟩,ak,u,R⟩:=s;simp only at ae O ak u R ⊢;have Q:=M.perm BK u.perm;have aj:=u.len;repeat'(first|exact trivial|apply eS rfl|apply AB|refine rX f ?_ ?_)
 refine rC ?_ ?_<;>intro q
 .repeat'(first|exact trivial|apply eS rfl|apply AB|refine rX f ?_ ?_)
  refine AJ (ι:={k:Nat//i<=k/\k<=b/\PU BN (ByteArray.empty,[]) a k m}) (λs=>⟨[(0,.sr 1000000 Bv 0 l.length),(1,.p T3 (a:Int)),(2,.p T3 (b:Int)),(3,.fn 44),(9,.p (.int .i64) (s.1:Int)),(10,.p (.int .i64) (t:Int))],[(1000000,.arr 61 Bv m)]⟩) (λs=>b-s.1) ⟨i,If _,O,R⟩ (AC [(1000000,.nm 1000000)] rfl rfl ?_ ?_) (λs=>?_)
  .first|exact eN|refine eM ?_
  .first|exact eN|refine eM ?_
  obtain⟨k,ag,ah,F⟩:=s;simp only at ag ah F ⊢;have L:((k:Int)-1).toNat=k-1:=by omega
  repeat'(first|exact trivial|apply eS rfl|apply AB|refine rX f ?_ ?_)
  .dsimp only[Ty.den];exact⟨λ_=>by omega,λ_=>by omega,λ_=>by omega⟩
  refine DK (by simp only[go_sem,Nat.reduceEqDiff,reduceCtorEq,Nat.reduceAdd,Nat.reduceSub,Nat.reduceMul,Nat.reduceLeDiff,Nat.reduceLT,Int.reduceLE,Int.reduceToNat,Int.reduceNeg,↓reduceIte];rfl) ?_ ?_
  .intro g;simp only[AT,Do,OF,IF]at g;obtain⟨G,z⟩:=g;rw[L]at z;have z:=Q.lt BK (i:=k) (j:=k-1) oa oa oa z;repeat'(first|exact trivial|apply eS rfl|apply AB|refine rX f ?_ ?_)
   .exact CC
   refine⟨⟨k+1,by omega,by omega,nP BK F oa z⟩,by simp only;omega,AC [(1000000,.nm 1000000)] rfl rfl ?_ ?_⟩
   .first|exact eN|refine eM ?_
   first|exact eN|refine eM ?_
  intro g;clear g;repeat'(first|exact trivial|apply eS rfl|apply AB|refine rX f ?_ ?_)
  refine rC (λab=>?_) (λab=>?_)
  .have P:k=b:=by omega
   subst P;repeat'(first|exact trivial|apply eS rfl|apply AB|refine rX f ?_ ?_|refine rC ?_ ?_<;>intro q<;>try(cases q;done))
   exact fM f [.tmp 8] (.p .bool true) eT ⟨true,m,rfl,rfl,u,λ_=>F⟩
  have P:k<b:=by omega
  repeat'(first|exact trivial|apply eS rfl|apply AB|refine rX f ?_ ?_)
  .exact CC
  refine rC (λad=>?_) (λad=>?_)
  .repeat'(first|exact trivial|apply eS rfl|apply AB|refine rX f ?_ ?_|refine rC ?_ ?_<;>intro q<;>try(cases q;done))
   exact fM f [.tmp 8] (.p .bool false) eT ⟨false,m,rfl,rfl,u,λh=>by cases h⟩
  have v:Df (ByteArray.empty,[]) a b m (CP (ByteArray.empty,[]) m k (k-1)):=Df.swap m oa oa oa oa oa;have B:CP (ByteArray.empty,[]) m k (k-1)=(m.set k (m.getD (k-1) (ByteArray.empty,[]))).set (k-1) (m.getD k (ByteArray.empty,[])):=rfl;have S:Zs BN (ByteArray.empty,[]) a (k-1) (k-1) (CP (ByteArray.empty,[]) m k (k-1)):=⟨λx y T G z U V=>by
   have N:=HR (d:=(ByteArray.empty,[])) (l:=m) (i:=k) (j:=k-1) oa oa;rw[N x,N y,As U,As (show ¬x=k by omega),As V,As (show ¬y=k by omega)];exact F x y T G oa,λy G z=>by omega⟩
  repeat'(first|exact trivial|apply eS rfl|apply AB|refine rP f ?_ ?_|fail)
  (refine Dw drawsAny f 16 [([0,1,5,6,7,8,9,10,11,12,13,14],15)] [2,3,4] (by kernel_rfl) (WA ?_ ?_);(next=>exact CC);refine YU f [] ?_ ?_;(next=>exact CC);refine WB f ?_ ?_ ?_;(next=>exact CC);(next=>exact CC))
  rw[L,<-B];have J:=u.trans v;clear B v Q aj;generalize CP (ByteArray.empty,[]) m k (k-1)=c0 at *;refine G8 ?_;refine Mt (ι:={c:List (ByteArray×List Int)//Df (ByteArray.empty,[]) a b l c/\PU BN (ByteArray.empty,[]) a k c}) (λs=>⟨[(0,.sr 1000000 Bv 0 l.length),(1,.p T3 (a:Int)),(2,.p T3 (b:Int)),(3,.fn 44),(9,.p (.int .i64) (k:Int)),(10,.p (.int .i64) (t:Int))],[(1000000,.arr 61 Bv s.1)]⟩) ?_ (λs=>?_)
  .repeat'(first|exact trivial|apply eS rfl|apply AB|refine rX f ?_ ?_)
   .exact CC
   refine rC (λH=>?_) (λH=>?_)
   .repeat'(first|exact trivial|apply eS rfl|apply AB|refine rX f ?_ ?_)
    .exact CC
    rw[show (k:Int)-1=((k-1:Nat):Int) by omega];refine AJ (ι:={s:Nat×List (ByteArray×List Int)//(a<=s.1/\s.1<=k-1)/\Df (ByteArray.empty,[]) a b l s.2/\Zs BN (ByteArray.empty,[]) a (k-1) s.1 s.2}) (λs=>⟨[(0,.sr 1000000 Bv 0 l.length),(1,.p T3 (a:Int)),(2,.p T3 (b:Int)),(3,.fn 44),(9,.p (.int .i64) (k:Int)),(10,.p (.int .i64) (t:Int)),(11,.p (.int .i64) (s.1.1:Int))],[(1000000,.arr 61 Bv s.1.2)]⟩) (λs=>s.1.1) ⟨(k-1,c0),by simp only;omega,J,S⟩ (AC [(1000000,.nm 1000000)] rfl rfl ?_ ?_) (λs=>?_)
    .first|exact eN|refine eM ?_
    .first|exact eN|refine eM ?_
    obtain⟨⟨j,c⟩,⟨D,A⟩,n,o⟩:=s;simp only at D A n o ⊢;have Z:=M.perm BK n.perm;have aa:=n.len;have C:((j:Int)-1).toNat=j-1:=by omega
    have X:=W.pin n;repeat'(first|exact trivial|apply eS rfl|apply AB|refine rX f ?_ ?_)
    refine rC (λI=>?_) (λI=>?_)
    .repeat'(first|exact trivial|apply eS rfl|apply AB|refine rX f ?_ ?_)
     .exact CC
     refine DK (by simp only[go_sem,Nat.reduceEqDiff,reduceCtorEq,Nat.reduceAdd,Nat.reduceSub,Nat.reduceMul,Nat.reduceLeDiff,Nat.reduceLT,Int.reduceLE,Int.reduceToNat,Int.reduceNeg,↓reduceIte];rfl) ?_ ?_
     .intro g;simp only[OF,IF]at g;rw[C]at g;have g:=Z.lt BK (i:=j) (j:=j-1) oa oa oa g;have E:=Rv BK o D A (.inr g);rw[show k-1+1=k by omega]at E;repeat'(first|exact trivial|apply eS rfl|apply AB|refine rX f ?_ ?_)
      refine⟨⟨c,n,E⟩,AC [(1000000,.nm 1000000)] rfl rfl ?_ ?_⟩
      .first|exact eN|refine eM ?_
      first|exact eN|refine eM ?_
     intro g;simp only[AAP,Do]at g;rw[C]at g;have g:BN (c.getD j (ByteArray.empty,[])) (c.getD (j-1) (ByteArray.empty,[]))<0:=g;have Y:a<j:=by
      refine IN λap=>?_;have e:j=a:=by omega
      subst e;rcases X with h|h
      .omega
      have:=h j (If _) oa;rw[BK.anti]at this;omega
     have v:Df (ByteArray.empty,[]) a b c (CP (ByteArray.empty,[]) c j (j-1)):=Df.swap c oa oa oa oa oa;have B:CP (ByteArray.empty,[]) c j (j-1)=(c.set j (c.getD (j-1) (ByteArray.empty,[]))).set (j-1) (c.getD j (ByteArray.empty,[])):=rfl;repeat'(first|exact trivial|apply eS rfl|apply AB|refine rP f ?_ ?_|fail)
     (refine Dw drawsAny f 16 [([0,1,5,6,7,8,9,10,11,12,13,14],15)] [2,3,4] (by kernel_rfl) (WA ?_ ?_);(next=>exact CC);refine YU f [] ?_ ?_;(next=>exact CC);refine WB f ?_ ?_ ?_;(next=>exact CC);(next=>exact CC))
     rw[C,<-B];repeat'(first|exact trivial|apply eS rfl|apply AB|refine rX f ?_ ?_)
     .exact CC
     refine⟨⟨(j-1,CP (ByteArray.empty,[]) c j (j-1)),by simp only;omega,n.trans v,UA o Y A oa g⟩,by simp only;omega,AC [(1000000,.nm 1000000)] rfl rfl ?_ ?_⟩
     .first|exact eN|refine eM ?_
     simp only;rw[show ((j-1:Nat):Int)=(j:Int)-1 by omega];first|exact eN|refine eM ?_
    have af:j=a:=by omega
    have E:=Rv BK o D A (.inl af);rw[show k-1+1=k by omega]at E;repeat'(first|exact trivial|apply eS rfl|apply AB|refine rX f ?_ ?_)
    refine⟨⟨c,n,E⟩,AC [(1000000,.nm 1000000)] rfl rfl ?_ ?_⟩
    .first|exact eN|refine eM ?_
    first|exact eN|refine eM ?_
   have ai:k=a+1:=by omega
   repeat'(first|exact trivial|apply eS rfl|apply AB|refine rX f ?_ ?_)
   refine⟨⟨c0,J,by rw[ai];exact Vj a c0⟩,AC [(1000000,.nm 1000000)] rfl rfl ?_ ?_⟩
   .first|exact eN|refine eM ?_
   first|exact eN|refine eM ?_
  obtain⟨c,n,o⟩:=s;simp only;clear J S;repeat'(first|exact trivial|apply eS rfl|apply AB|refine rX f ?_ ?_)
  .exact CC
  refine rC (λH=>?_) (λH=>?_)
  .repeat'(first|exact trivial|apply eS rfl|apply AB|refine rX f ?_ ?_)
   .exact CC
   rw[show (k:Int)+1=((k+1:Nat):Int) by omega];refine AJ (ι:={s:Nat×List (ByteArray×List Int)//(k+1<=s.1/\s.1<=b)/\Df (ByteArray.empty,[]) a b l s.2/\PU BN (ByteArray.empty,[]) a k s.2}) (λs=>⟨[(0,.sr 1000000 Bv 0 l.length),(1,.p T3 (a:Int)),(2,.p T3 (b:Int)),(3,.fn 44),(9,.p (.int .i64) (k:Int)),(10,.p (.int .i64) (t:Int)),(12,.p (.int .i64) (s.1.1:Int))],[(1000000,.arr 61 Bv s.1.2)]⟩) (λs=>b-s.1.1) ⟨(k+1,c),by simp only;omega,n,o⟩ (AC [(1000000,.nm 1000000)] rfl rfl ?_ ?_) (λs=>?_)
   .first|exact eN|refine eM ?_
   .first|exact eN|refine eM ?_
   clear n o;obtain⟨⟨j,c⟩,⟨D,A⟩,n,o⟩:=s;simp only at D A n o ⊢;have aa:=n.len;have C:((j:Int)-1).toNat=j-1:=by omega
   repeat'(first|exact trivial|apply eS rfl|apply AB|refine rX f ?_ ?_)
   refine rC (λI=>?_) (λI=>?_)
   .repeat'(first|exact trivial|apply eS rfl|apply AB|refine rX f ?_ ?_)
    .exact CC
    refine DK (by simp only[go_sem,Nat.reduceEqDiff,reduceCtorEq,Nat.reduceAdd,Nat.reduceSub,Nat.reduceMul,Nat.reduceLeDiff,Nat.reduceLT,Int.reduceLE,Int.reduceToNat,Int.reduceNeg,↓reduceIte];rfl) ?_ ?_
    .intro g;clear g;repeat'(first|exact trivial|apply eS rfl|apply AB|refine rX f ?_ ?_)
     .exact CC
     refine⟨⟨(k,t+1,c),by simp only;omega,by simp only;omega,n,o⟩,by simp only;omega,AC [(1000000,.nm 1000000)] rfl rfl ?_ ?_⟩
     .first|exact eN|refine eM ?_
     first|exact eN|refine eM ?_
    intro g;clear g;have v:Df (ByteArray.empty,[]) k b c (CP (ByteArray.empty,[]) c j (j-1)):=Df.swap c oa oa oa oa oa;have B:CP (ByteArray.empty,[]) c j (j-1)=(c.set j (c.getD (j-1) (ByteArray.empty,[]))).set (j-1) (c.getD j (ByteArray.empty,[])):=rfl;repeat'(first|exact trivial|apply eS rfl|apply AB|refine rP f ?_ ?_|fail)
    (refine Dw drawsAny f 16 [([0,1,5,6,7,8,9,10,11,12,13,14],15)] [2,3,4] (by kernel_rfl) (WA ?_ ?_);(next=>exact CC);refine YU f [] ?_ ?_;(next=>exact CC);refine WB f ?_ ?_ ?_;(next=>exact CC);(next=>exact CC))
    rw[C,<-B];repeat'(first|exact trivial|apply eS rfl|apply AB|refine rX f ?_ ?_)
    .exact CC
    refine⟨⟨(j+1,CP (ByteArray.empty,[]) c j (j-1)),by simp only;omega,n.trans (v.mono oa (If _)),LX o λx au av=>v.out x oa⟩,by simp only;omega,AC [(1000000,.nm 1000000)] rfl rfl ?_ ?_⟩
    .first|exact eN|refine eM ?_
    first|exact eN|refine eM ?_
   repeat'(first|exact trivial|apply eS rfl|apply AB|refine rX f ?_ ?_)
   .exact CC
   refine⟨⟨(k,t+1,c),by simp only;omega,by simp only;omega,n,o⟩,by simp only;omega,AC [(1000000,.nm 1000000)] rfl rfl ?_ ?_⟩
   .first|exact eN|refine eM ?_
   first|exact eN|refine eM ?_
  repeat'(first|exact trivial|apply eS rfl|apply AB|refine rX f ?_ ?_)
  .exact CC
  refine⟨⟨(k,t+1,c),by simp only;omega,by simp only;omega,n,o⟩,by simp only;omega,AC [(1000000,.nm 1000000)] rfl rfl ?_ ?_⟩
  .first|exact eN|refine eM ?_
  first|exact eN|refine eM ?_
 repeat'(first|exact trivial|apply eS rfl|apply AB|refine rX f ?_ ?_|refine rC ?_ ?_<;>intro q<;>try(cases q;done))
 exact fM f [.tmp 8] (.p .bool false) eT ⟨false,m,rfl,rfl,u,λh=>by cases h⟩
end
section
attribute [local go_sem] SE
def Fu (l:List (ByteArray×List Int)) (s:Nat):List (Nat×Obj):=[(1000000,.arr 61 Bv l),(70,.box 3 false [.p T3 (s:Int)])]
theorem SF (l:List (ByteArray×List Int)) (a b s:Nat) (f:a<l.length) (g:b<l.length) (hs:s<=1000):Aj Tryz.prog 181 [.sr 1000000 Bv 0 l.length,.p T3 (a:Int),.p T3 (b:Int),.bp 70 [] 0,.fn 44] (Fu l s) [1000000,70] (λres e=>∃x y t:Nat,res=.tup [.p T3 (x:Int),.p T3 (y:Int)]/\e=Fu l t/\((x=a/\y=b)\/(x=b/\y=a))/\t<=s+1):=by
 refine Er [0,1,2,3,4,10,11,22] [] [] Tryz.func181 Tryz.ntmps181 (AF Lc AH) ?_;intro w0 K O0 ρ0 c h i;simp only[AX,Fu];repeat'(first|exact trivial|apply eS rfl|apply AB|refine rX c ?_ ?_|refine rC ?_ ?_<;>intro d<;>try(cases d;done))
 .exact CC
 .exact CC
 .refine fM c [.tmp 10,.tmp 11] (.tup [.p T3 (b:Int),.p T3 (a:Int)]) eT ⟨b,a,s+1,rfl,?_,.inr ⟨rfl,rfl⟩,If _⟩;rw[show ((s+1:Nat):Int)=(s:Int)+1 by omega]
 exact fM c [.tmp 10,.tmp 11] (.tup [.p T3 (a:Int),.p T3 (b:Int)]) eT ⟨a,b,s,rfl,rfl,.inl ⟨rfl,rfl⟩,by omega⟩
theorem V1 (l:List (ByteArray×List Int)) (a b c s:Nat) (k:a<l.length) (m:b<l.length) (cl:c<l.length) (hs:s<=900):Aj Tryz.prog 175 [.sr 1000000 Bv 0 l.length,.p T3 (a:Int),.p T3 (b:Int),.p T3 (c:Int),.bp 70 [] 0,.fn 44] (Fu l s) [1000000,70] (λres n=>∃x t:Nat,res=.p T3 (x:Int)/\n=Fu l t/\(x=a\/x=b\/x=c)/\t<=s+3):=by
 refine Er [0,1,2,3,4,5,12] [] [] Tryz.func175 Tryz.ntmps175 AH ?_;intro w0 K O0 ρ0 d u v;simp only[AX,Fu];repeat'(first|exact trivial|apply eS rfl|apply AB|refine rX d ?_ ?_|refine rC ?_ ?_<;>intro e<;>try(cases e;done))
 refine cP 5 d ?_ ?_
 .trivial
 refine rM d (SF l a b s k m oa) [(1000000,.nm 1000000),(70,.nm 70)] [] ?_ ?_ ?_
 .first|exact eN|refine eM ?_
 .simp only[Fu];first|exact eN|refine eM ?_
 rintro _ _ ⟨g,h,s1,rfl,rfl,o,w⟩;refine⟨[(1000000,.nm 1000000),(70,.nm 70)],.tup [.p T3 (g:Int),.p T3 (h:Int)],[(1000000,.arr 61 Bv l),(70,.box 3 false [.p T3 (s1:Int)])],rfl,rfl,?_,?_,rfl,rfl,?_⟩
 .simp only[Fu];first|exact eN|refine eM ?_
 .first|exact eN|refine eM ?_
 refine rL d ?_ ?_
 .trivial
 repeat'(first|exact trivial|apply eS rfl|apply AB|refine rX d ?_ ?_|refine rC ?_ ?_<;>intro e<;>try(cases e;done))
 refine cP 5 d ?_ ?_
 .trivial
 refine rM d (SF l h c s1 oa cl oa) [(1000000,.nm 1000000),(70,.nm 70)] [] ?_ ?_ ?_
 .first|exact eN|refine eM ?_
 .simp only[Fu];first|exact eN|refine eM ?_
 rintro _ _ ⟨i,c2,s2,rfl,rfl,q,y⟩;refine⟨[(1000000,.nm 1000000),(70,.nm 70)],.tup [.p T3 (i:Int),.p T3 (c2:Int)],[(1000000,.arr 61 Bv l),(70,.box 3 false [.p T3 (s2:Int)])],rfl,rfl,?_,?_,rfl,rfl,?_⟩
 .simp only[Fu];first|exact eN|refine eM ?_
 .first|exact eN|refine eM ?_
 refine rL d ?_ ?_
 .trivial
 repeat'(first|exact trivial|apply eS rfl|apply AB|refine rX d ?_ ?_|refine rC ?_ ?_<;>intro e<;>try(cases e;done))
 refine cP 5 d ?_ ?_
 .trivial
 refine rM d (SF l g i s2 oa oa oa) [(1000000,.nm 1000000),(70,.nm 70)] [] ?_ ?_ ?_
 .first|exact eN|refine eM ?_
 .simp only[Fu];first|exact eN|refine eM ?_
 rintro _ _ ⟨a3,f,j,rfl,rfl,r,z⟩;refine⟨[(1000000,.nm 1000000),(70,.nm 70)],.tup [.p T3 (a3:Int),.p T3 (f:Int)],[(1000000,.arr 61 Bv l),(70,.box 3 false [.p T3 (j:Int)])],rfl,rfl,?_,?_,rfl,rfl,?_⟩
 .simp only[Fu];first|exact eN|refine eM ?_
 .first|exact eN|refine eM ?_
 refine rL d ?_ ?_
 .trivial
 repeat'(first|exact trivial|apply eS rfl|apply AB|refine rX d ?_ ?_|refine rC ?_ ?_<;>intro e<;>try(cases e;done))
 exact fM d [.tmp 12] (.p T3 (f:Int)) eT ⟨f,j,rfl,rfl,by omega,by omega⟩
theorem V2 (l:List (ByteArray×List Int)) (b s:Nat) (g:1<=b) (d:b+1<l.length) (h:l.length<=100000) (hs:s<=900):Aj Tryz.prog 174 [.sr 1000000 Bv 0 l.length,.p T3 (b:Int),.bp 70 [] 0,.fn 44] (Fu l s) [1000000,70] (λres f=>∃x t:Nat,res=.p T3 (x:Int)/\f=Fu l t/\(b-1<=x/\x<=b+1)/\t<=s+3):=by
 refine Er [0,1,2,3,8] [] [] Tryz.func174 Tryz.ntmps174 AH ?_;intro w0 K O0 ρ0 a i j;simp only[AX,Fu];have key:=V1 l (b-1) b (b+1) s oa oa d hs;rw[show ((b-1:Nat):Int)=(b:Int)-1 by omega,show ((b+1:Nat):Int)=(b:Int)+1 by omega]at key;repeat'(first|exact trivial|apply eS rfl|apply AB|refine rX a ?_ ?_|refine rC ?_ ?_<;>intro c<;>try(cases c;done))
 refine cP 8 a ?_ ?_
 .exact CC
 refine rM a (key) [(1000000,.nm 1000000),(70,.nm 70)] [] ?_ ?_ ?_
 .first|exact eN|refine eM ?_
 .simp only[Fu];first|exact eN|refine eM ?_
 rintro _ _ ⟨x,t,rfl,rfl,k,e⟩;refine⟨[(1000000,.nm 1000000),(70,.nm 70)],.p T3 (x:Int),[(1000000,.arr 61 Bv l),(70,.box 3 false [.p T3 (t:Int)])],rfl,rfl,?_,?_,rfl,rfl,?_⟩
 .simp only[Fu];first|exact eN|refine eM ?_
 .first|exact eN|refine eM ?_
 refine rL a ?_ ?_
 .trivial
 repeat'(first|exact trivial|apply eS rfl|apply AB|refine rX a ?_ ?_|refine rC ?_ ?_<;>intro c<;>try(cases c;done))
 exact fM a [.tmp 8] (.p T3 (x:Int)) eT ⟨x,t,rfl,rfl,by omega,e⟩
theorem vI (l:List (ByteArray×List Int)) (i:l.length<=100000) (a b:Nat) (z:a+13<=b) (A:b<=l.length):Aj Tryz.prog 135 [.sr 1000000 Bv 0 l.length,.p T3 (a:Int),.p T3 (b:Int),.fn 44] [(1000000,.arr 61 Bv l)] [1000000] (λres y=>∃(j:Nat) (h:Int),res=.tup [.p T3 (j:Int),.p T3 h]/\y=[(1000000,.arr 61 Bv l)]/\a<=j/\j<b):=by
 refine Er [0,1,2,3,8,9,10,11,12,13,14,34,36,55,57,60] [] [] Tryz.func135 Tryz.ntmps135 AH ?_;intro w0 K O0 ρ0 c B C;simp only[AX];obtain⟨t,v⟩:∃t,t=(b-a) / 4:=⟨_,rfl⟩;have et:((b:Int)-(a:Int)).tdiv 4=(t:Int):=by
  rw[oF oa];omega
 have G:4*t<=b-a:=by omega
 have H:3<=t:=by omega
 clear v
 (apply eS rfl;refine rX c ?_ ?_;(next=>first|exact trivial|exact CC))
 (apply eS rfl;refine rX c ?_ ?_;(next=>first|exact trivial|exact CC))
 (apply eS rfl;refine rX c ?_ ?_;(next=>first|exact trivial|exact CC))
 (apply eS rfl;refine rX c ?_ ?_;(next=>first|exact trivial|exact CC|(rw[et];refine⟨⟨by decide,?_⟩,?_,?_⟩<;>omega)))
 (apply eS rfl;refine rX c ?_ ?_;(next=>first|exact trivial|exact CC|(rw[et];refine⟨⟨by decide,?_⟩,?_,?_⟩<;>omega)))
 (apply eS rfl;refine rX c ?_ ?_;(next=>first|exact trivial|exact CC|(rw[et];refine⟨⟨by decide,?_⟩,?_,?_⟩<;>omega)))
 rw[et,show (a:Int)+(t:Int)*1=((a+t:Nat):Int) by omega,show (a:Int)+(t:Int)*2=((a+t*2:Nat):Int) by omega,show (a:Int)+(t:Int)*3=((a+t*3:Nat):Int) by omega];refine G8 ?_;refine Mt (ι:={x:Nat×Nat//a<=x.1/\x.1<b}) (λx=>⟨[(11,.bp 11 [] 0),(13,.p T3 (x.1.1:Int))],[(1000000,.arr 61 Bv l),(11,.box 3 false [.p T3 (x.1.2:Int)])]⟩) ?_ (λx=>?_)
 .repeat'(first|exact trivial|apply eS rfl|apply AB|refine rX c ?_ ?_)
  refine rC ?_ ?_<;>intro k
  .repeat'(first|exact trivial|apply eS rfl|apply AB|refine rX c ?_ ?_)
   refine rC (λr=>?_) (λr=>?_)
   .repeat'(first|exact trivial|apply eS rfl|apply AB|refine rP c ?_ ?_|fail)
    refine cP 3 c ?_ ?_
    .trivial
    refine rM c (V2 l (a+t) 0 oa oa i oa) [(1000000,.nm 1000000),(70,.nm 11)] [] ?_ ?_ ?_
    .first|exact eN|refine eM ?_
    .simp only[Fu];first|exact eN|refine eM ?_
    rintro _ _ ⟨n,s1,rfl,rfl,I,D⟩;refine⟨[(1000000,.nm 1000000),(11,.nm 70)],.p T3 (n:Int),[(1000000,.arr 61 Bv l),(11,.box 3 false [.p T3 (s1:Int)])],rfl,rfl,?_,?_,rfl,rfl,?_⟩
    .simp only[Fu];first|exact eN|refine eM ?_
    .first|exact eN|refine eM ?_
    refine rL c ?_ ?_
    .trivial
    repeat'(first|exact trivial|apply eS rfl|apply AB|refine rX c ?_ ?_)
    refine cP 3 c ?_ ?_
    .trivial
    refine rM c (V2 l (a+t*2) s1 oa oa i oa) [(1000000,.nm 1000000),(70,.nm 11)] [] ?_ ?_ ?_
    .first|exact eN|refine eM ?_
    .simp only[Fu];first|exact eN|refine eM ?_
    rintro _ _ ⟨o,s2,rfl,rfl,J,E⟩;refine⟨[(1000000,.nm 1000000),(11,.nm 70)],.p T3 (o:Int),[(1000000,.arr 61 Bv l),(11,.box 3 false [.p T3 (s2:Int)])],rfl,rfl,?_,?_,rfl,rfl,?_⟩
    .simp only[Fu];first|exact eN|refine eM ?_
    .first|exact eN|refine eM ?_
    refine rL c ?_ ?_
    .trivial
    repeat'(first|exact trivial|apply eS rfl|apply AB|refine rX c ?_ ?_)
    refine cP 3 c ?_ ?_
    .trivial
    refine rM c (V2 l (a+t*3) s2 oa oa i oa) [(1000000,.nm 1000000),(70,.nm 11)] [] ?_ ?_ ?_
    .first|exact eN|refine eM ?_
    .simp only[Fu];first|exact eN|refine eM ?_
    rintro _ _ ⟨q,m,rfl,rfl,L,F⟩;refine⟨[(1000000,.nm 1000000),(11,.nm 70)],.p T3 (q:Int),[(1000000,.arr 61 Bv l),(11,.box 3 false [.p T3 (m:Int)])],rfl,rfl,?_,?_,rfl,rfl,?_⟩
    .simp only[Fu];first|exact eN|refine eM ?_
    .first|exact eN|refine eM ?_
    refine rL c ?_ ?_
    .trivial
    repeat'(first|exact trivial|apply eS rfl|apply AB|refine rX c ?_ ?_)
    refine cP 5 c ?_ ?_
    .trivial
    refine rM c (V1 l (n) (o) (q) m oa oa oa oa) [(1000000,.nm 1000000),(70,.nm 11)] [] ?_ ?_ ?_
    .first|exact eN|refine eM ?_
    .simp only[Fu];first|exact eN|refine eM ?_
    rintro _ _ ⟨e,d,rfl,rfl,w,u⟩;refine⟨[(1000000,.nm 1000000),(11,.nm 70)],.p T3 (e:Int),[(1000000,.arr 61 Bv l),(11,.box 3 false [.p T3 (d:Int)])],rfl,rfl,?_,?_,rfl,rfl,?_⟩
    .simp only[Fu];first|exact eN|refine eM ?_
    .first|exact eN|refine eM ?_
    refine rL c ?_ ?_
    .trivial
    repeat'(first|exact trivial|apply eS rfl|apply AB|refine rX c ?_ ?_)
    refine⟨⟨(e,d),by simp only;omega,by simp only;omega⟩,AC [(1000000,.nm 1000000),(11,.nm 11)] rfl rfl ?_ ?_⟩
    .first|exact eN|refine eM ?_
    first|exact eN|refine eM ?_
   repeat'(first|exact trivial|apply eS rfl|apply AB|refine rP c ?_ ?_|fail)
   refine cP 5 c ?_ ?_
   .trivial
   refine rM c (V1 l (a+t) (a+t*2) (a+t*3) 0 oa oa oa oa) [(1000000,.nm 1000000),(70,.nm 11)] [] ?_ ?_ ?_
   .first|exact eN|refine eM ?_
   .simp only[Fu];first|exact eN|refine eM ?_
   rintro _ _ ⟨e,d,rfl,rfl,w,u⟩;refine⟨[(1000000,.nm 1000000),(11,.nm 70)],.p T3 (e:Int),[(1000000,.arr 61 Bv l),(11,.box 3 false [.p T3 (d:Int)])],rfl,rfl,?_,?_,rfl,rfl,?_⟩
   .simp only[Fu];first|exact eN|refine eM ?_
   .first|exact eN|refine eM ?_
   refine rL c ?_ ?_
   .trivial
   repeat'(first|exact trivial|apply eS rfl|apply AB|refine rX c ?_ ?_)
   refine⟨⟨(e,d),by simp only;omega,by simp only;omega⟩,AC [(1000000,.nm 1000000),(11,.nm 11)] rfl rfl ?_ ?_⟩
   .first|exact eN|refine eM ?_
   first|exact eN|refine eM ?_
  exfalso;omega
 obtain⟨⟨j,s⟩,f,g⟩:=x;simp only at f g ⊢;repeat'(first|exact trivial|apply eS rfl|apply AB|refine rX c ?_ ?_|refine rC ?_ ?_<;>intro k<;>try(cases k;done))
 .refine Ev.ent (σ':=⟨[(8,.p T3 (j:Int)),(9,.p T3 (1:Int))],[(1000000,.arr 61 Bv l)]⟩) ?_ (AC [(1000000,.nm 1000000)] rfl rfl ?_ ?_)
  .exact fM c [.tmp 8,.tmp 9] (.tup [.p T3 (j:Int),.p T3 (1:Int)]) eT ⟨j,1,rfl,rfl,f,g⟩
  .first|exact eN|refine eM ?_
  first|exact eN|refine eM ?_
 .refine Ev.ent (σ':=⟨[(8,.p T3 (j:Int)),(9,.p T3 (2:Int))],[(1000000,.arr 61 Bv l)]⟩) ?_ (AC [(1000000,.nm 1000000)] rfl rfl ?_ ?_)
  .exact fM c [.tmp 8,.tmp 9] (.tup [.p T3 (j:Int),.p T3 (2:Int)]) eT ⟨j,2,rfl,rfl,f,g⟩
  .first|exact eN|refine eM ?_
  first|exact eN|refine eM ?_
 refine Ev.ent (σ':=⟨[(8,.p T3 (j:Int)),(9,.p T3 (0:Int))],[(1000000,.arr 61 Bv l)]⟩) ?_ (AC [(1000000,.nm 1000000)] rfl rfl ?_ ?_)
 .exact fM c [.tmp 8,.tmp 9] (.tup [.p T3 (j:Int),.p T3 (0:Int)]) eT ⟨j,0,rfl,rfl,f,g⟩
 .first|exact eN|refine eM ?_
 first|exact eN|refine eM ?_
theorem vJ (l:List (ByteArray×List Int)) (L:l.length<=256) (a b:Nat) (G:a+8<=b) (I:b<=l.length):Aj Tryz.prog 134 [.sr 1000000 Bv 0 l.length,.p T3 (a:Int),.p T3 (b:Int),.fn 44] [(1000000,.arr 61 Bv l)] [1000000] (λres F=>res=.raw (.tuple #[])/\∃r,F=[(1000000,.arr 61 Bv r)]/\Df (ByteArray.empty,[]) a b l r):=by
 refine Er [0,1,2,8,9,10,11,12,17,35,45] [] [] Tryz.func134 Tryz.ntmps134 AH ?_;intro w0 K O0 ρ0 d M N;simp only[AX];obtain⟨n,C⟩:∃n,b=a+n:=⟨b-a,by omega⟩;subst C;have en:((a+n:Nat):Int)-(a:Int)=(n:Int):=by omega
 obtain⟨t,E⟩:∃t,t=n / 4:=⟨_,rfl⟩;have et:(n:Int).tdiv 4=(t:Int):=by
  rw[oF oa];omega
 have O:4*t<=n:=by omega
 have P:2<=t:=by omega
 clear E
 (apply eS rfl;refine rX d ?_ ?_;(next=>first|exact trivial|exact CC))
 rw[en];repeat'(first|exact trivial|apply eS rfl|apply AB|refine rX d ?_ ?_)
 refine rC ?_ ?_<;>intro j
 .repeat'(first|exact trivial|apply eS rfl|apply AB|refine rX d ?_ ?_)
  .exact CC
  refine cP 1 d ?_ ?_
  .trivial
  refine rM d (uO (n:Int) oa oa) [] [] ?_ ?_ ?_
  .first|exact eN|refine eM ?_
  .first|exact eN|refine eM ?_
  rintro _ _ ⟨⟨m,rfl,A,B⟩,rfl⟩;rw[AA4]at A B;refine⟨[],.p (.int .u64) (m:Int),[],rfl,rfl,?_,?_,rfl,rfl,?_⟩
  .first|exact eN|refine eM ?_
  .first|exact eN|refine eM ?_
  refine rL d ?_ ?_
  .trivial
  repeat'(first|exact trivial|apply eS rfl|apply AB|refine rX d ?_ ?_)
  .rw[et];refine⟨⟨by decide,?_⟩,?_,?_,?_⟩<;>omega
  rw[et,show (a:Int)+(t:Int)*2-1=((a+t*2-1:Nat):Int) by omega];refine AJ (ι:={s:Nat×Int×List (ByteArray×List Int)//(a<=s.1/\s.1<=a+t*2+2)/\(0<=s.2.1/\s.2.1<=18446744073709551615)/\Df (ByteArray.empty,[]) a (a+n) l s.2.2}) (λs=>⟨[(0,.sr 1000000 Bv 0 l.length),(1,.p T3 (a:Int)),(8,.p (.int .i64) (n:Int)),(9,.bp 9 [] 0),(10,.p (.int .u64) (m:Int)),(11,.p (.int .i64) (s.1.1:Int))],[(1000000,.arr 61 Bv s.1.2.2),(9,.box 188 false [.p (.int .u64) s.1.2.1])]⟩) (λs=>a+t*2+2-s.1.1) ⟨(a+t*2-1,(n:Int),l),by simp only;omega,by simp only;omega,Df.refl _ _ l⟩ (AC [(1000000,.nm 1000000),(9,.nm 9)] rfl rfl ?_ ?_) (λs=>?_)
  .first|exact eN|refine eM ?_
  .first|exact eN|refine eM ?_
  obtain⟨⟨i,x,c⟩,⟨y,z⟩,q,hp⟩:=s;simp only at y z q hp ⊢;have J:=hp.len;repeat'(first|exact trivial|apply eS rfl|apply AB|refine rX d ?_ ?_)
  .rw[et];refine⟨⟨by decide,?_⟩,?_,?_,?_⟩<;>omega
  rw[et];refine rC (λu=>?_) (λu=>?_)
  .apply eS rfl;refine cP 0 d ?_ ?_
   .trivial
   refine rM d (uP x q) [(70,.nm 9)] [] ?_ ?_ ?_
   .first|exact eN|refine eM ?_
   .first|exact eN|refine eM ?_
   rintro _ _ ⟨v,k,rfl,rfl⟩;refine⟨[(9,.nm 70)],.p (.int .u64) v,[(9,.box 188 false [.p (.int .u64) v])],rfl,rfl,?_,?_,rfl,rfl,?_⟩
   .first|exact eN|refine eM ?_
   .first|exact eN|refine eM ?_
   have H:=uN v ((m:Int)-1) oa oa;refine rL d ?_ ?_
   .exact⟨by omega,by omega⟩
   generalize A4 .and .u64 v ((m:Int)-1)=r at *;repeat'(first|exact trivial|apply eS rfl|apply AB|refine rX d ?_ ?_)
   refine rC (λw=>?_) (λw=>?_)
   .obtain⟨o,f⟩:∃o:Nat,r-(n:Int)=(o:Int):=⟨(r-(n:Int)).toNat,by omega⟩;have D:o<n:=by omega
    refine rX d ?_ ?_
    .exact CC
    rw[f];have g:Df (ByteArray.empty,[]) a (a+n) c (CP (ByteArray.empty,[]) c i (a+o)):=Df.swap c oa oa oa oa oa;have h:CP (ByteArray.empty,[]) c i (a+o)=(c.set i (c.getD (a+o) (ByteArray.empty,[]))).set (a+o) (c.getD i (ByteArray.empty,[])):=rfl;have e:((a:Int)+(o:Int)).toNat=a+o:=by omega
    repeat'(first|exact trivial|apply eS rfl|apply AB|refine rP d ?_ ?_|fail)
    (refine Dw drawsAny d 18 [([0,1,6,7,8,9,10,11,12,13,14,15,16],17)] [2,3,4,5] (by kernel_rfl) (WA ?_ ?_);(next=>exact CC);refine YU d [] ?_ ?_;(next=>exact CC);refine WB d ?_ ?_ ?_;(next=>exact CC);(next=>exact CC))
    rw[e,<-h];repeat'(first|exact trivial|apply eS rfl|apply AB|refine rX d ?_ ?_)
    .exact CC
    refine⟨⟨(i+1,v,CP (ByteArray.empty,[]) c i (a+o)),by simp only;omega,k,hp.trans g⟩,by simp only;omega,AC [(1000000,.nm 1000000),(9,.nm 9)] rfl rfl ?_ ?_⟩
    .first|exact eN|refine eM ?_
    first|exact eN|refine eM ?_
   obtain⟨o,f⟩:∃o:Nat,r=(o:Int):=⟨r.toNat,by omega⟩;subst f;have D:o<n:=by omega
   have g:Df (ByteArray.empty,[]) a (a+n) c (CP (ByteArray.empty,[]) c i (a+o)):=Df.swap c oa oa oa oa oa;have h:CP (ByteArray.empty,[]) c i (a+o)=(c.set i (c.getD (a+o) (ByteArray.empty,[]))).set (a+o) (c.getD i (ByteArray.empty,[])):=rfl;have e:((a:Int)+(o:Int)).toNat=a+o:=by omega
   repeat'(first|exact trivial|apply eS rfl|apply AB|refine rP d ?_ ?_|fail)
   (refine Dw drawsAny d 18 [([0,1,6,7,8,9,10,11,12,13,14,15,16],17)] [2,3,4,5] (by kernel_rfl) (WA ?_ ?_);(next=>exact CC);refine YU d [] ?_ ?_;(next=>exact CC);refine WB d ?_ ?_ ?_;(next=>exact CC);(next=>exact CC))
   rw[e,<-h];repeat'(first|exact trivial|apply eS rfl|apply AB|refine rX d ?_ ?_)
   .exact CC
   refine⟨⟨(i+1,v,CP (ByteArray.empty,[]) c i (a+o)),by simp only;omega,k,hp.trans g⟩,by simp only;omega,AC [(1000000,.nm 1000000),(9,.nm 9)] rfl rfl ?_ ?_⟩
   .first|exact eN|refine eM ?_
   first|exact eN|refine eM ?_
  repeat'(first|exact trivial|apply eS rfl|apply AB|refine rX d ?_ ?_|refine rC ?_ ?_<;>intro j<;>try(cases j;done))
  refine Ev.ent (σ':=⟨[],[(1000000,.arr 61 Bv c)]⟩) ?_ (AC [(1000000,.nm 1000000)] rfl rfl ?_ ?_)
  .exact fM d [] (.raw (.tuple #[])) rfl ⟨rfl,c,rfl,hp⟩
  .first|exact eN|refine eM ?_
  first|exact eN|refine eM ?_
 exfalso;omega
def YF (l:List (ByteArray×List Int)) (a b c:Nat):Prop:=Aj Tryz.prog 87 [.sr 1000000 Bv 0 l.length,.p T3 (a:Int),.p T3 (b:Int),.p T3 (c:Int),.fn 44] [(1000000,.arr 61 Bv l)] [1000000] (λres d=>res=.raw (.tuple #[])/\∃r,d=[(1000000,.arr 61 Bv r)]/\Df (ByteArray.empty,[]) a b l r/\PU BN (ByteArray.empty,[]) a b r)
theorem iX (l:List (ByteArray×List Int)) (bb:l.length<=256) (ad:WC BN (ByteArray.empty,[]) l) (a b T:Nat) (au:a<=b) (ba:b<=l.length) (aw:T<=1000) (ar:Bf BN (ByteArray.empty,[]) a b l)
  (W:∀(l':List (ByteArray×List Int)),l'.length<=256->WC BN (ByteArray.empty,[]) l'->∀L b' ao:Nat,b'-L<b-a->L<=b'->b'<=l'.length->ao<=1000->Bf BN (ByteArray.empty,[]) L b' l'->YF l' L b' ao):YF l a b T:=by
 unfold YF;refine Er [0,1,2,3,4,10,11,12,13,14,15,16,17,18,19,20,25,32,39,56,75,80,97,125] [] [] Tryz.func87 Tryz.ntmps87 (AF Lc AH) ?_;intro w0 K O0 ρ0 c bd be;simp only[AX];repeat'(first|exact trivial|apply eS rfl|apply AB|refine rX c ?_ ?_)
 refine AJ (ι:={s:(Nat×Nat×Nat)×(Bool×Bool)×List (ByteArray×List Int)//gW BN (ByteArray.empty,[]) a b s.1.1 s.1.2.1 s.2.2/\Df (ByteArray.empty,[]) a b l s.2.2/\Bf BN (ByteArray.empty,[]) s.1.1 s.1.2.1 s.2.2/\s.1.2.2<=1000}) (λs=>⟨[(0,.sr 1000000 Bv 0 l.length),(1,.p T3 (s.1.1.1:Int)),(2,.p T3 (s.1.1.2.1:Int)),(3,.p T3 (s.1.1.2.2:Int)),(4,.fn 44),(10,.p .bool s.1.2.1.1),(11,.p .bool s.1.2.1.2)],[(1000000,.arr 61 Bv s.1.2.2)]⟩) (λs=>s.1.1.2.1-s.1.1.1) ⟨((a,b,T),(true,true),l),gX au l,Df.refl a b l,ar,aw⟩ (AC [(1000000,.nm 1000000)] rfl rfl ?_ ?_) (λs=>?_)
 .first|exact eN|refine eM ?_
 .first|exact eN|refine eM ?_
 obtain⟨⟨⟨d,e,I⟩,⟨U,V⟩,m⟩,u,o,R,ah⟩:=s;simp only at u o R ah ⊢;obtain⟨E,ay,F⟩:=u.ab;have O:=ad.perm BK o.perm;have v:=o.len;repeat'(first|exact trivial|apply eS rfl|apply AB|refine rX c ?_ ?_)
 .exact CC
 refine rC ?_ ?_<;>intro t
 .have key:=vE m oa O d e oa oa;rw[v]at key;repeat'(first|exact trivial|apply eS rfl|apply AB|refine rX c ?_ ?_)
  refine cP 4 c ?_ ?_
  .trivial
  refine rM c (key) [(1000000,.nm 1000000)] [] ?_ ?_ ?_
  .first|exact eN|refine eM ?_
  .first|exact eN|refine eM ?_
  rintro _ _ ⟨rfl,r,rfl,f,i⟩;refine⟨[(1000000,.nm 1000000)],.raw (.tuple #[]),[(1000000,.arr 61 Bv r)],rfl,rfl,?_,?_,rfl,rfl,Bq ?_⟩
  .first|exact eN|refine eM ?_
  .first|exact eN|refine eM ?_
  repeat'(first|exact trivial|apply eS rfl|apply AB|refine rX c ?_ ?_|refine rC ?_ ?_<;>intro t<;>try(cases t;done))
  exact fM c [] (.raw (.tuple #[])) rfl ⟨rfl,r,rfl,o.trans (f.mono E F),(u.pin f).done i⟩
 have aq:d+13<=e:=by omega
 have el:(e:Int)-(d:Int)=((e-d:Nat):Int):=by omega
 rw[el];repeat'(first|exact trivial|apply eS rfl|apply AB|refine rX c ?_ ?_)
 refine rC (λav=>?_) (λav=>?_)
 .have key:=o0 m oa O d e ay oa;rw[v]at key;repeat'(first|exact trivial|apply eS rfl|apply AB|refine rX c ?_ ?_)
  refine cP 4 c ?_ ?_
  .trivial
  refine rM c (key) [(1000000,.nm 1000000)] [] ?_ ?_ ?_
  .first|exact eN|refine eM ?_
  .first|exact eN|refine eM ?_
  rintro _ _ ⟨rfl,r,rfl,f,i⟩;refine⟨[(1000000,.nm 1000000)],.raw (.tuple #[]),[(1000000,.arr 61 Bv r)],rfl,rfl,?_,?_,rfl,rfl,Bq ?_⟩
  .first|exact eN|refine eM ?_
  .first|exact eN|refine eM ?_
  repeat'(first|exact trivial|apply eS rfl|apply AB|refine rX c ?_ ?_|refine rC ?_ ?_<;>intro t<;>try(cases t;done))
  exact fM c [] (.raw (.tuple #[])) rfl ⟨rfl,r,rfl,o.trans (f.mono E F),(u.pin f).done i⟩
 have bc:0<I:=by omega
 refine aR ?_;refine G8 ?_;refine Mt (ι:={x:Nat×List (ByteArray×List Int)//x.1<=1000/\Df (ByteArray.empty,[]) d e m x.2}) (λx=>⟨[(0,.sr 1000000 Bv 0 l.length),(1,.p T3 (d:Int)),(2,.p T3 (e:Int)),(3,.p T3 (x.1.1:Int)),(4,.fn 44),(10,.p .bool U),(11,.p .bool V),(12,.p (.int .i64) ((e-d:Nat):Int))],[(1000000,.arr 61 Bv x.1.2)]⟩) ?_ (λx=>?_)
 .repeat'(first|exact trivial|apply eS rfl|apply AB|refine rX c ?_ ?_)
  refine rC (λn=>?_) (λn=>?_)
  .have key:=vJ m oa d e oa oa;rw[v]at key;apply eS rfl;refine cP 4 c ?_ ?_
   .trivial
   refine rM c (key) [(1000000,.nm 1000000)] [] ?_ ?_ ?_
   .first|exact eN|refine eM ?_
   .first|exact eN|refine eM ?_
   rintro _ _ ⟨rfl,r,rfl,f⟩;refine⟨[(1000000,.nm 1000000)],.raw (.tuple #[]),[(1000000,.arr 61 Bv r)],rfl,rfl,?_,?_,rfl,rfl,Bq ?_⟩
   .first|exact eN|refine eM ?_
   .first|exact eN|refine eM ?_
   repeat'(first|exact trivial|apply eS rfl|apply AB|refine rX c ?_ ?_)
   .exact CC
   refine⟨⟨(I-1,r),by simp only;omega,f⟩,AC [(1000000,.nm 1000000)] rfl rfl ?_ ?_⟩
   .first|exact eN|refine eM ?_
   simp only;rw[show ((I-1:Nat):Int)=(I:Int)-1 by omega];first|exact eN|refine eM ?_
  repeat'(first|exact trivial|apply eS rfl|apply AB|refine rX c ?_ ?_)
  refine⟨⟨(I,m),ah,Df.refl _ _ m⟩,AC [(1000000,.nm 1000000)] rfl rfl ?_ ?_⟩
  .first|exact eN|refine eM ?_
  first|exact eN|refine eM ?_
 obtain⟨⟨D,j⟩,H,g⟩:=x;simp only at H g ⊢;have y:j.length=l.length:=g.len.trans v;have key:=vI j oa d e aq oa;rw[y]at key;apply eS rfl;refine cP 4 c ?_ ?_
 .trivial
 refine rM c (key) [(1000000,.nm 1000000)] [] ?_ ?_ ?_
 .first|exact eN|refine eM ?_
 .first|exact eN|refine eM ?_
 rintro _ _ ⟨k,hint,rfl,rfl,A,B⟩;refine⟨[(1000000,.nm 1000000)],.tup [.p T3 (k:Int),.p T3 hint],[(1000000,.arr 61 Bv j)],rfl,rfl,?_,?_,rfl,rfl,?_⟩
 .first|exact eN|refine eM ?_
 .first|exact eN|refine eM ?_
 refine rL c ?_ ?_
 .trivial
 refine G8 ?_;refine Mt (ι:={x:Nat×Int×List (ByteArray×List Int)//(d<=x.1/\x.1<e)/\Df (ByteArray.empty,[]) d e m x.2.2}) (λx=>⟨[(0,.sr 1000000 Bv 0 l.length),(1,.p T3 (d:Int)),(2,.p T3 (e:Int)),(3,.p T3 (D:Int)),(4,.fn 44),(10,.p .bool U),(11,.p .bool V),(12,.p (.int .i64) ((e-d:Nat):Int)),(13,.p T3 (x.1.1:Int)),(14,.p T3 x.1.2.1)],[(1000000,.arr 61 Bv x.1.2.2)]⟩) ?_ (λx=>?_)
 .repeat'(first|exact trivial|apply eS rfl|apply AB|refine rX c ?_ ?_)
  refine rC (λn=>?_) (λn=>?_)
  .have key:=vF j oa d e oa oa;rw[y]at key;apply eS rfl;refine cP 4 c ?_ ?_
   .trivial
   refine rM c (key) [(1000000,.nm 1000000)] [] ?_ ?_ ?_
   .first|exact eN|refine eM ?_
   .first|exact eN|refine eM ?_
   rintro _ _ ⟨rfl,r,rfl,f⟩;refine⟨[(1000000,.nm 1000000)],.raw (.tuple #[]),[(1000000,.arr 61 Bv r)],rfl,rfl,?_,?_,rfl,rfl,Bq ?_⟩
   .first|exact eN|refine eM ?_
   .first|exact eN|refine eM ?_
   repeat'(first|exact trivial|apply eS rfl|apply AB|refine rX c ?_ ?_)
   .exact CC
   refine⟨⟨(e-1-(k-d),1,r),by simp only;omega,g.trans f⟩,AC [(1000000,.nm 1000000)] rfl rfl ?_ ?_⟩
   .first|exact eN|refine eM ?_
   simp only;rw[show ((e-1-(k-d):Nat):Int)=(e:Int)-1-((k:Int)-(d:Int)) by omega];first|exact eN|refine eM ?_
  repeat'(first|exact trivial|apply eS rfl|apply AB|refine rX c ?_ ?_)
  refine⟨⟨(k,hint,j),⟨A,B⟩,g⟩,AC [(1000000,.nm 1000000)] rfl rfl ?_ ?_⟩
  .first|exact eN|refine eM ?_
  first|exact eN|refine eM ?_
 clear A B g y key;obtain⟨⟨k,hint,j⟩,⟨A,B⟩,g⟩:=x;simp only at A B g ⊢;have y:j.length=l.length:=g.len.trans v;have ai:=O.perm BK g.perm;have Z:=R.pin g;refine Mt (ι:={x:List (ByteArray×List Int)//Df (ByteArray.empty,[]) d e m x}) (λx=>⟨[(0,.sr 1000000 Bv 0 l.length),(1,.p T3 (d:Int)),(2,.p T3 (e:Int)),(3,.p T3 (D:Int)),(4,.fn 44),(10,.p .bool U),(11,.p .bool V),(12,.p (.int .i64) ((e-d:Nat):Int)),(13,.p T3 (k:Int))],[(1000000,.arr 61 Bv x.1)]⟩) ?_ (λx=>?_)
 .repeat'(first|exact trivial|apply eS rfl|apply AB|refine rX c ?_ ?_)
  refine rC (λn=>?_) (λn=>?_)
  .have key:=vH j oa ai d e oa oa Z;rw[y]at key;apply eS rfl;refine cP 4 c ?_ ?_
   .trivial
   refine rM c (key) [(1000000,.nm 1000000)] [] ?_ ?_ ?_
   .first|exact eN|refine eM ?_
   .first|exact eN|refine eM ?_
   rintro _ _ ⟨w,r,rfl,rfl,f,i⟩;refine⟨[(1000000,.nm 1000000)],.p .bool w,[(1000000,.arr 61 Bv r)],rfl,rfl,?_,?_,rfl,rfl,Bq ?_⟩
   .first|exact eN|refine eM ?_
   .first|exact eN|refine eM ?_
   apply eS rfl;refine rC (λag=>?_) (λag=>?_)
   .repeat'(first|exact trivial|apply eS rfl|apply AB|refine rX c ?_ ?_|refine rC ?_ ?_<;>intro t<;>try(cases t;done))
    have an:=g.trans f;exact fM c [] (.raw (.tuple #[])) rfl ⟨rfl,r,rfl,o.trans (an.mono E F),(u.pin an).done (i ag)⟩
   repeat'(first|exact trivial|apply eS rfl|apply AB|refine rX c ?_ ?_)
   refine⟨⟨r,g.trans f⟩,AC [(1000000,.nm 1000000)] rfl rfl ?_ ?_⟩
   .first|exact eN|refine eM ?_
   first|exact eN|refine eM ?_
  repeat'(first|exact trivial|apply eS rfl|apply AB|refine rX c ?_ ?_)
  refine⟨⟨j,g⟩,AC [(1000000,.nm 1000000)] rfl rfl ?_ ?_⟩
  .first|exact eN|refine eM ?_
  first|exact eN|refine eM ?_
 clear y ai Z g;obtain⟨ap,z⟩:=x;simp only;have al:ap.length=l.length:=z.len.trans v;have aj:=O.perm BK z.perm;have S:=R.pin z;have ae:=u.pin z;repeat'(first|exact trivial|apply eS rfl|apply AB|refine rX c ?_ ?_)
 .dsimp only[Ty.den];exact⟨λ_=>by omega,λ_=>by omega,λ_=>by omega⟩
 refine DK (by simp only[go_sem,Nat.reduceEqDiff,reduceCtorEq,Nat.reduceAdd,Nat.reduceSub,Nat.reduceMul,Nat.reduceLeDiff,Nat.reduceLT,Int.reduceLE,Int.reduceToNat,Int.reduceNeg,↓reduceIte];rfl) ?_ ?_
 .intro M;exfalso;simp only[AT,Do,OF,IF]at M;obtain⟨az,Y⟩:=M;rw[show ((d:Int)-1).toNat=d-1 by omega]at Y;rcases S with h|h
  .omega
  exact Y (h k A B)
 intro M;clear M;have key:=vG ap oa aj d e k A B oa;rw[al]at key;repeat'(first|exact trivial|apply eS rfl|apply AB|refine rX c ?_ ?_)
 refine cP 5 c ?_ ?_
 .trivial
 refine rM c (key) [(1000000,.nm 1000000)] [] ?_ ?_ ?_
 .first|exact eN|refine eM ?_
 .first|exact eN|refine eM ?_
 rintro _ _ ⟨q,w,J,rfl,rfl,Q,G⟩;refine⟨[(1000000,.nm 1000000)],.tup [.p T3 (q:Int),.p .bool w],[(1000000,.arr 61 Bv J)],rfl,rfl,?_,?_,rfl,rfl,?_⟩
 .first|exact eN|refine eM ?_
 .first|exact eN|refine eM ?_
 have ax:=G.l;have bg:=G.r;have P:=o.trans ((z.trans Q).mono E F);have am:=P.len;have ak:=ad.perm BK P.perm;have aa:=S.pin Q;have af:=ae.pin Q;clear z al aj S ae Q key;have X:(((e-d:Nat):Int)).tdiv 8=(((e-d) / 8:Nat):Int):=by
  rw[oF oa];omega
 refine rL c ?_ ?_
 .trivial
 repeat'(first|exact trivial|apply eS rfl|apply AB|refine rX c ?_ ?_)
 .exact CC
 .rw[X];exact⟨by decide,by omega,by omega⟩
 rw[X];refine rC (λn=>?_) (λn=>?_)
 .have key:=W J oa ak d q D oa ax oa H (aa.sub oa);unfold YF at key;rw[am]at key;repeat'(first|exact trivial|apply eS rfl|apply AB|refine rX c ?_ ?_)
  refine cP 5 c ?_ ?_
  .trivial
  refine rM c (key) [(1000000,.nm 1000000)] [] ?_ ?_ ?_
  .first|exact eN|refine eM ?_
  .first|exact eN|refine eM ?_
  rintro _ _ ⟨rfl,r,rfl,f,i⟩;refine⟨[(1000000,.nm 1000000)],.raw (.tuple #[]),[(1000000,.arr 61 Bv r)],rfl,rfl,?_,?_,rfl,rfl,Bq ?_⟩
  .first|exact eN|refine eM ?_
  .first|exact eN|refine eM ?_
  have N:=G.pinL f;have C:Df (ByteArray.empty,[]) d e J r:=f.mono (If _) oa;repeat'(first|exact trivial|apply eS rfl|apply AB|refine rX c ?_ ?_)
  .exact CC
  refine⟨⟨((q+1,e,D),(decide ((((e-d) / 8:Nat):Int)<=(q:Int)-(d:Int)),w),r),(af.pin C).left BK N i,P.trans (C.mono E F),N.bf,H⟩,by simp only;omega,AC [(1000000,.nm 1000000)] rfl rfl ?_ ?_⟩
  .first|exact eN|refine eM ?_
  first|exact eN|refine eM ?_
 have key:=W J oa ak (q+1) e D oa oa oa H G.bf;unfold YF at key;rw[am,show ((q+1:Nat):Int)=(q:Int)+1 by omega]at key;repeat'(first|exact trivial|apply eS rfl|apply AB|refine rX c ?_ ?_)
 refine cP 6 c ?_ ?_
 .exact CC
 refine rM c (key) [(1000000,.nm 1000000)] [] ?_ ?_ ?_
 .first|exact eN|refine eM ?_
 .first|exact eN|refine eM ?_
 rintro _ _ ⟨rfl,r,rfl,f,i⟩;refine⟨[(1000000,.nm 1000000)],.raw (.tuple #[]),[(1000000,.arr 61 Bv r)],rfl,rfl,?_,?_,rfl,rfl,Bq ?_⟩
 .first|exact eN|refine eM ?_
 .first|exact eN|refine eM ?_
 have N:=G.pinR f;have C:Df (ByteArray.empty,[]) d e J r:=f.mono oa (If _);repeat'(first|exact trivial|apply eS rfl|apply AB|refine rX c ?_ ?_)
 refine⟨⟨((d,q,D),(decide ((((e-d) / 8:Nat):Int)<=(e:Int)-(q:Int)),w),r),(af.pin C).right BK N i,P.trans (C.mono E F),(aa.pin C).sub (b':=q) oa,H⟩,by simp only;omega,AC [(1000000,.nm 1000000)] rfl rfl ?_ ?_⟩
 .first|exact eN|refine eM ?_
 first|exact eN|refine eM ?_
theorem vK (l:List (ByteArray×List Int)) (i:l.length<=256) (e:WC BN (ByteArray.empty,[]) l) (a b c:Nat) (f:a<=b) (g:b<=l.length) (j:c<=1000) (d:Bf BN (ByteArray.empty,[]) a b l):YF l a b c:=by
 have key:∀(n:Nat) (l:List (ByteArray×List Int)),l.length<=256->WC BN (ByteArray.empty,[]) l->∀a b c:Nat,b-a<n->a<=b->b<=l.length->c<=1000->Bf BN (ByteArray.empty,[]) a b l->YF l a b c:=by
  intro n;induction n with
  | zero=>intro l _ _ a b c h;omega
  | succ n t =>
   intro l i e a b c w f g j d;exact iX l i e a b c f g j d λl' m o k b' u v p q r s=>t l' m o k b' u oa p q r s
 exact key (b-a+1) l i e a b c oa f g j d
end
section
attribute [local go_sem] SE
def xI (l:List AI) (n:Nat):Prop:=∀a b,a<b->b<n->BN (l.getD a (ByteArray.empty,[])) (l.getD b (ByteArray.empty,[]))<=0
theorem o4 (l:List AI) (j:l.length<=256) (g:WC BN (ByteArray.empty,[]) l):Aj Tryz.prog 43 [.sr 1000000 Bv 0 l.length,.fn 44] [(1000000,.arr 61 Bv l)] [1000000] (λres h=>res=.raw (.tuple #[])/\∃r,h=[(1000000,.arr 61 Bv r)]/\List.Perm r l/\xI r l.length):=by
 refine Er [0,1,4] [] [] Tryz.func43 Tryz.ntmps43 AH ?_;intro w0 K O0 ρ0 c k m;simp only[AX];repeat'(first|exact trivial|apply eS rfl|apply AB|refine rX c ?_ ?_|refine rC ?_ ?_<;>intro d<;>try(cases d;done))
 refine cP 4 c ?_ ?_
 .exact eV
 refine rM c (dI (l.length:Int) oa oa) [] [] ?_ ?_ ?_
 .first|exact eN|refine eM ?_
 .first|exact eN|refine eM ?_
 rintro _ _ ⟨⟨n,rfl,i,-⟩,rfl⟩;refine⟨[],.p T3 (n:Int),[],rfl,rfl,?_,?_,rfl,rfl,?_⟩
 .first|exact eN|refine eM ?_
 .first|exact eN|refine eM ?_
 have key:=vK l oa g 0 l.length n (BY _) (If _) oa (.inl rfl);unfold YF at key;rw[show ((0:Nat):Int)=0 from rfl]at key;refine Pw c 1 (by simp only[go_sem,Nat.reduceEqDiff,reduceCtorEq,Nat.reduceAdd,Nat.reduceSub,Nat.reduceMul,Nat.reduceLeDiff,Nat.reduceLT,Int.reduceLE,Int.reduceToNat,Int.reduceNeg,↓reduceIte];rfl) ?_ ?_
 .trivial
 refine rM c (key) [(1000000,.nm 1000000)] [] ?_ ?_ ?_
 .first|exact eN|refine eM ?_
 .first|exact eN|refine eM ?_
 rintro _ _ ⟨rfl,r,rfl,hp,hs⟩;refine⟨[(1000000,.nm 1000000)],.raw (.tuple #[]),[(1000000,.arr 61 Bv r)],rfl,rfl,?_,?_,rfl,rfl,Bq ?_⟩
 .first|exact eN|refine eM ?_
 .first|exact eN|refine eM ?_
 repeat'(first|exact trivial|apply eS rfl|apply AB|refine rX c ?_ ?_|refine rC ?_ ?_<;>intro d<;>try(cases d;done))
 exact fM c [] (.raw (.tuple #[])) rfl ⟨rfl,r,rfl,hp.perm,λa b e f=>by have:=hs a b (BY _) e f;omega⟩
end
section
attribute [local go_sem] NN
theorem vL (b c:List Int):Aj Tryz.prog 39 [.p BZ c,.bp 1 [] 0] [(1,.box 38 false [.p BZ b])] [1] (λres e=>res=.p .bool (AZ b c)/\e=[(1,.box 38 false [.p BZ b])]):=by
 refine Er [0,1,3] [] [] Tryz.func39 Tryz.ntmps39 (AF OV AH) ?_;intro w0 K O0 ρ0 a f g;simp only[AX];repeat'(first|exact trivial|apply eS rfl|apply AB|refine rX a ?_ ?_|refine rC ?_ ?_<;>intro d<;>try(cases d;done))
 refine Ev.ent (σ':=⟨[(3,.p .bool (AZ b c))],[(1,.box 38 false [.p BZ b])]⟩) ?_ (AC [(1,.nm 1)] rfl rfl ?_ ?_)
 .exact fM a [.tmp 3] (.p .bool (AZ b c)) eT ⟨rfl,rfl⟩
 .first|exact eN|refine eM ?_
 first|exact eN|refine eM ?_
theorem zG (b:List Int) (l:List (List Int)) (o:l.length<=140737488355328):Aj Tryz.prog 38 [.p Pz l,.clo 39 [1]] [(1,.box 38 false [.p BZ b])] [1] (λres m=>res=.p T3 (CR (AZ b) 0 l)/\m=[(1,.box 38 false [.p BZ b])]):=by
 refine Er [0,1,4,5,6,7,8,9,10,16] [] [] Tryz.func38 Tryz.ntmps38 AH ?_;intro w0 K O0 ρ0 c q r;simp only[AX];repeat'(first|exact trivial|apply eS rfl|apply AB|refine rX c ?_ ?_|refine rC ?_ ?_<;>intro a<;>try(cases a;done))
 refine AJ (ι:={k:Nat//k<=l.length/\CR (AZ b) k (l.drop k)=CR (AZ b) 0 l}) (λk=>⟨[(1,.clo 39 [1]),(7,.p Pz l),(8,.p (.int .i64) (l.length:Int)),(9,.p (.int .i64) (k.1:Int))],[(1,.box 38 false [.p BZ b])]⟩) (λk=>l.length-k.1) ⟨0,BY _,rfl⟩ (AC [(1,.nm 1)] rfl rfl ?_ ?_) (λk=>?_)
 .first|exact eN|refine eM ?_
 .first|exact eN|refine eM ?_
 obtain⟨k,n,f⟩:=k;have j:k<l.length->∀d,AZ b (l.getD k [])=d->CR (AZ b) k (l.drop k)=if d=true then (k:Int) else CR (AZ b) (k+1) (l.drop (k+1)):=λh d e=>by rw[<-e];exact Dm (AZ b) [] l h
 simp only;repeat'(first|exact trivial|apply eS rfl|apply AB|refine rX c ?_ ?_|refine rC ?_ ?_<;>intro a<;>try(cases a;done))
 .exact a
 .have g:k<l.length:=An.1 a;refine cP 2 c ?_ ?_
  .trivial
  have key:=vL b (l.getD k []);refine rM c (key) [(1,.nm 1)] [] ?_ ?_ ?_
  .first|exact eN|refine eM ?_
  .first|exact eN|refine eM ?_
  rintro _ _ ⟨rfl,rfl⟩;refine⟨[(1,.nm 1)],.p .bool (AZ b (l.getD k [])),[(1,.box 38 false [.p BZ b])],rfl,rfl,?_,?_,rfl,rfl,Bq ?_⟩
  .first|exact eN|refine eM ?_
  .first|exact eN|refine eM ?_
  generalize s:AZ b (l.getD k [])=d at *;have i:=j g d rfl;repeat'(first|exact trivial|apply eS rfl|apply AB|refine rX c ?_ ?_|refine rC ?_ ?_<;>intro a<;>try(cases a;done))
  .have a:d=true:=a;rw[At a,f]at i;refine Ev.ent (σ':=⟨[(4,.p (.int .i64) (k:Int))],[(1,.box 38 false [.p BZ b])]⟩) ?_ (AC [(1,.nm 1)] rfl rfl ?_ ?_)
   .exact fM c [.tmp 4] (.p T3 (k:Int)) eT ⟨by rw[i],rfl⟩
   .first|exact eN|refine eM ?_
   first|exact eN|refine eM ?_
  .exact eV
  have a:d=false:=a;rw[As (by rw[a];simp)]at i;refine⟨⟨k+1,g,i.symm.trans f⟩,by simp only;omega,AC [(1,.nm 1)] rfl rfl ?_ ?_⟩
  .first|exact eN|refine eM ?_
  first|exact eN|refine eM ?_
 have g:l.drop k=[]:=OR (NO.1 a);rw[g]at f;have f:(-1:Int)=CR (AZ b) 0 l:=f;refine Ev.ent (σ':=⟨[(4,.p (.int .i64) (-1))],[(1,.box 38 false [.p BZ b])]⟩) ?_ (AC [(1,.nm 1)] rfl rfl ?_ ?_)
 .exact fM c [.tmp 4] (.p T3 (-1)) eT ⟨by rw[f],rfl⟩
 .first|exact eN|refine eM ?_
 first|exact eN|refine eM ?_
end
theorem o5 {a b:List Int} (c:Ei a) (d:Ei b):AZ a b=Cc b a:=by
 rw[AAo];unfold AZ Cc;rw[AT,AT,HQ c d,HQ d c,EC c d,EC d c];exact And.comm
theorem Ji {p:Nat->Bool} {n:Nat} (h:∀i,p i=true->i<n):∀k,(List.range (n+k)).filter p=(List.range n).filter p
 | 0=>rfl
 | k+1=>by
  rw[<-ACE,AA0,AAm,Ji h k,AAa,AAC,As (λe=>by have:=h _ e;omega),AAb]
theorem Sm {p:Nat->Bool} {n m:Nat} (b:∀i,p i=true->i<n) (a:∀i,p i=true->i<m):(List.range n).filter p=(List.range m).filter p:=by
 rcases Nat.le_total n m with h|h
 .have:=Ji b (m-n);rw[<-this];congr 2;omega
 have:=Ji a (n-m);rw[<-this];congr 2;omega
def X1 (all:List ByteArray) (b:List Int):List ByteArray:=(B8 b).map λi=>all.getD i.toNat ByteArray.empty
def o6 (d:List AD) (all:List ByteArray) (codes:List (List Int)) (b:List Int):ByteArray :=
 if 0<=CR (AZ b) 0 codes then all.getD (CR (AZ b) 0 codes).toNat ByteArray.empty else H2 (Ag d (X1 all b)) ⟨#[38]⟩
theorem o7 (d:List AD) (all:List ByteArray) (codes:List (List Int)) (b:List Int) (k:∀c∈codes,Ei c) (g:Ei b) (o:codes.length=all.length):∀(m i:Nat) (l:List ByteArray),i+m=all.length ->
  RN d all codes b m i l=if 0<=CR (AZ b) i (codes.drop i) then .inl (all.getD (CR (AZ b) i (codes.drop i)).toNat ByteArray.empty) else .inr (l++((List.range' i m).filter λj:Nat=>Gh b (j:Int)).map λj=>all.getD j ByteArray.empty)
 | 0,i,l,h=>by
  have e:codes.drop i=[]:=OR oa;rw[e];unfold RN;rw[As (by unfold CR;decide)];simp
 | m+1,i,l,h=>by
  have hi:i<codes.length:=by omega
  have n:Ei (codes.getD i []):=k _ (AL hi);unfold RN;rw[Dm (AZ b) [] codes hi,<-o5 g n];by_cases a:AZ b (codes.getD i [])=true
  .rw[At a,At a,At (AAg i),AA4]
  rw[As a,As a,o7 d all codes b k g o m (i+1) _ oa,ACa,AAa];by_cases f:Gh b (i:Int)=true
  .rw[At f,At f,oR,oN];rfl
  rw[As f,As f]
theorem o8 {d:List AD} {all:List ByteArray} {codes:List (List Int)} {b:List Int} (m:∀c∈codes,Ei c) (a:Ei b) (k:codes.length=all.length) (f:∀i:Nat,Gh b (i:Int)=true->i<all.length) (j:∀l,Im l=H2 l ⟨#[38]⟩):o6 d all codes b=CH d all codes b:=by
 unfold o6 CH;rw[o7 d all codes b m a k all.length 0 [] oa,AAz];by_cases h:0<=CR (AZ b) 0 codes
 .rw[At h,At h]
 rw[As h,As h];show H2 (Ag d (X1 all b)) ⟨#[38]⟩=Im _;rw[j]
 congr 2
 unfold X1 B8 Dk;rw[AB8,AAK,<-List.range_eq_range'];have e:(List.range (64*b.length)).filter (λi:Nat=>Gh b (i:Int))=(List.range all.length).filter λi:Nat=>Gh b (i:Int):=by
  refine Sm (λi hi=>?_) f;unfold Gh at hi;split at hi
  .cases hi
  rename_i g;rw[bY,Do,Do,oF oa]at g;omega
 rw[e];rfl
theorem Z3 (sep y:List UInt8) {l:List (List UInt8)} (h:l≠[]):Lib.join (l++[y]) sep=Lib.join l sep++sep++y:=by
 cases l with
 | nil=>exact absurd rfl h
 | cons x r =>
  rw[ABe,Lib.join_cons,Lib.join_cons];unfold Lib.joinTail;simp[oN]
theorem SG (l:List ByteArray):∀n,n<=l.length->(Io l n).data.toList=Lib.join (Cg (l.take n)) [38]
 | 0,_=>by simp[Io,Cg,Lib.join_nil]
 | n+1,h=>by
  rw[JV];unfold RO;have b:=SG l n oa;have a:Cg (l.take (n+1))=Cg (l.take n)++[(l.getD n ByteArray.empty).data.toList]:=by
   unfold Cg;rw[Ai l ByteArray.empty h,AA7];rfl
  rw[a];cases n with
  | zero =>
   rw[As di];simp[Io,Cg,Lib.join_one]
  | succ n =>
   rw[At oa,Z3 _ _ (by
    intro e;have:=p7 List.length e;unfold Cg at this;rw[Of,OS,AB9]at this;omega),<-b]
   simp
theorem QA (l:List ByteArray):Im l=H2 l ⟨#[38]⟩:=by
 have h:=SG l l.length (If _);rw[TO]at h;unfold H2;show Io l l.length=_;have e:(⟨#[38]⟩:ByteArray).data.toList=[38]:=rfl;rw[e,<-h]
theorem V3 {x t:List UInt8} (b:(38:UInt8)∉x) (f:t=[]\/∃r,t=38 :: r):(x++t).takeWhile (·≠38)=x:=by
 induction x with
 | nil =>
  rcases f with rfl|⟨r,rfl⟩
  .rfl
  simp
 | cons a x g =>
  have c:a≠38:=λe=>b (by simp[e]);have d:(38:UInt8)∉x:=λe=>b (by simp[e]);rw[ABe,ACk,At (by simpa using c),g d]
theorem Nb (r:List (List UInt8)):Lib.joinTail [38] r=[]\/∃t,Lib.joinTail [38] r=38 :: t:=by
 cases r with
 | nil=>exact .inl rfl
 | cons x r=>exact .inr ⟨x++Lib.joinTail [38] r,by unfold Lib.joinTail;simp⟩
theorem YG:∀ {r s:List (List UInt8)},(∀x∈r,(38:UInt8)∉x)->(∀x∈s,(38:UInt8)∉x)->Lib.joinTail [38] r=Lib.joinTail [38] s->r=s
 | [],[],_,_,_=>rfl
 | [],y :: s,_,_,h=>by unfold Lib.joinTail at h;simp at h
 | x :: r,[],_,_,h=>by unfold Lib.joinTail at h;simp at h
 | x :: r,y :: s,c,hs,h=>by
  have e:∀(x:List UInt8) r,Lib.joinTail [38] (x :: r)=38 :: (x++Lib.joinTail [38] r):=λx r=>by unfold Lib.joinTail;simp
  rw[e,e]at h;injection h with _ h
  have b:=V3 (c x sa) (Nb r);have d:=V3 (hs y sa) (Nb s);rw[h,d]at b;subst b;rw[YG (λx a=>c x (by simp[a])) (λx a=>hs x (by simp[a])) (List.append_cancel_left h)]
theorem o9 {l m:List (List UInt8)} (e:l≠[]) (f:m≠[]) (b:∀x∈l,(38:UInt8)∉x) (c:∀x∈m,(38:UInt8)∉x) (h:Lib.join l [38]=Lib.join m [38]):l=m:=by
 cases l with
 | nil=>exact absurd rfl e
 | cons x r =>
  cases m with
  | nil=>exact absurd rfl f
  | cons y s =>
   rw[Lib.join_cons,Lib.join_cons]at h;have g1:=V3 (b x sa) (Nb r);have d:=V3 (c y sa) (Nb s);rw[h,d]at g1;subst g1;rw[YG (λz a=>b z (by simp[a])) (λz a=>c z (by simp[a])) (List.append_cancel_left h)]
theorem iY {l m:List ByteArray} (g:l≠[]) (i:m≠[]) (d:∀x∈l,(38:UInt8)∉x.toList) (f:∀x∈m,(38:UInt8)∉x.toList) (h:Im l=Im m):l=m:=by
 rw[QA,QA]at h;unfold H2 at h;injection h with h
 have h:=p7 Array.toList h;simp only at h;have a:∀ {l:List ByteArray},(∀x∈l,(38:UInt8)∉x.toList)->∀x∈Cg l,(38:UInt8)∉x:=λj x c=>by
  unfold Cg at c;obtain⟨y,k,rfl⟩:=To.1 c;have:=j y k
  rwa [ByteArray.toList_eq]at this
 have e:=o9 (l:=Cg l) (m:=Cg m) (by simpa[Cg] using g) (by simpa[Cg] using i) (a d) (a f) h;unfold Cg at e;have hi:∀ {l m:List ByteArray},l.map (λb=>b.data.toList)=m.map (λb=>b.data.toList)->l=m:=by
  intro l;induction l with
  | nil=>intro m h;cases m with
   | nil=>rfl
   | cons y m=>simp at h
  | cons x l n=>intro m h;cases m with
   | nil=>simp at h
   | cons y m =>
    simp only[oR,AAY]at h;rw[n h.2]
    congr 1
    cases x;cases y
    congr 1
    exact ABL.1 h.1
 exact hi e
section
variable {d:List AD}
theorem YH {c:List Int} (f:Ei c) (h:∀i,A0 c i=true->i<10):Kx c:=by
 intro w g;obtain⟨k,l,rfl⟩:=BJ (0:Int) g;have a:=BA f k;refine⟨a.1,?_⟩;have:(c.getD k 0).toNat<2 ^ 10:=Nat.lt_pow_two_of_testBit _ λr m=>by
  by_cases n:r<64
  .cases d:(c.getD k 0).toNat.testBit r with
   | false=>rfl
   | true =>
    have:A0 c (64*k+r)=true:=by
     unfold A0;rw[show (64*k+r) / 64=k by omega,show (64*k+r) % 64=r by omega];exact d
    have:=h _ this;omega
  refine ABV ?_;have j:=a.2;have b:(c.getD k 0).toNat<2 ^ 64:=by
   have:=a.1;have e:(2:Nat) ^ 64=18446744073709551616:=by decide
   omega
  exact AAf b (ACf di oa)
 have e:(2:Nat) ^ 10=1024:=by decide
 have:=a.1;omega
theorem V4 (e:AU d=0):∀b∈AO (AK d),Ei b/\∀i,A0 b i=true->i<(AG d).length:=by
 have a:=Kw e;exact P6 (q:=(AG d).length) (n:=257) (i:=0) (l:=AK d) (λc f=>by
  obtain⟨t,g,rfl⟩:=To.1 f;exact⟨(BQ (d:=d) a t 0).2.1,λi hi=>((BQ (d:=d) a t i).1.1 hi).1⟩)
theorem Ld (e:AU d=0) (g:d.length<=10):∀b∈AO (AK d),Kx b:=λb f=>by
 obtain⟨a,c⟩:=V4 e b f;have:=DU d;exact YH a λi hi=>by have:=c i hi;omega
theorem UL (h:AU d=0) (k:FY (AO (AK d))) {b:List Int} (g:b∈AO (AK d)) {l:List ByteArray} (s:RN d (AG d) (AK d) b (AG d).length 0 []=.inr l):(∀t,t∈l↔∃i,i<(AG d).length/\t=(AG d).getD i ByteArray.empty/\A0 b i=true)/\Xb l/\l≠[]:=by
 obtain⟨x,v,-,q,w⟩:=Ab h;obtain⟨g1,c⟩:=Vh s;rw[AAK]at c;have p:=k.wds b g;have n:∀t,t∈l↔∃i,i<(AG d).length/\t=(AG d).getD i ByteArray.empty/\A0 b i=true:=λt=>by
  rw[c,To];constructor
  .rintro⟨i,hi,rfl⟩;obtain⟨f,a⟩:=tO.1 hi;rw[JZ p]at a;exact⟨i,by simpa using f,rfl,a⟩
  rintro⟨i,f,rfl,a⟩;exact⟨i,tO.2 ⟨by simpa using f,by rw[JZ p];exact a⟩,rfl⟩
 refine⟨n,?_,?_⟩
 .have r:(List.range' 0 (AG d).length).map (λj=>(AG d).getD j ByteArray.empty)=AG d:=by
   apply AAx
   .simp
   intro i y u;simp[AS,u]
  rw[c];have:=MS q;rw[<-r]at this;exact this.sublist (AAT.map _)
 obtain⟨i0,m⟩:=k.some b g;have o:=(n ((AG d).getD i0 ByteArray.empty)).2 ⟨i0,(V4 h b g).2 i0 m,rfl,m⟩;intro e;rw[e]at o;cases o
theorem d4 (c:AU d=0) (k:FY (AO (AK d))) {b:List Int} (e:b∈AO (AK d)) {l:List ByteArray} (o:RN d (AG d) (AK d) b (AG d).length 0 []=.inr l) (i:Nat):A0 b i=true↔i<(AG d).length/\∃m∈Ag d l,Up d m ((AG d).getD i ByteArray.empty):=by
 obtain⟨f,g,-⟩:=UL c k e o;constructor
 .intro hi;have a:=(V4 c b e).2 i hi;exact⟨a,Iu c g ((f _).2 ⟨i,a,rfl,hi⟩) (FZ (AL a))⟩
 rintro⟨a,m,n,p⟩;obtain⟨j,q,rfl,h⟩:=(f m).1 (FW n);exact(nL c b e).2 j i h a p
theorem zH (g:AU d=0) (k:FY (AO (AK d))) {b c:List Int} (a:b∈AO (AK d)) (h:c∈AO (AK d)) (e:CH d (AG d) (AK d) b=CH d (AG d) (AK d) c):b=c:=by
 have v:Nd (AO (AK d)):=NR (Ir g);obtain⟨R,O,-,G,Q⟩:=Ab g;have P:(AK d).length=(AG d).length:=by simp[AK]
 have r:∀ {b c:List Int},b∈AO (AK d)->c∈AO (AK d)->CH d (AG d) (AK d) b=CH d (AG d) (AK d) c->∀u,RN d (AG d) (AK d) b (AG d).length 0 []=.inl u->b=c:=λ{b c} a h e u z=>by
  obtain⟨j,-,p,-,rfl⟩:=Vg z;rw[AAO]at p;have f:CH d (AG d) (AK d) b=(AG d).getD j ByteArray.empty:=by unfold CH;rw[z]
  have C:=OZ g (CE.2 ⟨b,a,rfl⟩) k (AL p) (Bg.2 f);have D:=OZ g (CE.2 ⟨c,h,rfl⟩) k (AL p) (Bg.2 (e.symm.trans f));exact C.trans D.symm
 cases f:RN d (AG d) (AK d) b (AG d).length 0 [] with
 | inl u=>exact r a h e u f
 | inr l =>
  cases n:RN d (AG d) (AK d) c (AG d).length 0 [] with
  | inl u=>exact(r h a e.symm u n).symm
  | inr m =>
   have A:CH d (AG d) (AK d) b=Im (Ag d l):=by unfold CH;rw[f]
   have B:CH d (AG d) (AK d) c=Im (Ag d m):=by unfold CH;rw[n]
   rw[A,B]at e;have w:∀ {b:List Int} {l:List ByteArray},b∈AO (AK d)->RN d (AG d) (AK d) b (AG d).length 0 []=.inr l->Ag d l≠[]/\∀x∈Ag d l,(38:UInt8)∉x.toList:=λ{b l} a f=>by
    obtain⟨s,E,H⟩:=UL g k a f;refine⟨?_,λx J=>?_⟩
    .obtain⟨t,y⟩:=List.exists_mem_of_ne_nil l H;obtain⟨j,o,rfl,-⟩:=(s t).1 y;obtain⟨q,I,-⟩:=Iu g E y (FZ (AL o));exact List.ne_nil_of_mem I
    obtain⟨j,o,rfl,-⟩:=(s x).1 (FW J);exact Rt G (AL o)
   obtain⟨K,L⟩:=w a f;obtain⟨M,N⟩:=w h n;have F:=iY K M L N e;refine MR (k.wds b a) (k.wds c h) (v.nrm b a) (v.nrm c h) λi=>?_;rw[AAo,d4 g k a f,d4 g k h n,F]
end
theorem pA {α:Type} {R:α->α->Prop} (d:∀a,¬R a a) (tr:∀ {a b c},R a b->R b c->R a c):∀ {l m:List α},l.Pairwise R->m.Pairwise R->(∀s,s∈l↔s∈m)->l=m
 | [],[],_,_,_=>rfl
 | [],y :: m,_,_,h=>absurd ((h y).2 sa) sa
 | x :: l,[],_,_,h=>absurd ((h x).1 sa) sa
 | x :: l,y :: m,j,k,h=>by
  have g:=AAl.1 j;have i:=AAl.1 k;have n:x=y:=by
   rcases Is.1 ((h x).1 sa) with e|e
   .exact e
   rcases Is.1 ((h y).2 sa) with f|f
   .exact f.symm
   exact absurd (tr (g.1 y f) (i.1 x e)) (d x)
  subst n
  congr 1
  refine pA d tr g.2 i.2 λs=>?_;constructor
  .intro hs;rcases Is.1 ((h s).1 (by simp[hs])) with e|e
   .subst e;exact absurd (g.1 _ hs) (d _)
   exact e
  intro hs;rcases Is.1 ((h s).2 (by simp[hs])) with e|e
  .subst e;exact absurd (i.1 _ hs) (d _)
  exact e
theorem pB (a:AI):¬BN a a<0:=by
 rw[SD];rintro (h|⟨_,h⟩)
 .omega
 exact Cw h
theorem SH {a b:AI} (c:Kx a.2) (d:Kx b.2):D0 a b=true↔BN a b<0:=by
 rw[SD,P8 c,P8 d];unfold D0;rw[bY,AT,Do,AA9]
theorem UM {a b:AI} (h:BN a b=0):a.1=b.1:=by
 rw[P9]at h;split at h
 .exact iW.1 h
 rename_i c;exact absurd (y4.1 h).symm c
theorem UN {x:AI} {out:List AI} (d:Kx x.2) (c:∀y∈out,Kx y.2):∀n,n<=out.length->DS x out n<=n/\(∀k,DS x out n<=k->k<n->BN x (out.getD k c0)<0)/\(0<DS x out n->¬BN x (out.getD (DS x out n-1) c0)<0)
 | 0,_=>⟨If _,λk b f=>by omega,λh=>by cases h⟩
 | n+1,h=>by
  unfold DS;by_cases a:D0 x (out.getD n c0)=true
  .rw[At a];obtain⟨g1,g,i⟩:=UN d c n oa;refine⟨by omega,λk b f=>?_,i⟩;by_cases j:k<n
   .exact g k b j
   obtain rfl:k=n:=by omega
   exact(SH d (c _ (AL oa))).1 a
  rw[As a];refine⟨If _,λk b f=>by omega,λ_ e=>a ?_⟩;exact(SH d (c _ (AL oa))).2 e
theorem pC {x:AI} {out:List AI} (t:Kx x.2) (s:∀y∈out,Kx y.2) (r:∀y∈out,BN x y≠0) (hs:out.Pairwise λa b=>BN a b<0):(RP out x).Pairwise λa b=>BN a b<0:=by
 obtain⟨g1,i,l⟩:=UN t s out.length (If _);unfold RP;generalize DS x out out.length=p at *;have q:∀k,k<p->BN (out.getD k c0) x<0:=λk g=>by
  have u:=l oa;have v:=r _ (AL (d:=c0) (show p-1<out.length by omega));have h:BN (out.getD (p-1) c0) x<0:=by rw[BK.anti];omega
  by_cases o:k=p-1
  .subst o;exact h
  have e:=(iN.1 hs) k (p-1) oa oa oa;have e:BN (out.getD k c0) (out.getD (p-1) c0)<0:=by
   simpa[AS,show k<out.length by omega,show p-1<out.length by omega] using e
  exact BK.trans e h
 rw[oN,ACg];refine⟨hs.sublist (ACA _ _),?_,λa m b c=>?_⟩
 .refine AAl.2 ⟨λb c=>?_,hs.sublist (List.drop_sublist _ _)⟩;have c:b∈out.drop p:=by simpa using c
  obtain⟨k,g,rfl⟩:=AAN.1 c;rw[AAM]at g;rw[ACB];have:=i (p+k) oa oa;simpa[AS,show p+k<out.length by omega] using this
 obtain⟨k,g,rfl⟩:=AAS.1 m;have f:=q k oa;have f:BN out[k] x<0:=by simpa[AS,show k<out.length by omega] using f
 rcases aT.1 c with c|c
 .rw[nO]at c;subst c;exact f
 obtain⟨j,n,rfl⟩:=AAN.1 c;rw[AAM]at n;rw[ACB];exact(iN.1 hs) k (p+j) oa oa oa
section
variable {d:List AD}
theorem SI:∀(l:List (List Int)) (o:List AI),(∀b∈l,Kx b)->(∀y∈o,Kx y.2)->(o.Pairwise λa b=>BN a b<0)->(∀b∈l,∀y∈o,CH d (AG d) (AK d) b≠y.1)->(l.Pairwise λa b=>CH d (AG d) (AK d) a≠CH d (AG d) (AK d) b)->(l.foldl (MN d) o).Pairwise λa b=>BN a b<0
 | [],_,_,_,hs,_,_=>hs
 | b :: l,o,h,j,hs,i,hp=>by
  have hp:=AAl.1 hp;rw[No];refine SI l _ (λc g=>h c (by simp[g])) (λy f=>?_) ?_ (λc g y f=>?_) hp.2
  .rcases NJ.1 f with rfl|f
   .exact h b sa
   exact j y f
  .exact pC (h b sa) j (λy f e=>i b sa y f (UM e)) hs
  rcases NJ.1 f with rfl|f
  .exact λe=>hp.1 c g e.symm
  exact i c (by simp[g]) y f
def Jj (d:List AD):List AI:=(AO (AK d)).map λb=>(CH d (AG d) (AK d) b,b)
theorem UO (c:AU d=0) (k:(AO (AK d)).length<=256):(AO (AK d)).Pairwise λa b=>CH d (AG d) (AK d) a≠CH d (AG d) (AK d) b:=by
 have g:=HP c k;have l:(AO (AK d)).Nodup:=(NR (Ir c)).nd;rw[iN];intro i j hi f h e;have:=zH c g (ACc hi) (ACc f) e;exact(iN.1 l) i j hi f h this
theorem Z4 (e:AU d=0) (f:d.length<=10) (g:(AO (AK d)).length<=256):(AE d).Pairwise λa b=>BN a b<0 :=
 SI _ [] (Ld e f) (λy c=>by cases c) .nil (λb _ y c=>by cases c) (UO e g)
theorem d5 (c:AU d=0) (f:(AO (AK d)).length<=256):WC BN (ByteArray.empty,[]) (Jj d):=by
 rw[dG BK];unfold Jj;rw[AB3];exact(UO c f).imp λ{a b} h e=>h (UM e)
theorem Z5 (h:AU d=0) (l:d.length<=10) (k:(AO (AK d)).length<=256) {r:List AI} (hp:List.Perm r (Jj d)) (hs:xI r (Jj d).length):r=AE d:=by
 refine pA (R:=λa b=>BN a b<0) pB (λc e=>BK.trans c e) ?_ (Z4 h l k) λy=>?_
 .have m:WC BN (ByteArray.empty,[]) r:=(d5 h k).perm BK hp;rw[iN];intro i j hi f n;have c:=hs i j n (by rw[<-hp.length_eq];exact f);have e:=m i j hi f oa;have c:BN r[i] r[j]<=0:=by simpa[AS,hi,f] using c
  have e:BN r[i] r[j]≠0:=by simpa[AS,hi,f] using e
  omega
 rw[hp.mem_iff,CE];unfold Jj;rw[To];constructor
 .rintro⟨b,g,rfl⟩;exact⟨b,g,rfl⟩
 rintro⟨b,g,rfl⟩;exact⟨b,g,rfl⟩
end
section
attribute [local go_sem] Ht d3 dY Zx oU n8
theorem SJ {d:List AD} (h:AU d=0):C4 d=0:=by
 unfold AU at h;split at h
 .rename_i b;exact absurd h b
 split at h
 .rename_i c;exact absurd h c
 split at h
 .rename_i a;exact absurd h a
 rename_i a;exact IN a
theorem Nc {d:List AD} (a:AU d=0) (c:d.length<=10):(AK d).length<=256/\(AK d).Nodup/\∀x∈AK d,Kx x/\x.length<=64/\x≠[]:=by
 obtain⟨-,e,-⟩:=Ab a;have g:=DU d;have f:AK d <+: AO (AK d):=Kr 257 0 (AK d);refine⟨by rw[MP];omega,(Ir a).nd,λx b=>⟨Ld a c x (f.subset b),JX e x b,?_⟩⟩;obtain⟨i,hi⟩:=(Tn a).some x b;exact yP hi
theorem SK {d:List AD} (k:AU d=0) {b:List Int} (a:∀i:Nat,Gh b (i:Int)=true->i<(AG d).length):(X1 (AG d) b).Nodup:=by
 have hs:=HV d;unfold X1 B8 Dk;rw[AB8,List.Nodup,AB3];refine(ACb.filter _).imp_of_mem λ{i j} hi h g e=>g ?_;have c:=a i (tO.1 hi).2;have f:=a j (tO.1 h).2;have e:(AG d).getD i ByteArray.empty=(AG d).getD j ByteArray.empty:=e;have g1:=SB hs c;rw[e,SB hs f]at g1;exact g1.symm
def Nf:Spec:={ ins:=[Aw],pre:=λ(d,_)=>List.length d<=10,out:=λ(d,_)=>[.p Bi (A6 d).1,.p Es (A6 d).2] }
attribute [local go_sem] Nf
theorem UP:Ap Tryz.prog 19 Nf:=by
 refine fK [0,2,3,4,5,6,7,8,9,11,12,13,14,16,20,33,34,35,36,37,46,53,54,55,56] Tryz.func19 Tryz.ntmps19 (AF uZ (AF vD (AF vC (AF oG (AF vB (AF uV AH)))))) ?_;rintro w0 O0 ⟨d,u⟩ f-o;have o:d.length<=10:=o;simp only[Nf,AP];repeat'(first|exact trivial|apply eS rfl|apply AB|refine rX f ?_ ?_|refine rC ?_ ?_<;>intro a<;>try(cases a;done))
 .have a:AU d≠0:=by simpa using a
  have w:A6 d=([],AU d):=by unfold A6;rw[At a]
  exact fI f [.tmp 2,.tmp 3] (by rw[w];exact eR)
 .have e:AU d=0:=by simpa using a
  obtain⟨-,D,-,A,-⟩:=Ab e;exact⟨A,SJ e,D⟩
 .have e:AU d=0:=by simpa using a
  exact Nc e o
 .rename_i e;have e:AU d=0:=by simpa using e
  have v:256<(AO (AK d)).length:=by simpa using a
  have w:A6 d=([],7):=by unfold A6;rw[As (by rw[e];simp),At v]
  exact fI f [.tmp 2,.tmp 3] (by rw[w];exact eR)
 rename_i e;have e:AU d=0:=by simpa using e
 have v:(AO (AK d)).length<=256:=by simpa using a
 rw[At v];have w:A6 d=(AE d,0):=by unfold A6;rw[As (by rw[e];simp),As oa]
 rw[w];obtain⟨G,D,-,A,-⟩:=Ab e;have N:=HP e v;have V:=Ld e o;have I:=V4 e;have M:∀c∈AK d,Ei c:=λc f=>EY ((Nc e o).2.2 c f).1;have H:(AK d).length=(AG d).length:=MP d;have aa:=DU d;have ad:(Jj d).length=(AO (AK d)).length:=by unfold Jj;rw[Of]
 refine AJ (ι:={k:Nat//k<=(AO (AK d)).length}) (λk=>⟨[(0,.p Aw d),(5,.p Ad (AG d)),(6,.p Pz (AK d)),(9,.sr 75 Bv 0 ((Jj d).take k.1).length),(34,.p Pz (AO (AK d))),(35,.p (.int .i64) ((AO (AK d)).length:Int)),(36,.p (.int .i64) (k.1:Int))],[(75,.arr 61 Bv ((Jj d).take k.1))]⟩) (λk=>(AO (AK d)).length-k.1) ⟨0,BY _⟩ (AC [(75,.nil)] rfl rfl ?_ ?_) (λk=>?_)
 .first|exact eN|refine eM ?_
  try rfl
 .first|exact eN|refine eM ?_
  try rfl
 obtain⟨k,X⟩:=k;have af:((Jj d).take k).length=k:=by rw[OS];omega
 simp only;repeat'(first|exact trivial|apply eS rfl|apply AB|refine rX f ?_ ?_|refine rC ?_ ?_<;>intro a<;>try(cases a;done))
 .exact a
 .have t:k<(AO (AK d)).length:=An.1 (by assumption);have y:=AL (d:=([]:List Int)) t;have B:(Jj d).take (k+1)=(Jj d).take k++[(CH d (AG d) (AK d) ((AO (AK d)).getD k []),(AO (AK d)).getD k [])]:=by
   rw[Ai (Jj d) c0 oa]
   congr 1
   unfold Jj;simp[AS,t]
  generalize (AO (AK d)).getD k []=b at *;have Q:=zG b (AK d) oa;have z:=V b y;have E:∀i:Nat,Gh b (i:Int)=true->i<(AG d).length:=λi hi=>(I b y).2 i (by rw[<-JZ (EY z)];exact hi);have n:=o8 (d:=d) M (EY z) H E QA;unfold o6 at n;have O:=Zn (AZ b) 0 (AK d);refine cP 2 f ?_ ?_
  .trivial
  refine rM f (Q) [(1,.nm 11)] [] ?_ ?_ ?_
  .first|exact eN|refine eM ?_
  .first|exact eN|refine eM ?_
  rintro _ _ ⟨rfl,rfl⟩;refine⟨[(11,.nm 1)],.p T3 (CR (AZ b) 0 (AK d)),[(11,.box 38 false [.p BZ b])],rfl,rfl,?_,?_,rfl,rfl,?_⟩
  .first|exact eN|refine eM ?_
  .first|exact eN|refine eM ?_
  refine rL f trivial ?_;repeat'(first|exact trivial|apply eS rfl|apply AB|refine rX f ?_ ?_|refine rC ?_ ?_<;>intro a<;>try(cases a;done))
  .have l:0<=CR (AZ b) 0 (AK d):=a;refine⟨l,?_⟩;rcases O with g|⟨_,g⟩
   .rw[g]at l;exact absurd l di
   rw[AAO,H]at g;exact g
  .simp only[AN];omega
  .exact eV
  .have l:0<=CR (AZ b) 0 (AK d):=a;rw[At l]at n;refine⟨⟨k+1,t⟩,by simp only;omega,AC [(75,.nm 75)] rfl rfl ?_ ?_⟩
   .simp only;rw[B,<-n];first|exact eN|refine eM ?_
   simp only;rw[B,<-n];first|exact eN|refine eM ?_
  .exact⟨by have:=(N.wid b y);omega,z⟩
  have l:¬0<=CR (AZ b) 0 (AK d):=by
   have:=a;omega
  rw[As l]at n;have F:∀i∈B8 b,0<=i/\i.toNat<(AG d).length:=λi hi=>by
   obtain⟨j,rfl,J⟩:=(Gu (EY z)).1 hi;exact⟨AAg j,by rw[AA4];exact(I b y).2 j J⟩
  have Y:(B8 b).length<=(AG d).length:=by
   have:=Dt (SK e E) (l':=AG d) λx L=>by
    unfold X1 at L;obtain⟨i,hi,rfl⟩:=To.1 L;exact AL (F i hi).2
   unfold X1 at this
   rwa [Of]at this
  have U:=SK e E;have C:X1 (AG d) b=(B8 b).map λi=>(AG d).getD i.toNat ByteArray.empty:=rfl;have ab:∀j,((B8 b).take j).map (λi=>(AG d).getD i.toNat ByteArray.empty)=(X1 (AG d) b).take j:=λj=>by rw[C,List.map_take]
  have ae:(X1 (AG d) b).length=(B8 b).length:=by rw[C,Of]
  refine AJ (ι:={j:Nat//j<=(B8 b).length}) (λj=>⟨[(0,.p Aw d),(5,.p Ad (AG d)),(6,.p Pz (AK d)),(9,.sr 75 Bv 0 ((Jj d).take k).length),(34,.p Pz (AO (AK d))),(35,.p (.int .i64) ((AO (AK d)).length:Int)),(36,.p (.int .i64) (k:Int)),(12,.bp 12 [] 0),(14,.sr 65 .str 0 ((X1 (AG d) b).take j.1).length),(53,.p Dj (B8 b)),(54,.p (.int .i64) ((B8 b).length:Int)),(55,.p (.int .i64) (j.1:Int))],[(75,.arr 61 Bv ((Jj d).take k)),(12,.box 61 true [.p .str ByteArray.empty,.p BZ b]),(65,.arr 9 .str ((X1 (AG d) b).take j.1))]⟩) (λj=>(B8 b).length-j.1) ⟨0,BY _⟩ (AC [(75,.nm 75),(12,.nm 12),(65,.nil)] rfl rfl ?_ ?_) (λj=>?_)
  .first|exact eN|refine eM ?_
   try rfl
  .first|exact eN|refine eM ?_
   try rfl
  obtain⟨j,J⟩:=j;have W:((X1 (AG d) b).take j).length=j:=by rw[OS];omega
  have K:∀h:j<(B8 b).length,(X1 (AG d) b).take (j+1)=(X1 (AG d) b).take j++[(AG d).getD ((B8 b).getD j 0).toNat ByteArray.empty]:=λh=>by
   rw[Ai _ ByteArray.empty oa]
   congr 1
   rw[C];simp[AS,h]
  simp only;repeat'(first|exact trivial|apply eS rfl|apply AB|refine rX f ?_ ?_|refine rC ?_ ?_<;>intro a<;>try(cases a;done))
  .exact a
  .have m:j<(B8 b).length:=An.1 a;have g:=F _ (AL (d:=(0:Int)) m);refine⟨⟨g.1,(ACu g.1).1 g.2⟩,?_⟩;simp only[AN];omega
  .exact eV
  .have m:j<(B8 b).length:=An.1 (by assumption);refine⟨⟨j+1,m⟩,by simp only;omega,AC [(75,.nm 75),(12,.nm 12),(65,.nm 65)] rfl rfl ?_ ?_⟩
   .simp only;rw[K m];first|exact eN|refine eM ?_
   simp only;rw[K m];first|exact eN|refine eM ?_
  have m:(X1 (AG d) b).take j=X1 (AG d) b:=By (by have:=NO.1 a;omega);rw[m];refine DH [65] ?_;refine F7 [0,5,6,9,12,34,35,36] f rfl (by simp only[go_sem,Nat.reduceEqDiff,reduceCtorEq,Nat.reduceAdd,Nat.reduceSub,Nat.reduceMul,Nat.reduceLeDiff,Nat.reduceLT,Int.reduceLE,Int.reduceToNat,Int.reduceNeg,↓reduceIte,ByteArray.size,AAD,AN];rfl) ?_ ?_
  .refine⟨⟨A,G,D,by omega,U⟩,?_⟩;have P:(Im (Ag d (X1 (AG d) b))).size<=33*(Ag d (X1 (AG d) b)).length:=MM (λs hs=>by
    have g:=FW hs;rw[C]at g;obtain⟨q,R,rfl⟩:=To.1 g;exact PN A _ (AL (F q R).2)) _
   rw[QA]at P;have Z:=NH d (X1 (AG d) b);show (H2 (Ag d (X1 (AG d) b)) ⟨#[38]⟩).size<=140737488355328;omega
  repeat'(first|exact trivial|apply eS rfl|apply AB|refine rX f ?_ ?_|refine rC ?_ ?_<;>intro a<;>try(cases a;done))
  .simp only[AN];omega
  .exact eV
  refine⟨⟨k+1,t⟩,by simp only;omega,AC [(75,.nm 75)] rfl rfl ?_ ?_⟩
  .simp only;rw[B,<-n];first|exact eN|refine eM ?_
  simp only;rw[B,<-n];first|exact eN|refine eM ?_
 have t:(Jj d).take k=Jj d:=By oa;rw[t];have G:=o4 (Jj d) oa (d5 e v);refine cP 1 f ?_ ?_
 .trivial
 refine rM f (G) [(1000000,.nm 75)] [] ?_ ?_ ?_
 .first|exact eN|refine eM ?_
 .first|exact eN|refine eM ?_
 rintro _ _ ⟨rfl,r,rfl,hp,hs⟩;have S:=Z5 e o v hp hs;subst S;have T:=hp.length_eq;refine⟨[(75,.nm 1000000)],.raw (.tuple #[]),[(75,.arr 61 Bv (AE d))],rfl,rfl,?_,?_,rfl,rfl,?_⟩
 .first|exact eN|refine eM ?_
 .first|exact eN|refine eM ?_
 refine rL f trivial ?_;rw[<-T];refine DH [75] ?_;repeat'(first|exact trivial|apply eS rfl|apply AB|refine rX f ?_ ?_|refine rC ?_ ?_<;>intro a<;>try(cases a;done))
 refine Ev.ent (σ':=⟨[(2,.p Bi (AE d)),(3,.p (.int .i64) 0)],[]⟩) ?_ (AC [] rfl rfl ?_ ?_)
 .exact fI f [.tmp 2,.tmp 3]
 .first|exact eN|refine eM ?_
 first|exact eN|refine eM ?_
end
end Go.Proofs.YtaoonfcjbmcmpaaGreatDoor.Fw

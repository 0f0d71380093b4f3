/- What the statement RuleTyped asks of the program's text, shown by the kernel. -/
import Derived.Test.YtapkhdkbkodbjaaGreatXSRT2d
import Derived.Test.YtapkhdkbkodbjaaGreatRows
import Derived.ProofKit
set_option linter.unusedVariables false
set_option linter.unusedSimpArgs false
namespace Go.Proofs.YtapkhdkbkodbjaaGreat
open Go Go.RowKit
theorem ZE:(Rows.ruleTypedRow.wf (OpenSpec.ofChange Rows.ruleTypedSpec))=true:=by kernel_rfl
theorem ZF:(laidOutB Tryz.pinned.checked.prog)=true:=by kernel_rfl
theorem ZG:(mapsRowed Tryz.pinned.checked.prog)=true:=by kernel_rfl
theorem ZH:(Tryz.f8.params.all (Tryz.pinned.checked.prog.readableRec ·))=true:=by kernel_rfl
theorem ZI:(namedTie Tryz.pinned.checked.prog Rows.ruleTypedRow.named Rows.ruleTypedSpec.vars)=true:=by kernel_rfl
theorem ZJ:(Rows.ruleTypedRow.stops == [])=true:=by kernel_rfl
theorem ZK:(Rows.ruleTypedRow.knobs == [])=true:=by kernel_rfl
theorem ZL:(Tryz.pinned.checked.prog.stopKnobs == [])=true:=by kernel_rfl
theorem ZM:(Rows.ruleTypedRow.inPlace==Tryz.pinned.checked.prog.inPlace 8)=true:=by kernel_rfl
theorem VL:(Rows.ruleTypedRow.unfollowed==Tryz.pinned.checked.prog.unfollowed 8)=true:=by kernel_rfl
theorem VM:(Rows.ruleTypedRow.recurses==Tryz.pinned.checked.prog.recurses 8)=true:=by kernel_rfl
theorem VN:(Rows.ruleTypedRow.named==Tryz.pinned.checked.prog.varsNamed 8)=true:=by kernel_rfl
theorem VO:(Rows.ruleTypedRow.maps==(Tryz.f8.params.toList++Rows.ruleTypedSpec.plain.varTypes Tryz.pinned.checked.prog).any (Tryz.pinned.checked.prog.mapsRec ·))=true:=by kernel_rfl
theorem VP:(Rows.ruleTypedRow.ifaces==(Tryz.f8.params.toList++Rows.ruleTypedSpec.plain.varTypes Tryz.pinned.checked.prog).any (Tryz.pinned.checked.prog.ifacesRec ·))=true:=by kernel_rfl
theorem VQ:(Rows.ruleTypedRow.mapsOut==Tryz.pinned.checked.prog.mapsAmong Tryz.f8.resultTypes.toList)=true:=by kernel_rfl
theorem VR:(Rows.ruleTypedRow.loops==(Tryz.f8.params.toList++Rows.ruleTypedSpec.plain.varTypes Tryz.pinned.checked.prog).any (Tryz.pinned.checked.prog.loopsFrom ·))=true:=by kernel_rfl
theorem VS:(Rows.ruleTypedRow.wideKeys==(Tryz.f8.params.toList++Rows.ruleTypedSpec.plain.varTypes Tryz.pinned.checked.prog++Tryz.f8.resultTypes.toList).any (Tryz.pinned.checked.prog.wideKeysFrom ·))=true:=by kernel_rfl
theorem VT:(Rows.ruleTypedSpec.vars.all (Tryz.pinned.checked.prog.varReadable ·))=true:=by kernel_rfl
theorem VU:(Tryz.f8.resultTypes.all (fun t=>Tryz.pinned.checked.prog.readableRec t&&decide (t<Tryz.pinned.checked.prog.types.size)))=true:=by kernel_rfl
theorem VV:(Rows.ruleTypedRow.ifacesOut==Tryz.f8.resultTypes.toList.any (Tryz.pinned.checked.prog.ifacesRec ·))=true:=by kernel_rfl
theorem VW:(Rows.ruleTypedRow.loopsOut==Tryz.f8.resultTypes.toList.any (Tryz.pinned.checked.prog.loopsFrom ·))=true:=by kernel_rfl
theorem VX:(Rows.ruleTypedRow.plainKeys==Tryz.pinned.checked.prog.plainKeys)=true:=by kernel_rfl
theorem VY:(Rows.ruleTypedRow.shortTexts.isNone)=true:=by kernel_rfl
theorem VZ:(Rows.ruleTypedRow.kinds==(if Rows.ruleTypedRow.domain.isEmpty then [] else Tryz.f8.params.toList.map fun t=>match Tryz.pinned.checked.prog.underlying t with|some (.int k)=>some k|_=>none))=true:=by kernel_rfl
theorem Va:(Rows.ruleTypedRow.pinned==Rows.ruleTypedRow.pinnedBy)=true:=by kernel_rfl
theorem Vb:(Rows.ruleTypedRow.veiled==(Tryz.f8.params.toList++Rows.ruleTypedSpec.plain.varTypes Tryz.pinned.checked.prog++Tryz.f8.resultTypes.toList).any (Tryz.pinned.checked.prog.veiledRec ·))=true:=by kernel_rfl
theorem Vc:(Rows.ruleTypedRow.veiledFits Tryz.pinned.checked.prog Tryz.f8.params.toList (Tryz.f8.params.toList++Rows.ruleTypedSpec.plain.varTypes Tryz.pinned.checked.prog++Tryz.f8.resultTypes.toList))=true:=by kernel_rfl
set_option maxRecDepth 100000
theorem B0 {a b:Bool} (ha:a=true) (hb:b=true):(a&&b)=true:=by rw[ha,hb];rfl
theorem Vd:joinedFacts Tryz.pinned.checked.prog 8 Tryz.f8 Rows.ruleTypedSpec Rows.ruleTypedRow=true :=
 B0 (B0 (B0 (B0 (B0 (B0 (B0 (B0 (B0 (B0 (B0 (B0 (B0 (B0 (B0 (B0 (B0 (B0 (B0 (B0 (B0 (B0 (B0 (B0 (B0 (B0 (B0 (B0 (B0 (B0 (B0 (ZE) ZF) ZG) ZH) ZI) ZJ) ZD) ZK) ZL) ZM) VL) VM) VN) VO) VP) VQ) VR) VS) VT) VU) VV) VW) VX) VY) VH) VI) VJ) VK) VZ) Va) Vb) Vc
end Go.Proofs.YtapkhdkbkodbjaaGreat

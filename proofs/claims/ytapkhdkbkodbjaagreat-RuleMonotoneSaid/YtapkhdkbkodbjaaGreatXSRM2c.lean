/- What the statement RuleMonotone asks of the program's text, shown by the kernel. -/
import Derived.Test.YtapkhdkbkodbjaaGreatXSRM2d
import Derived.Test.YtapkhdkbkodbjaaGreatRows
import Derived.ProofKit
set_option linter.unusedVariables false
set_option linter.unusedSimpArgs false
namespace Go.Proofs.YtapkhdkbkodbjaaGreat
open Go Go.RowKit
theorem SG:(Rows.ruleMonotoneRow.wf (OpenSpec.ofChange Rows.ruleMonotoneSpec))=true:=by kernel_rfl
theorem SH:(laidOutB Tryz.pinned.checked.prog)=true:=by kernel_rfl
theorem SI:(mapsRowed Tryz.pinned.checked.prog)=true:=by kernel_rfl
theorem SJ:(Tryz.f7.params.all (Tryz.pinned.checked.prog.readableRec ·))=true:=by kernel_rfl
theorem SK:(namedTie Tryz.pinned.checked.prog Rows.ruleMonotoneRow.named Rows.ruleMonotoneSpec.vars)=true:=by kernel_rfl
theorem SL:(Rows.ruleMonotoneRow.stops == [])=true:=by kernel_rfl
theorem SM:(Rows.ruleMonotoneRow.knobs == [])=true:=by kernel_rfl
theorem SP:(Tryz.pinned.checked.prog.stopKnobs == [])=true:=by kernel_rfl
theorem SQ:(Rows.ruleMonotoneRow.inPlace==Tryz.pinned.checked.prog.inPlace 7)=true:=by kernel_rfl
theorem P6:(Rows.ruleMonotoneRow.unfollowed==Tryz.pinned.checked.prog.unfollowed 7)=true:=by kernel_rfl
theorem QA:(Rows.ruleMonotoneRow.recurses==Tryz.pinned.checked.prog.recurses 7)=true:=by kernel_rfl
theorem QB:(Rows.ruleMonotoneRow.named==Tryz.pinned.checked.prog.varsNamed 7)=true:=by kernel_rfl
theorem QC:(Rows.ruleMonotoneRow.maps==(Tryz.f7.params.toList++Rows.ruleMonotoneSpec.plain.varTypes Tryz.pinned.checked.prog).any (Tryz.pinned.checked.prog.mapsRec ·))=true:=by kernel_rfl
theorem QD:(Rows.ruleMonotoneRow.ifaces==(Tryz.f7.params.toList++Rows.ruleMonotoneSpec.plain.varTypes Tryz.pinned.checked.prog).any (Tryz.pinned.checked.prog.ifacesRec ·))=true:=by kernel_rfl
theorem QE:(Rows.ruleMonotoneRow.mapsOut==Tryz.pinned.checked.prog.mapsAmong Tryz.f7.resultTypes.toList)=true:=by kernel_rfl
theorem QF:(Rows.ruleMonotoneRow.loops==(Tryz.f7.params.toList++Rows.ruleMonotoneSpec.plain.varTypes Tryz.pinned.checked.prog).any (Tryz.pinned.checked.prog.loopsFrom ·))=true:=by kernel_rfl
theorem QG:(Rows.ruleMonotoneRow.wideKeys==(Tryz.f7.params.toList++Rows.ruleMonotoneSpec.plain.varTypes Tryz.pinned.checked.prog++Tryz.f7.resultTypes.toList).any (Tryz.pinned.checked.prog.wideKeysFrom ·))=true:=by kernel_rfl
theorem QH:(Rows.ruleMonotoneSpec.vars.all (Tryz.pinned.checked.prog.varReadable ·))=true:=by kernel_rfl
theorem QI:(Tryz.f7.resultTypes.all (fun t=>Tryz.pinned.checked.prog.readableRec t&&decide (t<Tryz.pinned.checked.prog.types.size)))=true:=by kernel_rfl
theorem QJ:(Rows.ruleMonotoneRow.ifacesOut==Tryz.f7.resultTypes.toList.any (Tryz.pinned.checked.prog.ifacesRec ·))=true:=by kernel_rfl
theorem QK:(Rows.ruleMonotoneRow.loopsOut==Tryz.f7.resultTypes.toList.any (Tryz.pinned.checked.prog.loopsFrom ·))=true:=by kernel_rfl
theorem QL:(Rows.ruleMonotoneRow.plainKeys==Tryz.pinned.checked.prog.plainKeys)=true:=by kernel_rfl
theorem QM:(Rows.ruleMonotoneRow.shortTexts.isNone)=true:=by kernel_rfl
theorem QN:(Rows.ruleMonotoneRow.kinds==(if Rows.ruleMonotoneRow.domain.isEmpty then [] else Tryz.f7.params.toList.map fun t=>match Tryz.pinned.checked.prog.underlying t with|some (.int k)=>some k|_=>none))=true:=by kernel_rfl
theorem QO:(Rows.ruleMonotoneRow.pinned==Rows.ruleMonotoneRow.pinnedBy)=true:=by kernel_rfl
theorem QP:(Rows.ruleMonotoneRow.veiled==(Tryz.f7.params.toList++Rows.ruleMonotoneSpec.plain.varTypes Tryz.pinned.checked.prog++Tryz.f7.resultTypes.toList).any (Tryz.pinned.checked.prog.veiledRec ·))=true:=by kernel_rfl
theorem QQ:(Rows.ruleMonotoneRow.veiledFits Tryz.pinned.checked.prog Tryz.f7.params.toList (Tryz.f7.params.toList++Rows.ruleMonotoneSpec.plain.varTypes Tryz.pinned.checked.prog++Tryz.f7.resultTypes.toList))=true:=by kernel_rfl
set_option maxRecDepth 100000
theorem B0 {a b:Bool} (ha:a=true) (hb:b=true):(a&&b)=true:=by rw[ha,hb];rfl
theorem QR:joinedFacts Tryz.pinned.checked.prog 7 Tryz.f7 Rows.ruleMonotoneSpec Rows.ruleMonotoneRow=true :=
 B0 (B0 (B0 (B0 (B0 (B0 (B0 (B0 (B0 (B0 (B0 (B0 (B0 (B0 (B0 (B0 (B0 (B0 (B0 (B0 (B0 (B0 (B0 (B0 (B0 (B0 (B0 (B0 (B0 (B0 (B0 (SG) SH) SI) SJ) SK) SL) SF) SM) SP) SQ) P6) QA) QB) QC) QD) QE) QF) QG) QH) QI) QJ) QK) QL) QM) Px) Py) Pz) P0) QN) QO) QP) QQ
end Go.Proofs.YtapkhdkbkodbjaaGreat

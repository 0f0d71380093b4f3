/- What the statement RuleParts asks of the program's text, shown by the kernel. -/
import Derived.Test.YtapkhdkbkodbjaaGreatXSRP2d
import Derived.Test.YtapkhdkbkodbjaaGreatRows
import Derived.ProofKit
set_option linter.unusedVariables false
set_option linter.unusedSimpArgs false
namespace Go.Proofs.YtapkhdkbkodbjaaGreat
open Go Go.RowKit
theorem YC:(Rows.rulePartsRow.wf (OpenSpec.ofChange Rows.rulePartsSpec))=true:=by kernel_rfl
theorem YD:(laidOutB Tryz.pinned.checked.prog)=true:=by kernel_rfl
theorem YE:(mapsRowed Tryz.pinned.checked.prog)=true:=by kernel_rfl
theorem YF:(Tryz.f6.params.all (Tryz.pinned.checked.prog.readableRec ·))=true:=by kernel_rfl
theorem YG:(namedTie Tryz.pinned.checked.prog Rows.rulePartsRow.named Rows.rulePartsSpec.vars)=true:=by kernel_rfl
theorem YH:(Rows.rulePartsRow.stops == [])=true:=by kernel_rfl
theorem YI:(Rows.rulePartsRow.knobs == [])=true:=by kernel_rfl
theorem YJ:(Tryz.pinned.checked.prog.stopKnobs == [])=true:=by kernel_rfl
theorem YK:(Rows.rulePartsRow.inPlace==Tryz.pinned.checked.prog.inPlace 6)=true:=by kernel_rfl
theorem UE:(Rows.rulePartsRow.unfollowed==Tryz.pinned.checked.prog.unfollowed 6)=true:=by kernel_rfl
theorem UF:(Rows.rulePartsRow.recurses==Tryz.pinned.checked.prog.recurses 6)=true:=by kernel_rfl
theorem UG:(Rows.rulePartsRow.named==Tryz.pinned.checked.prog.varsNamed 6)=true:=by kernel_rfl
theorem UH:(Rows.rulePartsRow.maps==(Tryz.f6.params.toList++Rows.rulePartsSpec.plain.varTypes Tryz.pinned.checked.prog).any (Tryz.pinned.checked.prog.mapsRec ·))=true:=by kernel_rfl
theorem UI:(Rows.rulePartsRow.ifaces==(Tryz.f6.params.toList++Rows.rulePartsSpec.plain.varTypes Tryz.pinned.checked.prog).any (Tryz.pinned.checked.prog.ifacesRec ·))=true:=by kernel_rfl
theorem UJ:(Rows.rulePartsRow.mapsOut==Tryz.pinned.checked.prog.mapsAmong Tryz.f6.resultTypes.toList)=true:=by kernel_rfl
theorem UK:(Rows.rulePartsRow.loops==(Tryz.f6.params.toList++Rows.rulePartsSpec.plain.varTypes Tryz.pinned.checked.prog).any (Tryz.pinned.checked.prog.loopsFrom ·))=true:=by kernel_rfl
theorem UL:(Rows.rulePartsRow.wideKeys==(Tryz.f6.params.toList++Rows.rulePartsSpec.plain.varTypes Tryz.pinned.checked.prog++Tryz.f6.resultTypes.toList).any (Tryz.pinned.checked.prog.wideKeysFrom ·))=true:=by kernel_rfl
theorem UM:(Rows.rulePartsSpec.vars.all (Tryz.pinned.checked.prog.varReadable ·))=true:=by kernel_rfl
theorem UN:(Tryz.f6.resultTypes.all (fun t=>Tryz.pinned.checked.prog.readableRec t&&decide (t<Tryz.pinned.checked.prog.types.size)))=true:=by kernel_rfl
theorem UO:(Rows.rulePartsRow.ifacesOut==Tryz.f6.resultTypes.toList.any (Tryz.pinned.checked.prog.ifacesRec ·))=true:=by kernel_rfl
theorem UP:(Rows.rulePartsRow.loopsOut==Tryz.f6.resultTypes.toList.any (Tryz.pinned.checked.prog.loopsFrom ·))=true:=by kernel_rfl
theorem UQ:(Rows.rulePartsRow.plainKeys==Tryz.pinned.checked.prog.plainKeys)=true:=by kernel_rfl
theorem UR:(Rows.rulePartsRow.shortTexts.isNone)=true:=by kernel_rfl
theorem US:(Rows.rulePartsRow.kinds==(if Rows.rulePartsRow.domain.isEmpty then [] else Tryz.f6.params.toList.map fun t=>match Tryz.pinned.checked.prog.underlying t with|some (.int k)=>some k|_=>none))=true:=by kernel_rfl
theorem UT:(Rows.rulePartsRow.pinned==Rows.rulePartsRow.pinnedBy)=true:=by kernel_rfl
theorem UU:(Rows.rulePartsRow.veiled==(Tryz.f6.params.toList++Rows.rulePartsSpec.plain.varTypes Tryz.pinned.checked.prog++Tryz.f6.resultTypes.toList).any (Tryz.pinned.checked.prog.veiledRec ·))=true:=by kernel_rfl
theorem UV:(Rows.rulePartsRow.veiledFits Tryz.pinned.checked.prog Tryz.f6.params.toList (Tryz.f6.params.toList++Rows.rulePartsSpec.plain.varTypes Tryz.pinned.checked.prog++Tryz.f6.resultTypes.toList))=true:=by kernel_rfl
set_option maxRecDepth 100000
theorem Fe {a b:Bool} (ha:a=true) (hb:b=true):(a&&b)=true:=by rw[ha,hb];rfl
theorem UW:joinedFacts Tryz.pinned.checked.prog 6 Tryz.f6 Rows.rulePartsSpec Rows.rulePartsRow=true :=
 Fe (Fe (Fe (Fe (Fe (Fe (Fe (Fe (Fe (Fe (Fe (Fe (Fe (Fe (Fe (Fe (Fe (Fe (Fe (Fe (Fe (Fe (Fe (Fe (Fe (Fe (Fe (Fe (Fe (Fe (Fe (YC) YD) YE) YF) YG) YH) YB) YI) YJ) YK) UE) UF) UG) UH) UI) UJ) UK) UL) UM) UN) UO) UP) UQ) UR) UA) UB) UC) UD) US) UT) UU) UV
end Go.Proofs.YtapkhdkbkodbjaaGreat

/- What the statement RuleNeutral asks of the program's text, shown by the kernel. -/
import Derived.Test.YtapkhdkbkodbjaaGreatXSRN2d
import Derived.Test.YtapkhdkbkodbjaaGreatRows
import Derived.ProofKit
set_option linter.unusedVariables false
set_option linter.unusedSimpArgs false
namespace Go.Proofs.YtapkhdkbkodbjaaGreat
open Go Go.RowKit
theorem S9:(Rows.ruleNeutralRow.wf (OpenSpec.ofChange Rows.ruleNeutralSpec))=true:=by kernel_rfl
theorem TA:(laidOutB Tryz.pinned.checked.prog)=true:=by kernel_rfl
theorem TB:(mapsRowed Tryz.pinned.checked.prog)=true:=by kernel_rfl
theorem TC:(Tryz.f5.params.all (Tryz.pinned.checked.prog.readableRec ·))=true:=by kernel_rfl
theorem TD:(namedTie Tryz.pinned.checked.prog Rows.ruleNeutralRow.named Rows.ruleNeutralSpec.vars)=true:=by kernel_rfl
theorem TE:(Rows.ruleNeutralRow.stops == [])=true:=by kernel_rfl
theorem TF:(Rows.ruleNeutralRow.knobs == [])=true:=by kernel_rfl
theorem TG:(Tryz.pinned.checked.prog.stopKnobs == [])=true:=by kernel_rfl
theorem TH:(Rows.ruleNeutralRow.inPlace==Tryz.pinned.checked.prog.inPlace 5)=true:=by kernel_rfl
theorem Ra:(Rows.ruleNeutralRow.unfollowed==Tryz.pinned.checked.prog.unfollowed 5)=true:=by kernel_rfl
theorem Rb:(Rows.ruleNeutralRow.recurses==Tryz.pinned.checked.prog.recurses 5)=true:=by kernel_rfl
theorem Rc:(Rows.ruleNeutralRow.named==Tryz.pinned.checked.prog.varsNamed 5)=true:=by kernel_rfl
theorem Rd:(Rows.ruleNeutralRow.maps==(Tryz.f5.params.toList++Rows.ruleNeutralSpec.plain.varTypes Tryz.pinned.checked.prog).any (Tryz.pinned.checked.prog.mapsRec ·))=true:=by kernel_rfl
theorem Re:(Rows.ruleNeutralRow.ifaces==(Tryz.f5.params.toList++Rows.ruleNeutralSpec.plain.varTypes Tryz.pinned.checked.prog).any (Tryz.pinned.checked.prog.ifacesRec ·))=true:=by kernel_rfl
theorem Rf:(Rows.ruleNeutralRow.mapsOut==Tryz.pinned.checked.prog.mapsAmong Tryz.f5.resultTypes.toList)=true:=by kernel_rfl
theorem Rg:(Rows.ruleNeutralRow.loops==(Tryz.f5.params.toList++Rows.ruleNeutralSpec.plain.varTypes Tryz.pinned.checked.prog).any (Tryz.pinned.checked.prog.loopsFrom ·))=true:=by kernel_rfl
theorem Rh:(Rows.ruleNeutralRow.wideKeys==(Tryz.f5.params.toList++Rows.ruleNeutralSpec.plain.varTypes Tryz.pinned.checked.prog++Tryz.f5.resultTypes.toList).any (Tryz.pinned.checked.prog.wideKeysFrom ·))=true:=by kernel_rfl
theorem Ri:(Rows.ruleNeutralSpec.vars.all (Tryz.pinned.checked.prog.varReadable ·))=true:=by kernel_rfl
theorem Rj:(Tryz.f5.resultTypes.all (fun t=>Tryz.pinned.checked.prog.readableRec t&&decide (t<Tryz.pinned.checked.prog.types.size)))=true:=by kernel_rfl
theorem Rk:(Rows.ruleNeutralRow.ifacesOut==Tryz.f5.resultTypes.toList.any (Tryz.pinned.checked.prog.ifacesRec ·))=true:=by kernel_rfl
theorem Rl:(Rows.ruleNeutralRow.loopsOut==Tryz.f5.resultTypes.toList.any (Tryz.pinned.checked.prog.loopsFrom ·))=true:=by kernel_rfl
theorem Rm:(Rows.ruleNeutralRow.plainKeys==Tryz.pinned.checked.prog.plainKeys)=true:=by kernel_rfl
theorem Rn:(Rows.ruleNeutralRow.shortTexts.isNone)=true:=by kernel_rfl
theorem Ro:(Rows.ruleNeutralRow.kinds==(if Rows.ruleNeutralRow.domain.isEmpty then [] else Tryz.f5.params.toList.map fun t=>match Tryz.pinned.checked.prog.underlying t with|some (.int k)=>some k|_=>none))=true:=by kernel_rfl
theorem Rp:(Rows.ruleNeutralRow.pinned==Rows.ruleNeutralRow.pinnedBy)=true:=by kernel_rfl
theorem Rq:(Rows.ruleNeutralRow.veiled==(Tryz.f5.params.toList++Rows.ruleNeutralSpec.plain.varTypes Tryz.pinned.checked.prog++Tryz.f5.resultTypes.toList).any (Tryz.pinned.checked.prog.veiledRec ·))=true:=by kernel_rfl
theorem Rr:(Rows.ruleNeutralRow.veiledFits Tryz.pinned.checked.prog Tryz.f5.params.toList (Tryz.f5.params.toList++Rows.ruleNeutralSpec.plain.varTypes Tryz.pinned.checked.prog++Tryz.f5.resultTypes.toList))=true:=by kernel_rfl
set_option maxRecDepth 100000
theorem Ff {a b:Bool} (ha:a=true) (hb:b=true):(a&&b)=true:=by rw[ha,hb];rfl
theorem Rs:joinedFacts Tryz.pinned.checked.prog 5 Tryz.f5 Rows.ruleNeutralSpec Rows.ruleNeutralRow=true :=
 Ff (Ff (Ff (Ff (Ff (Ff (Ff (Ff (Ff (Ff (Ff (Ff (Ff (Ff (Ff (Ff (Ff (Ff (Ff (Ff (Ff (Ff (Ff (Ff (Ff (Ff (Ff (Ff (Ff (Ff (Ff (S9) TA) TB) TC) TD) TE) S8) TF) TG) TH) Ra) Rb) Rc) Rd) Re) Rf) Rg) Rh) Ri) Rj) Rk) Rl) Rm) Rn) RU) RW) RY) RZ) Ro) Rp) Rq) Rr
end Go.Proofs.YtapkhdkbkodbjaaGreat

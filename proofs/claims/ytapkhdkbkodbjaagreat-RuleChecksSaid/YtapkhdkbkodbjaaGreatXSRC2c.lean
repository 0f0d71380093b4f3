/- What the statement RuleChecks asks of the program's text, shown by the kernel. -/
import Derived.Test.YtapkhdkbkodbjaaGreatXSRC2d
import Derived.Test.YtapkhdkbkodbjaaGreatRows
import Derived.ProofKit
set_option linter.unusedVariables false
set_option linter.unusedSimpArgs false
namespace Go.Proofs.YtapkhdkbkodbjaaGreat
open Go Go.RowKit
theorem UG:(Rows.ruleChecksRow.wf (OpenSpec.ofChange Rows.ruleChecksSpec))=true:=by kernel_rfl
theorem UH:(laidOutB Tryz.pinned.checked.prog)=true:=by kernel_rfl
theorem UI:(mapsRowed Tryz.pinned.checked.prog)=true:=by kernel_rfl
theorem UJ:(Tryz.f3.params.all (Tryz.pinned.checked.prog.readableRec ·))=true:=by kernel_rfl
theorem UK:(namedTie Tryz.pinned.checked.prog Rows.ruleChecksRow.named Rows.ruleChecksSpec.vars)=true:=by kernel_rfl
theorem UL:(Rows.ruleChecksRow.stops == [])=true:=by kernel_rfl
theorem UM:(Rows.ruleChecksRow.knobs == [])=true:=by kernel_rfl
theorem UN:(Tryz.pinned.checked.prog.stopKnobs == [])=true:=by kernel_rfl
theorem UO:(Rows.ruleChecksRow.inPlace==Tryz.pinned.checked.prog.inPlace 3)=true:=by kernel_rfl
theorem Sb:(Rows.ruleChecksRow.unfollowed==Tryz.pinned.checked.prog.unfollowed 3)=true:=by kernel_rfl
theorem Sc:(Rows.ruleChecksRow.recurses==Tryz.pinned.checked.prog.recurses 3)=true:=by kernel_rfl
theorem Sd:(Rows.ruleChecksRow.named==Tryz.pinned.checked.prog.varsNamed 3)=true:=by kernel_rfl
theorem Se:(Rows.ruleChecksRow.maps==(Tryz.f3.params.toList++Rows.ruleChecksSpec.plain.varTypes Tryz.pinned.checked.prog).any (Tryz.pinned.checked.prog.mapsRec ·))=true:=by kernel_rfl
theorem Sf:(Rows.ruleChecksRow.ifaces==(Tryz.f3.params.toList++Rows.ruleChecksSpec.plain.varTypes Tryz.pinned.checked.prog).any (Tryz.pinned.checked.prog.ifacesRec ·))=true:=by kernel_rfl
theorem Sg:(Rows.ruleChecksRow.mapsOut==Tryz.pinned.checked.prog.mapsAmong Tryz.f3.resultTypes.toList)=true:=by kernel_rfl
theorem Sh:(Rows.ruleChecksRow.loops==(Tryz.f3.params.toList++Rows.ruleChecksSpec.plain.varTypes Tryz.pinned.checked.prog).any (Tryz.pinned.checked.prog.loopsFrom ·))=true:=by kernel_rfl
theorem Si:(Rows.ruleChecksRow.wideKeys==(Tryz.f3.params.toList++Rows.ruleChecksSpec.plain.varTypes Tryz.pinned.checked.prog++Tryz.f3.resultTypes.toList).any (Tryz.pinned.checked.prog.wideKeysFrom ·))=true:=by kernel_rfl
theorem Sj:(Rows.ruleChecksSpec.vars.all (Tryz.pinned.checked.prog.varReadable ·))=true:=by kernel_rfl
theorem Sk:(Tryz.f3.resultTypes.all (fun t=>Tryz.pinned.checked.prog.readableRec t&&decide (t<Tryz.pinned.checked.prog.types.size)))=true:=by kernel_rfl
theorem Sl:(Rows.ruleChecksRow.ifacesOut==Tryz.f3.resultTypes.toList.any (Tryz.pinned.checked.prog.ifacesRec ·))=true:=by kernel_rfl
theorem Sm:(Rows.ruleChecksRow.loopsOut==Tryz.f3.resultTypes.toList.any (Tryz.pinned.checked.prog.loopsFrom ·))=true:=by kernel_rfl
theorem Sn:(Rows.ruleChecksRow.plainKeys==Tryz.pinned.checked.prog.plainKeys)=true:=by kernel_rfl
theorem So:(Rows.ruleChecksRow.shortTexts.isNone)=true:=by kernel_rfl
theorem Sp:(Rows.ruleChecksRow.kinds==(if Rows.ruleChecksRow.domain.isEmpty then [] else Tryz.f3.params.toList.map fun t=>match Tryz.pinned.checked.prog.underlying t with|some (.int k)=>some k|_=>none))=true:=by kernel_rfl
theorem Sq:(Rows.ruleChecksRow.pinned==Rows.ruleChecksRow.pinnedBy)=true:=by kernel_rfl
theorem Sr:(Rows.ruleChecksRow.veiled==(Tryz.f3.params.toList++Rows.ruleChecksSpec.plain.varTypes Tryz.pinned.checked.prog++Tryz.f3.resultTypes.toList).any (Tryz.pinned.checked.prog.veiledRec ·))=true:=by kernel_rfl
theorem Ss:(Rows.ruleChecksRow.veiledFits Tryz.pinned.checked.prog Tryz.f3.params.toList (Tryz.f3.params.toList++Rows.ruleChecksSpec.plain.varTypes Tryz.pinned.checked.prog++Tryz.f3.resultTypes.toList))=true:=by kernel_rfl
set_option maxRecDepth 100000
theorem Fj {a b:Bool} (ha:a=true) (hb:b=true):(a&&b)=true:=by rw[ha,hb];rfl
theorem Su:joinedFacts Tryz.pinned.checked.prog 3 Tryz.f3 Rows.ruleChecksSpec Rows.ruleChecksRow=true :=
 Fj (Fj (Fj (Fj (Fj (Fj (Fj (Fj (Fj (Fj (Fj (Fj (Fj (Fj (Fj (Fj (Fj (Fj (Fj (Fj (Fj (Fj (Fj (Fj (Fj (Fj (Fj (Fj (Fj (Fj (Fj (UG) UH) UI) UJ) UK) UL) UF) UM) UN) UO) Sb) Sc) Sd) Se) Sf) Sg) Sh) Si) Sj) Sk) Sl) Sm) Sn) So) SX) SY) SZ) Sa) Sp) Sq) Sr) Ss
end Go.Proofs.YtapkhdkbkodbjaaGreat

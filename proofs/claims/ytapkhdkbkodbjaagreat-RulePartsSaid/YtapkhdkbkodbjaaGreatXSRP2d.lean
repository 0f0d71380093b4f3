/- What the statement RuleParts asks of the whole program's text, shown by the kernel. -/
import Derived.Test.YtapkhdkbkodbjaaGreatRows
import Derived.ProofKit
set_option linter.unusedVariables false
set_option linter.unusedSimpArgs false
namespace Go.Proofs.YtapkhdkbkodbjaaGreat
open Go Go.RowKit
theorem YB:(Tryz.pinned.checked.prog.stops == [])=true:=by kernel_rfl
theorem UA:(Tryz.pinned.checked.prog.stopsHeard)=true:=by kernel_rfl
theorem UB:(Tryz.pinned.checked.prog.mayEnter)=true:=by kernel_rfl
theorem UC:(Rows.rulePartsRow.lifted==Tryz.pinned.checked.prog.liftsFinal)=true:=by kernel_rfl
theorem UD:(Tryz.pinned.checked.prog.make==some Rows.rulePartsRow.make)=true:=by kernel_rfl
end Go.Proofs.YtapkhdkbkodbjaaGreat

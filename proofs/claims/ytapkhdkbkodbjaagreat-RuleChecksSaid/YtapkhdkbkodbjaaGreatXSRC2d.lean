/- What the statement RuleChecks asks of the whole program's text, shown by the kernel. -/
import Derived.Test.YtapkhdkbkodbjaaGreatRows
import Derived.ProofKit
set_option linter.unusedVariables false
set_option linter.unusedSimpArgs false
namespace Go.Proofs.YtapkhdkbkodbjaaGreat
open Go Go.RowKit
theorem UF:(Tryz.pinned.checked.prog.stops == [])=true:=by kernel_rfl
theorem SX:(Tryz.pinned.checked.prog.stopsHeard)=true:=by kernel_rfl
theorem SY:(Tryz.pinned.checked.prog.mayEnter)=true:=by kernel_rfl
theorem SZ:(Rows.ruleChecksRow.lifted==Tryz.pinned.checked.prog.liftsFinal)=true:=by kernel_rfl
theorem Sa:(Tryz.pinned.checked.prog.make==some Rows.ruleChecksRow.make)=true:=by kernel_rfl
end Go.Proofs.YtapkhdkbkodbjaaGreat

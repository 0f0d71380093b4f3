/- What the statement RuleNeutral asks of the whole program's text, shown by the kernel. -/
import Derived.Test.YtapkhdkbkodbjaaGreatRows
import Derived.ProofKit
set_option linter.unusedVariables false
set_option linter.unusedSimpArgs false
namespace Go.Proofs.YtapkhdkbkodbjaaGreat
open Go Go.RowKit
theorem S8:(Tryz.pinned.checked.prog.stops == [])=true:=by kernel_rfl
theorem RU:(Tryz.pinned.checked.prog.stopsHeard)=true:=by kernel_rfl
theorem RW:(Tryz.pinned.checked.prog.mayEnter)=true:=by kernel_rfl
theorem RY:(Rows.ruleNeutralRow.lifted==Tryz.pinned.checked.prog.liftsFinal)=true:=by kernel_rfl
theorem RZ:(Tryz.pinned.checked.prog.make==some Rows.ruleNeutralRow.make)=true:=by kernel_rfl
end Go.Proofs.YtapkhdkbkodbjaaGreat

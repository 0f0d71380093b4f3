/- What the statement RuleTyped asks of the whole program's text, shown by the kernel. -/
import Derived.Test.YtapkhdkbkodbjaaGreatRows
import Derived.ProofKit
set_option linter.unusedVariables false
set_option linter.unusedSimpArgs false
namespace Go.Proofs.YtapkhdkbkodbjaaGreat
open Go Go.RowKit
theorem ZD:(Tryz.pinned.checked.prog.stops == [])=true:=by kernel_rfl
theorem VH:(Tryz.pinned.checked.prog.stopsHeard)=true:=by kernel_rfl
theorem VI:(Tryz.pinned.checked.prog.mayEnter)=true:=by kernel_rfl
theorem VJ:(Rows.ruleTypedRow.lifted==Tryz.pinned.checked.prog.liftsFinal)=true:=by kernel_rfl
theorem VK:(Tryz.pinned.checked.prog.make==some Rows.ruleTypedRow.make)=true:=by kernel_rfl
end Go.Proofs.YtapkhdkbkodbjaaGreat

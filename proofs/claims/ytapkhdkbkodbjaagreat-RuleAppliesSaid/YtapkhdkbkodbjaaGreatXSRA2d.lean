/- What the statement RuleApplies asks of the whole program's text, shown by the kernel. -/
import Derived.Test.YtapkhdkbkodbjaaGreatRows
import Derived.ProofKit
set_option linter.unusedVariables false
set_option linter.unusedSimpArgs false
namespace Go.Proofs.YtapkhdkbkodbjaaGreat
open Go Go.RowKit
theorem Tq:(Tryz.pinned.checked.prog.stops == [])=true:=by kernel_rfl
theorem R3:(Tryz.pinned.checked.prog.stopsHeard)=true:=by kernel_rfl
theorem R4:(Tryz.pinned.checked.prog.mayEnter)=true:=by kernel_rfl
theorem R5:(Rows.ruleAppliesRow.lifted==Tryz.pinned.checked.prog.liftsFinal)=true:=by kernel_rfl
theorem R6:(Tryz.pinned.checked.prog.make==some Rows.ruleAppliesRow.make)=true:=by kernel_rfl
end Go.Proofs.YtapkhdkbkodbjaaGreat

/- What the statement RuleMonotone asks of the whole program's text, shown by the kernel. -/
import Derived.Test.YtapkhdkbkodbjaaGreatRows
import Derived.ProofKit
set_option linter.unusedVariables false
set_option linter.unusedSimpArgs false
namespace Go.Proofs.YtapkhdkbkodbjaaGreat
open Go Go.RowKit
theorem SF:(Tryz.pinned.checked.prog.stops == [])=true:=by kernel_rfl
theorem Px:(Tryz.pinned.checked.prog.stopsHeard)=true:=by kernel_rfl
theorem Py:(Tryz.pinned.checked.prog.mayEnter)=true:=by kernel_rfl
theorem Pz:(Rows.ruleMonotoneRow.lifted==Tryz.pinned.checked.prog.liftsFinal)=true:=by kernel_rfl
theorem P0:(Tryz.pinned.checked.prog.make==some Rows.ruleMonotoneRow.make)=true:=by kernel_rfl
end Go.Proofs.YtapkhdkbkodbjaaGreat

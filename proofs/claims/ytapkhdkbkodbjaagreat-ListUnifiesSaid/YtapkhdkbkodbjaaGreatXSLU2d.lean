/- What the statement ListUnifies asks of the whole program's text, shown by the kernel. -/
import Derived.Test.YtapkhdkbkodbjaaGreatRows
import Derived.ProofKit
set_option linter.unusedVariables false
set_option linter.unusedSimpArgs false
namespace Go.Proofs.YtapkhdkbkodbjaaGreat
open Go Go.RowKit
theorem Sw:(Tryz.pinned.checked.prog.stops == [])=true:=by kernel_rfl
theorem RC:(Tryz.pinned.checked.prog.stopsHeard)=true:=by kernel_rfl
theorem RD:(Tryz.pinned.checked.prog.mayEnter)=true:=by kernel_rfl
theorem RE:(Rows.listUnifiesRow.lifted==Tryz.pinned.checked.prog.liftsFinal)=true:=by kernel_rfl
theorem RF:(Tryz.pinned.checked.prog.make==some Rows.listUnifiesRow.make)=true:=by kernel_rfl
end Go.Proofs.YtapkhdkbkodbjaaGreat

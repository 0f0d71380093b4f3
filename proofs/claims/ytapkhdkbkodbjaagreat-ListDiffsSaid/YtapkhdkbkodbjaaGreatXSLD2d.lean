/- What the statement ListDiffs asks of the whole program's text, shown by the kernel. -/
import Derived.Test.YtapkhdkbkodbjaaGreatRows
import Derived.ProofKit
set_option linter.unusedVariables false
set_option linter.unusedSimpArgs false
namespace Go.Proofs.YtapkhdkbkodbjaaGreat
open Go Go.RowKit
theorem Yi:(Tryz.pinned.checked.prog.stops == [])=true:=by kernel_rfl
theorem UI:(Tryz.pinned.checked.prog.stopsHeard)=true:=by kernel_rfl
theorem UJ:(Tryz.pinned.checked.prog.mayEnter)=true:=by kernel_rfl
theorem UK:(Rows.listDiffsRow.lifted==Tryz.pinned.checked.prog.liftsFinal)=true:=by kernel_rfl
theorem UL:(Tryz.pinned.checked.prog.make==some Rows.listDiffsRow.make)=true:=by kernel_rfl
end Go.Proofs.YtapkhdkbkodbjaaGreat

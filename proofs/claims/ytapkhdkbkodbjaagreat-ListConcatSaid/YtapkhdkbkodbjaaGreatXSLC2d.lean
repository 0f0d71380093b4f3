/- What the statement ListConcat asks of the whole program's text, shown by the kernel. -/
import Derived.Test.YtapkhdkbkodbjaaGreatRows
import Derived.ProofKit
set_option linter.unusedVariables false
set_option linter.unusedSimpArgs false
namespace Go.Proofs.YtapkhdkbkodbjaaGreat
open Go Go.RowKit
theorem UI:(Tryz.pinned.checked.prog.stops == [])=true:=by kernel_rfl
theorem SQ:(Tryz.pinned.checked.prog.stopsHeard)=true:=by kernel_rfl
theorem SR:(Tryz.pinned.checked.prog.mayEnter)=true:=by kernel_rfl
theorem ST:(Rows.listConcatRow.lifted==Tryz.pinned.checked.prog.liftsFinal)=true:=by kernel_rfl
theorem SU:(Tryz.pinned.checked.prog.make==some Rows.listConcatRow.make)=true:=by kernel_rfl
end Go.Proofs.YtapkhdkbkodbjaaGreat

/- What the statement ListBack asks of the whole program's text, shown by the kernel. -/
import Derived.Test.YtapkhdkbkodbjaaGreatRows
import Derived.ProofKit
set_option linter.unusedVariables false
set_option linter.unusedSimpArgs false
namespace Go.Proofs.YtapkhdkbkodbjaaGreat
open Go Go.RowKit
theorem ZO:(Tryz.pinned.checked.prog.stops == [])=true:=by kernel_rfl
theorem Yb:(Tryz.pinned.checked.prog.stopsHeard)=true:=by kernel_rfl
theorem Yc:(Tryz.pinned.checked.prog.mayEnter)=true:=by kernel_rfl
theorem Yd:(Rows.listBackRow.lifted==Tryz.pinned.checked.prog.liftsFinal)=true:=by kernel_rfl
theorem Ye:(Tryz.pinned.checked.prog.make==some Rows.listBackRow.make)=true:=by kernel_rfl
end Go.Proofs.YtapkhdkbkodbjaaGreat

/- What the statement ListWalks asks of the whole program's text, shown by the kernel. -/
import Derived.Test.YtapkhdkbkodbjaaGreatRows
import Derived.ProofKit
set_option linter.unusedVariables false
set_option linter.unusedSimpArgs false
namespace Go.Proofs.YtapkhdkbkodbjaaGreat
open Go Go.RowKit
theorem Ys:(Tryz.pinned.checked.prog.stops == [])=true:=by kernel_rfl
theorem Uf:(Tryz.pinned.checked.prog.stopsHeard)=true:=by kernel_rfl
theorem Ug:(Tryz.pinned.checked.prog.mayEnter)=true:=by kernel_rfl
theorem Uh:(Rows.listWalksRow.lifted==Tryz.pinned.checked.prog.liftsFinal)=true:=by kernel_rfl
theorem Ui:(Tryz.pinned.checked.prog.make==some Rows.listWalksRow.make)=true:=by kernel_rfl
end Go.Proofs.YtapkhdkbkodbjaaGreat

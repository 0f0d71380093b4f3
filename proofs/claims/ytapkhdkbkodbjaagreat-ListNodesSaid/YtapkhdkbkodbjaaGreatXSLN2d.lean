/- What the statement ListNodes asks of the whole program's text, shown by the kernel. -/
import Derived.Test.YtapkhdkbkodbjaaGreatRows
import Derived.ProofKit
set_option linter.unusedVariables false
set_option linter.unusedSimpArgs false
namespace Go.Proofs.YtapkhdkbkodbjaaGreat
open Go Go.RowKit
theorem YY:(Tryz.pinned.checked.prog.stops == [])=true:=by kernel_rfl
theorem Tj:(Tryz.pinned.checked.prog.stopsHeard)=true:=by kernel_rfl
theorem Tk:(Tryz.pinned.checked.prog.mayEnter)=true:=by kernel_rfl
theorem Tl:(Rows.listNodesRow.lifted==Tryz.pinned.checked.prog.liftsFinal)=true:=by kernel_rfl
theorem Tm:(Tryz.pinned.checked.prog.make==some Rows.listNodesRow.make)=true:=by kernel_rfl
end Go.Proofs.YtapkhdkbkodbjaaGreat

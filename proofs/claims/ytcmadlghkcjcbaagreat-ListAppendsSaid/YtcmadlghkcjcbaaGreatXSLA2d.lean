/- What the statement ListAppends asks of the whole program's text, shown by the kernel. -/
import Derived.Test.YtcmadlghkcjcbaaGreatRows
import Derived.ProofKit
set_option linter.unusedVariables false
set_option linter.unusedSimpArgs false
namespace Go.Proofs.YtcmadlghkcjcbaaGreat
open Go Go.RowKit
theorem S6:(Tryz.pinned.checked.prog.stops == [])=true:=by kernel_rfl
theorem RF:(Tryz.pinned.checked.prog.stopsHeard)=true:=by kernel_rfl
theorem RG:(Tryz.pinned.checked.prog.mayEnter)=true:=by kernel_rfl
theorem RH:(Rows.listAppendsRow.lifted==Tryz.pinned.checked.prog.liftsFinal)=true:=by kernel_rfl
theorem RI:(Tryz.pinned.checked.prog.make==some Rows.listAppendsRow.make)=true:=by kernel_rfl
end Go.Proofs.YtcmadlghkcjcbaaGreat

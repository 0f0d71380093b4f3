/- What the statement SemInverse asks of the program's text, shown by the kernel. -/
import Derived.Test.YtddbnflakbngaaaGreatDoorRows
import Derived.ProofKit
set_option linter.unusedVariables false
set_option linter.unusedSimpArgs false
namespace Go.Proofs.YtddbnflakbngaaaGreatDoor
open Go Go.RowKit
theorem S8:joinedFacts Tryz.pinned.checked.prog 3 Tryz.f3 Rows.semInverseSpec Rows.semInverseRow=true:=by kernel_rfl
end Go.Proofs.YtddbnflakbngaaaGreatDoor

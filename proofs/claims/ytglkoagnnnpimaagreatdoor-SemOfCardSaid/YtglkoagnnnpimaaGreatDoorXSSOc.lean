/- What the statement SemOf asks of the program's text, shown by the kernel. -/
import Derived.Test.YtglkoagnnnpimaaGreatDoorRows
import Derived.ProofKit
set_option linter.unusedVariables false
set_option linter.unusedSimpArgs false
namespace Go.Proofs.YtglkoagnnnpimaaGreatDoor
open Go Go.RowKit
theorem jB:joinedFacts Tryz.pinned.checked.prog 4 Tryz.f4 Rows.semOfSpec Rows.semOfRow=true:=by kernel_rfl
end Go.Proofs.YtglkoagnnnpimaaGreatDoor

/- What the statement SemSpecific asks of the program's text, shown by the kernel. -/
import Derived.Test.YtglkoagnnnpimaaGreatDoorRows
import Derived.ProofKit
set_option linter.unusedVariables false
set_option linter.unusedSimpArgs false
namespace Go.Proofs.YtglkoagnnnpimaaGreatDoor
open Go Go.RowKit
theorem QO:joinedFacts Tryz.pinned.checked.prog 8 Tryz.f8 Rows.semSpecificSpec Rows.semSpecificRow=true:=by kernel_rfl
end Go.Proofs.YtglkoagnnnpimaaGreatDoor

/- What the statement SemLocal asks of the program's text, shown by the kernel. -/
import Derived.Test.YtglkoagnnnpimaaGreatDoorRows
import Derived.ProofKit
set_option linter.unusedVariables false
set_option linter.unusedSimpArgs false
namespace Go.Proofs.YtglkoagnnnpimaaGreatDoor
open Go Go.RowKit
theorem Wx:joinedFacts Tryz.pinned.checked.prog 7 Tryz.f7 Rows.semLocalSpec Rows.semLocalRow=true:=by kernel_rfl
end Go.Proofs.YtglkoagnnnpimaaGreatDoor

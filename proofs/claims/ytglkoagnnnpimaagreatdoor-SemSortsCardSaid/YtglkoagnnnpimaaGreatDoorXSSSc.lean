/- What the statement SemSorts asks of the program's text, shown by the kernel. -/
import Derived.Test.YtglkoagnnnpimaaGreatDoorRows
import Derived.ProofKit
set_option linter.unusedVariables false
set_option linter.unusedSimpArgs false
namespace Go.Proofs.YtglkoagnnnpimaaGreatDoor
open Go Go.RowKit
theorem VK:joinedFacts Tryz.pinned.checked.prog 3 Tryz.f3 Rows.semSortsSpec Rows.semSortsRow=true:=by kernel_rfl
end Go.Proofs.YtglkoagnnnpimaaGreatDoor

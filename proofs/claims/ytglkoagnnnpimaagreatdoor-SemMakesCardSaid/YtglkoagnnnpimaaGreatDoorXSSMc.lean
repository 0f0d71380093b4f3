/- What the statement SemMakes asks of the program's text, shown by the kernel. -/
import Derived.Test.YtglkoagnnnpimaaGreatDoorRows
import Derived.ProofKit
set_option linter.unusedVariables false
set_option linter.unusedSimpArgs false
namespace Go.Proofs.YtglkoagnnnpimaaGreatDoor
open Go Go.RowKit
theorem WY:joinedFacts Tryz.pinned.checked.prog 5 Tryz.f5 Rows.semMakesSpec Rows.semMakesRow=true:=by kernel_rfl
end Go.Proofs.YtglkoagnnnpimaaGreatDoor

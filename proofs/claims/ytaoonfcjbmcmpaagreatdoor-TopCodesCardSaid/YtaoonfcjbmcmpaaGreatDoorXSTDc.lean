/- What the statement TopCodes asks of the program's text, shown by the kernel. -/
import Derived.Test.YtaoonfcjbmcmpaaGreatDoorRows
import Derived.ProofKit
set_option linter.unusedVariables false
set_option linter.unusedSimpArgs false
namespace Go.Proofs.YtaoonfcjbmcmpaaGreatDoor
open Go Go.RowKit
theorem ST:joinedFacts Tryz.pinned.checked.prog 3 Tryz.f3 Rows.topCodesSpec Rows.topCodesRow=true:=by kernel_rfl
end Go.Proofs.YtaoonfcjbmcmpaaGreatDoor

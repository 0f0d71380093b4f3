/- What the statement QuickVectors asks of the program's text, shown by the kernel. -/
import Derived.Test.YtmejfnhmgbhkmabGreatRows
import Derived.ProofKit
set_option linter.unusedVariables false
set_option linter.unusedSimpArgs false
namespace Go.Proofs.YtmejfnhmgbhkmabGreat
open Go Go.RowKit
theorem ND:joinedFacts Tryz.pinned.checked.prog 3 Tryz.f3 Rows.quickVectorsSpec Rows.quickVectorsRow=true:=by kernel_rfl
end Go.Proofs.YtmejfnhmgbhkmabGreat

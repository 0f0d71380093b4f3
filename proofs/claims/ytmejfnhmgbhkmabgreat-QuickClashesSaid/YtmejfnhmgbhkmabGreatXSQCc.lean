/- What the statement QuickClashes asks of the program's text, shown by the kernel. -/
import Derived.Test.YtmejfnhmgbhkmabGreatRows
import Derived.ProofKit
set_option linter.unusedVariables false
set_option linter.unusedSimpArgs false
namespace Go.Proofs.YtmejfnhmgbhkmabGreat
open Go Go.RowKit
theorem NE:joinedFacts Tryz.pinned.checked.prog 5 Tryz.f5 Rows.quickClashesSpec Rows.quickClashesRow=true:=by kernel_rfl
end Go.Proofs.YtmejfnhmgbhkmabGreat

/- What the statement QuickTrains asks of the program's text, shown by the kernel. -/
import Derived.Test.YtmejfnhmgbhkmabGreatRows
import Derived.ProofKit
set_option linter.unusedVariables false
set_option linter.unusedSimpArgs false
namespace Go.Proofs.YtmejfnhmgbhkmabGreat
open Go Go.RowKit
theorem Nk:joinedFacts Tryz.pinned.checked.prog 6 Tryz.f6 Rows.quickTrainsSpec Rows.quickTrainsRow=true:=by kernel_rfl
end Go.Proofs.YtmejfnhmgbhkmabGreat

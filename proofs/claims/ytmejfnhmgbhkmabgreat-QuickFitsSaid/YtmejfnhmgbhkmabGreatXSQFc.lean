/- What the statement QuickFits asks of the program's text, shown by the kernel. -/
import Derived.Test.YtmejfnhmgbhkmabGreatRows
import Derived.ProofKit
set_option linter.unusedVariables false
set_option linter.unusedSimpArgs false
namespace Go.Proofs.YtmejfnhmgbhkmabGreat
open Go Go.RowKit
theorem RG:joinedFacts Tryz.pinned.checked.prog 4 Tryz.f4 Rows.quickFitsSpec Rows.quickFitsRow=true:=by kernel_rfl
end Go.Proofs.YtmejfnhmgbhkmabGreat

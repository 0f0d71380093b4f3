/- What the statement QuickAgrees asks of the program's text, shown by the kernel. -/
import Derived.Test.YtmejfnhmgbhkmabGreatRows
import Derived.ProofKit
set_option linter.unusedVariables false
set_option linter.unusedSimpArgs false
namespace Go.Proofs.YtmejfnhmgbhkmabGreat
open Go Go.RowKit
theorem Ot:joinedFacts Tryz.pinned.checked.prog 8 Tryz.f8 Rows.quickAgreesSpec Rows.quickAgreesRow=true:=by kernel_rfl
end Go.Proofs.YtmejfnhmgbhkmabGreat

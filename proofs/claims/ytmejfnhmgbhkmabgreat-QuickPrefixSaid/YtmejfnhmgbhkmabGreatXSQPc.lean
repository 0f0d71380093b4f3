/- What the statement QuickPrefix asks of the program's text, shown by the kernel. -/
import Derived.Test.YtmejfnhmgbhkmabGreatRows
import Derived.ProofKit
set_option linter.unusedVariables false
set_option linter.unusedSimpArgs false
namespace Go.Proofs.YtmejfnhmgbhkmabGreat
open Go Go.RowKit
theorem Nl:joinedFacts Tryz.pinned.checked.prog 7 Tryz.f7 Rows.quickPrefixSpec Rows.quickPrefixRow=true:=by kernel_rfl
end Go.Proofs.YtmejfnhmgbhkmabGreat

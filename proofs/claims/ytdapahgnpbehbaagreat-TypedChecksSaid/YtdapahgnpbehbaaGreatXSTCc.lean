/- What the statement TypedChecks asks of the program's text, shown by the kernel. -/
import Derived.Test.YtdapahgnpbehbaaGreatRows
import Derived.ProofKit
set_option linter.unusedVariables false
set_option linter.unusedSimpArgs false
namespace Go.Proofs.YtdapahgnpbehbaaGreat
open Go Go.RowKit
theorem Nr:joinedFacts Tryz.pinned.checked.prog 3 Tryz.f3 Rows.typedChecksSpec Rows.typedChecksRow=true:=by kernel_rfl
end Go.Proofs.YtdapahgnpbehbaaGreat

/- What the statement TypedLeast asks of the program's text, shown by the kernel. -/
import Derived.Test.YtdapahgnpbehbaaGreatRows
import Derived.ProofKit
set_option linter.unusedVariables false
set_option linter.unusedSimpArgs false
namespace Go.Proofs.YtdapahgnpbehbaaGreat
open Go Go.RowKit
theorem Ro:joinedFacts Tryz.pinned.checked.prog 6 Tryz.f6 Rows.typedLeastSpec Rows.typedLeastRow=true:=by kernel_rfl
end Go.Proofs.YtdapahgnpbehbaaGreat

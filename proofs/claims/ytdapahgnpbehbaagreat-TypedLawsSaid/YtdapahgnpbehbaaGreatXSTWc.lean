/- What the statement TypedLaws asks of the program's text, shown by the kernel. -/
import Derived.Test.YtdapahgnpbehbaaGreatRows
import Derived.ProofKit
set_option linter.unusedVariables false
set_option linter.unusedSimpArgs false
namespace Go.Proofs.YtdapahgnpbehbaaGreat
open Go Go.RowKit
theorem So:joinedFacts Tryz.pinned.checked.prog 9 Tryz.f9 Rows.typedLawsSpec Rows.typedLawsRow=true:=by kernel_rfl
end Go.Proofs.YtdapahgnpbehbaaGreat

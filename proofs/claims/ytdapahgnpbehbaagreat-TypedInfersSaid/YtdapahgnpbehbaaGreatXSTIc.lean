/- What the statement TypedInfers asks of the program's text, shown by the kernel. -/
import Derived.Test.YtdapahgnpbehbaaGreatRows
import Derived.ProofKit
set_option linter.unusedVariables false
set_option linter.unusedSimpArgs false
namespace Go.Proofs.YtdapahgnpbehbaaGreat
open Go Go.RowKit
theorem OM:joinedFacts Tryz.pinned.checked.prog 4 Tryz.f4 Rows.typedInfersSpec Rows.typedInfersRow=true:=by kernel_rfl
end Go.Proofs.YtdapahgnpbehbaaGreat

/- What the statement TypedUnifies asks of the program's text, shown by the kernel. -/
import Derived.Test.YtdapahgnpbehbaaGreatRows
import Derived.ProofKit
set_option linter.unusedVariables false
set_option linter.unusedSimpArgs false
namespace Go.Proofs.YtdapahgnpbehbaaGreat
open Go Go.RowKit
theorem O5:joinedFacts Tryz.pinned.checked.prog 8 Tryz.f8 Rows.typedUnifiesSpec Rows.typedUnifiesRow=true:=by kernel_rfl
end Go.Proofs.YtdapahgnpbehbaaGreat

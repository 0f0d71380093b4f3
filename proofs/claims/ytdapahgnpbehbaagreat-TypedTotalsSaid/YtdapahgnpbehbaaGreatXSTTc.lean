/- What the statement TypedTotals asks of the program's text, shown by the kernel. -/
import Derived.Test.YtdapahgnpbehbaaGreatRows
import Derived.ProofKit
set_option linter.unusedVariables false
set_option linter.unusedSimpArgs false
namespace Go.Proofs.YtdapahgnpbehbaaGreat
open Go Go.RowKit
theorem QB:joinedFacts Tryz.pinned.checked.prog 5 Tryz.f5 Rows.typedTotalsSpec Rows.typedTotalsRow=true:=by kernel_rfl
end Go.Proofs.YtdapahgnpbehbaaGreat

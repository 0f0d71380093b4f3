/- What the statement TypedFull asks of the program's text, shown by the kernel. -/
import Derived.Test.YtdapahgnpbehbaaGreatRows
import Derived.ProofKit
set_option linter.unusedVariables false
set_option linter.unusedSimpArgs false
namespace Go.Proofs.YtdapahgnpbehbaaGreat
open Go Go.RowKit
theorem SH:joinedFacts Tryz.pinned.checked.prog 7 Tryz.f7 Rows.typedFullSpec Rows.typedFullRow=true:=by kernel_rfl
end Go.Proofs.YtdapahgnpbehbaaGreat

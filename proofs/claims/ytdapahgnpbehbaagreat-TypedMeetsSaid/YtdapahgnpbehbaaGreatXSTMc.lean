/- What the statement TypedMeets asks of the program's text, shown by the kernel. -/
import Derived.Test.YtdapahgnpbehbaaGreatRows
import Derived.ProofKit
set_option linter.unusedVariables false
set_option linter.unusedSimpArgs false
namespace Go.Proofs.YtdapahgnpbehbaaGreat
open Go Go.RowKit
theorem Rp:joinedFacts Tryz.pinned.checked.prog 11 Tryz.f11 Rows.typedMeetsSpec Rows.typedMeetsRow=true:=by kernel_rfl
end Go.Proofs.YtdapahgnpbehbaaGreat

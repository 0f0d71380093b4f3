/- What the statement TypedPlaces asks of the program's text, shown by the kernel. -/
import Derived.Test.YtdapahgnpbehbaaGreatRows
import Derived.ProofKit
set_option linter.unusedVariables false
set_option linter.unusedSimpArgs false
namespace Go.Proofs.YtdapahgnpbehbaaGreat
open Go Go.RowKit
theorem Qo:joinedFacts Tryz.pinned.checked.prog 10 Tryz.f10 Rows.typedPlacesSpec Rows.typedPlacesRow=true:=by kernel_rfl
end Go.Proofs.YtdapahgnpbehbaaGreat

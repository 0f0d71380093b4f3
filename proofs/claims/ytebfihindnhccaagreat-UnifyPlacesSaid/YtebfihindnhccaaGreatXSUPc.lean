/- What the statement UnifyPlaces asks of the program's text, shown by the kernel. -/
import Derived.Test.YtebfihindnhccaaGreatRows
import Derived.ProofKit
set_option linter.unusedVariables false
set_option linter.unusedSimpArgs false
namespace Go.Proofs.YtebfihindnhccaaGreat
open Go Go.RowKit
theorem O7:joinedFacts Tryz.pinned.checked.prog 13 Tryz.f13 Rows.unifyPlacesSpec Rows.unifyPlacesRow=true:=by kernel_rfl
end Go.Proofs.YtebfihindnhccaaGreat

/- What the statement UnifyMakes asks of the program's text, shown by the kernel. -/
import Derived.Test.YtebfihindnhccaaGreatRows
import Derived.ProofKit
set_option linter.unusedVariables false
set_option linter.unusedSimpArgs false
namespace Go.Proofs.YtebfihindnhccaaGreat
open Go Go.RowKit
theorem closedUnifyMakes:joinedFacts Tryz.pinned.checked.prog 3 Tryz.f3 Rows.unifyMakesSpec Rows.unifyMakesRow=true:=by kernel_rfl
end Go.Proofs.YtebfihindnhccaaGreat

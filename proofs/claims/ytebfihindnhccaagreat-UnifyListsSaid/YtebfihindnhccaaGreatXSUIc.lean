/- What the statement UnifyLists asks of the program's text, shown by the kernel. -/
import Derived.Test.YtebfihindnhccaaGreatRows
import Derived.ProofKit
set_option linter.unusedVariables false
set_option linter.unusedSimpArgs false
namespace Go.Proofs.YtebfihindnhccaaGreat
open Go Go.RowKit
theorem closedUnifyLists:joinedFacts Tryz.pinned.checked.prog 4 Tryz.f4 Rows.unifyListsSpec Rows.unifyListsRow=true:=by kernel_rfl
end Go.Proofs.YtebfihindnhccaaGreat

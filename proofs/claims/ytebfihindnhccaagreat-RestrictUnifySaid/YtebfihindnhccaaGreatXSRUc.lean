/- What the statement RestrictUnify asks of the program's text, shown by the kernel. -/
import Derived.Test.YtebfihindnhccaaGreatRows
import Derived.ProofKit
set_option linter.unusedVariables false
set_option linter.unusedSimpArgs false
namespace Go.Proofs.YtebfihindnhccaaGreat
open Go Go.RowKit
theorem closedRestrictUnify : joinedFacts Tryz.pinned.checked.prog 14 Tryz.f14 Rows.restrictUnifySpec Rows.restrictUnifyRow = true := by kernel_rfl
end Go.Proofs.YtebfihindnhccaaGreat

/- What the statement UnifyEquates asks of the program's text, shown by the kernel. -/
import Derived.Test.YtebfihindnhccaaGreatRows
import Derived.ProofKit
set_option linter.unusedVariables false
set_option linter.unusedSimpArgs false
namespace Go.Proofs.YtebfihindnhccaaGreat
open Go Go.RowKit
theorem M7:joinedFacts Tryz.pinned.checked.prog 5 Tryz.f5 Rows.unifyEquatesSpec Rows.unifyEquatesRow=true:=by kernel_rfl
end Go.Proofs.YtebfihindnhccaaGreat

/- What the statement QuickSound asks of the program's text, shown by the kernel. -/
import Derived.Test.YtmejfnhmgbhkmabGreatRows
import Derived.ProofKit
set_option linter.unusedVariables false
set_option linter.unusedSimpArgs false
namespace Go.Proofs.YtmejfnhmgbhkmabGreat
open Go Go.RowKit
theorem Pz:joinedFacts Tryz.pinned.checked.prog 9 Tryz.f9 Rows.quickSoundSpec Rows.quickSoundRow=true:=by kernel_rfl
end Go.Proofs.YtmejfnhmgbhkmabGreat

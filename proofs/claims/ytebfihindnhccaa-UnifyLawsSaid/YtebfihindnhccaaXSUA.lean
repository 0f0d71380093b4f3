/- UnifyLaws: the given statement. -/
import Derived.Test.YtebfihindnhccaaYD
import Derived.Test.YtebfihindnhccaaZJ
import Derived.Test.YtebfihindnhccaaRows
import Derived.ProofKit
set_option linter.unusedVariables false
set_option linter.unusedSimpArgs false
namespace Go.Proofs.Ytebfihindnhccaa
open Go Go.RowKit
theorem own : ownKnob Try.prog.godebug = none := by kernel_rfl
theorem laidOut : laidOutB Try.prog = true := by kernel_rfl
theorem spec_ok {H : Type} : ∀ ds : List (DataW H), ds.length = 2 → (Rows.unifyLawsSpec.fn H ds).results = [.lit (.bool true)] ∧ (Rows.unifyLawsSpec.fn H ds).args = ds ∧ (Rows.unifyLawsSpec.fn H ds).vars = []
 | [_, _], _ => ⟨rfl, rfl, rfl⟩
set_option maxRecDepth 100000 in
theorem lifted (os : Os) (started : os.Started) (H : Type) (enc : TypeId × Value → H) :
  ReturnsInHanded {} Try.checked os 4 .any (Rows.unifyLawsSpec.pre6 enc Try.prog Try.f4 Rows.unifyLawsRow.domain false) (Rows.unifyLawsSpec.post enc Try.prog Try.f4 false true false false) := by
 refine returnsInHanded_of_change_sized (C := Try.checked) own started (by kernel_rfl) Try.func4
  (ChangeSpec.witness6 (enc := enc) (C := Try.checked) false ⟨#[], #[.slice none 0 0, .agg #[.slice none 0 0, .slice none 0 0, .slice none 0 0]], []⟩ 8 (by kernel_rfl) (by kernel_rfl) (by kernel_rfl) (by kernel_rfl)) ?_
 intro W base args ds gs before hval hW _ hsz _
 exact Fw.law_post (P := Try.prog) (fn := Try.f4) Fw.law5_ok (fun _ => trivial) (fun _ => rfl) laidOut (by kernel_rfl) (by kernel_rfl) Try.underlying4 rfl (fun _ ds h => spec_ok ds h) hval hW hsz
theorem proved : Rows.UnifyLawsSaid :=
 OpenClaim.holds_of_wide 4 Try.f4 rfl rfl rfl rfl rfl rfl rfl ⟨rfl, rfl, rfl, rfl, rfl⟩ rfl rfl rfl rfl rfl (by kernel_rfl) Try.func4 (by kernel_rfl)
  (of_decide_eq_true (by kernel_rfl)) (by unfold Func.isWrapper; first | (rw [if_pos (by decide +kernel)]; kernel_rfl) | (rw [if_neg (by decide +kernel)]; exact ⟨rfl, rfl⟩))
  (fun os started H enc _ => lifted os started H enc)
end Go.Proofs.Ytebfihindnhccaa

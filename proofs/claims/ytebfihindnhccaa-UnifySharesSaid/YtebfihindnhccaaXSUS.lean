/- UnifyShares: the given statement. -/
import Derived.Test.YtebfihindnhccaaYD
import Derived.Test.YtebfihindnhccaaZJ
import Derived.Test.YtebfihindnhccaaRows
import Derived.ProofKit
set_option linter.unusedVariables false
set_option linter.unusedSimpArgs false
namespace Go.Proofs.Ytebfihindnhccaa
open Go Go.RowKit
theorem own : ownKnob Try.prog.godebug = none := by kernel_rfl
theorem laidOut : laidOutB Try.prog = true := by kernel_rfl
theorem spec_ok {H : Type} : ∀ ds : List (DataW H), ds.length = 3 → (Rows.unifySharesSpec.fn H ds).results = [.lit (.bool true)] ∧ (Rows.unifySharesSpec.fn H ds).args = ds ∧ (Rows.unifySharesSpec.fn H ds).vars = []
 | [_, _, _], _ => ⟨rfl, rfl, rfl⟩
set_option maxRecDepth 100000 in
theorem lifted (os : Os) (started : os.Started) (H : Type) (enc : TypeId × Value → H) :
  ReturnsInHanded {} Try.checked os 5 .any (Rows.unifySharesSpec.pre6 enc Try.prog Try.f5 Rows.unifySharesRow.domain false) (Rows.unifySharesSpec.post enc Try.prog Try.f5 false true false false) := by
 refine returnsInHanded_of_change_sized (C := Try.checked) own started (by kernel_rfl) Try.func5
  (ChangeSpec.witness6 (enc := enc) (C := Try.checked) false ⟨#[], #[.slice none 0 0, .agg #[.slice none 0 0, .slice none 0 0], .agg #[.slice none 0 0, .slice none 0 0]], []⟩ 8 (by kernel_rfl) (by kernel_rfl) (by kernel_rfl) (by kernel_rfl)) ?_
 intro W base args ds gs before hval hW _ hsz _
 exact Fw.law_post (P := Try.prog) (fn := Try.f5) Fw.law6u_ok (fun _ => trivial) (fun _ => rfl) laidOut (by kernel_rfl) (by kernel_rfl) Try.underlying4 rfl (fun _ ds h => spec_ok ds h) hval hW hsz
theorem proved : Rows.UnifySharesSaid :=
 OpenClaim.holds_of_wide 5 Try.f5 rfl rfl rfl rfl rfl rfl rfl ⟨rfl, rfl, rfl, rfl, rfl⟩ rfl rfl rfl rfl rfl (by kernel_rfl) Try.func5 (by kernel_rfl)
  (of_decide_eq_true (by kernel_rfl)) (by unfold Func.isWrapper; first | (rw [if_pos (by decide +kernel)]; kernel_rfl) | (rw [if_neg (by decide +kernel)]; exact ⟨rfl, rfl⟩))
  (fun os started H enc _ => lifted os started H enc)
end Go.Proofs.Ytebfihindnhccaa

/- RuleParts: the given statement. -/
import Derived.Test.YtapkhdkbkodbjaaGreatJYD
import Derived.Test.YtapkhdkbkodbjaaGreatXSRP2c
import Derived.Test.YtapkhdkbkodbjaaGreatJZJ
import Derived.Test.YtapkhdkbkodbjaaGreatRows
import Derived.ProofKit
set_option linter.unusedVariables false
set_option linter.unusedSimpArgs false
namespace Go.Proofs.YtapkhdkbkodbjaaGreat
open Go Go.RowKit
theorem own:ownKnob Tryz.prog.godebug=none:=by kernel_rfl
theorem laidOut:laidOutB Tryz.prog=true:=by kernel_rfl
theorem spec_ok {H:Type}:∀ds:List (DataW H),ds.length=3→(Rows.rulePartsSpec.fn H ds).results=[.lit (.bool true)]∧(Rows.rulePartsSpec.fn H ds).args=ds∧(Rows.rulePartsSpec.fn H ds).vars=[]
 | [_,_,_],_=>⟨rfl,rfl,rfl⟩
set_option maxRecDepth 100000 in
theorem lifted (os:Os) (started:os.Started) (H:Type) (enc:TypeId×Value→H) :
  ReturnsInHanded {} Tryz.checked os 6 .any (Rows.rulePartsSpec.pre6 enc Tryz.prog Tryz.f6 Rows.rulePartsRow.domain false) (Rows.rulePartsSpec.post enc Tryz.prog Tryz.f6 false true false false):=by
 refine returnsInHanded_of_change_sized (C:=Tryz.checked) own started (by kernel_rfl) Tryz.func6
  (ChangeSpec.witness6 (enc:=enc) (C:=Tryz.checked) false ⟨#[],#[.slice none 0 0,.agg #[.string ⟨#[]⟩,.int .i64 0,.slice none 0 0],.int .i64 0],[]⟩ 8 (by kernel_rfl) (by kernel_rfl) (by kernel_rfl) (by kernel_rfl)) ?_
 intro W base args ds gs before hval hW _ hsz _
 exact Fw.A2s (P:=Tryz.prog) (fn:=Tryz.f6) Fw.A4F (fun _=>trivial) (fun _=>rfl) laidOut (by kernel_rfl) (by kernel_rfl) Tryz.underlying4 rfl (fun _ ds h=>spec_ok ds h) hval hW hsz
theorem proved:Rows.RulePartsSaid :=
 OpenClaim.holds_of_wide 6 Tryz.f6 rfl rfl rfl rfl rfl rfl rfl ⟨rfl,rfl,rfl,rfl,rfl⟩ rfl rfl rfl rfl rfl (by kernel_rfl) Tryz.func6 UW
  (of_decide_eq_true (by kernel_rfl)) (by unfold Func.isWrapper;first|(rw[if_pos (by decide +kernel)];kernel_rfl)|(rw[if_neg (by decide +kernel)];exact⟨rfl,rfl⟩))
  (fun os started H enc _=>lifted os started H enc)
end Go.Proofs.YtapkhdkbkodbjaaGreat

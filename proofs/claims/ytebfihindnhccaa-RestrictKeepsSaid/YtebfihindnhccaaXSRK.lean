/- RestrictKeeps: the given statement. -/
import Derived.Test.YtebfihindnhccaaYB
import Derived.Test.YtebfihindnhccaaZJ
import Derived.Test.YtebfihindnhccaaRows
import Derived.ProofKit
set_option linter.unusedVariables false
set_option linter.unusedSimpArgs false
namespace Go.Proofs.Ytebfihindnhccaa
open Go Go.RowKit
theorem own:ownKnob Try.prog.godebug=none:=by kernel_rfl
theorem laidOut:laidOutB Try.prog=true:=by kernel_rfl
theorem spec_ok {H:Type}:∀ ds:List (DataW H),ds.length=2→(Rows.restrictKeepsSpec.fn H ds).results=[.lit (.bool true)]∧(Rows.restrictKeepsSpec.fn H ds).args=ds∧(Rows.restrictKeepsSpec.fn H ds).vars=[]
 | [_,_],_=>⟨rfl,rfl,rfl⟩
set_option maxRecDepth 100000 in
theorem lifted (os:Os) (started:os.Started) (H:Type) (enc:TypeId×Value→H) :
  ReturnsInHanded {} Try.checked os 6 .any (Rows.restrictKeepsSpec.pre6 enc Try.prog Try.f6 Rows.restrictKeepsRow.domain false) (Rows.restrictKeepsSpec.post enc Try.prog Try.f6 false true false false):=by
 refine returnsInHanded_of_change_sized (C:=Try.checked) own started (by kernel_rfl) Try.func6
  (ChangeSpec.witness6 (enc:=enc) (C:=Try.checked) false ⟨#[],#[.agg #[.slice none 0 0],.slice none 0 0],[]⟩ 8 (by kernel_rfl) (by kernel_rfl) (by kernel_rfl) (by kernel_rfl)) ?_
 intro W base args ds gs before hval hW _ hsz _
 exact Fw.law_post (P:=Try.prog) (fn:=Try.f6) Fw.law7_ok (fun _=>trivial) (fun _=>rfl) laidOut (by kernel_rfl) (by kernel_rfl) Try.underlying4 rfl (fun _ ds h=>spec_ok ds h) hval hW hsz
theorem proved:Rows.RestrictKeepsSaid :=
 OpenClaim.holds_of_wide 6 Try.f6 rfl rfl rfl rfl rfl rfl rfl ⟨rfl,rfl,rfl,rfl,rfl⟩ rfl rfl rfl rfl rfl (by kernel_rfl) Try.func6 (by kernel_rfl)
  (of_decide_eq_true (by kernel_rfl)) (by unfold Func.isWrapper;first | (rw [if_pos (by decide +kernel)];kernel_rfl) | (rw [if_neg (by decide +kernel)];exact ⟨rfl,rfl⟩))
  (fun os started H enc _=>lifted os started H enc)
end Go.Proofs.Ytebfihindnhccaa

/- SemInverse: the given statement, as a tied card, with no condition. -/
import Derived.Test.YtddbnflakbngaaaGreatDoorFYD
import Derived.Test.YtddbnflakbngaaaGreatDoorXSSIc
import Derived.Test.YtddbnflakbngaaaGreatDoorXSGSId
import Derived.Test.YtddbnflakbngaaaGreatDoorFZJ
import Derived.Test.YtddbnflakbngaaaGreatDoorRows
import Derived.Test.YtddbnflakbngaaaGreatDoorCards
import Derived.Test.YtddbnflakbngaaaGreatDoorTie
import Derived.ProofKit
import Derived.SevenTiedAt
set_option linter.unusedVariables false
set_option linter.unusedSimpArgs false
namespace Go.Proofs.YtddbnflakbngaaaGreatDoor
open Go Go.RowKit
theorem own:ownKnob Tryz.prog.godebug=none:=by kernel_rfl
theorem laidOut:laidOutB Tryz.prog=true:=by kernel_rfl
theorem spec_ok {H:Type}:∀ds:List (DataW H),ds.length=2→(Rows.semInverseSpec.fn H ds).results=[.lit (.bool true)]∧(Rows.semInverseSpec.fn H ds).args=ds∧(Rows.semInverseSpec.fn H ds).vars=[]
 | [_,_],_=>⟨rfl,rfl,rfl⟩
set_option maxRecDepth 100000 in
theorem lifted (os:Os) (started:os.Started) (H:Type) (enc:TypeId×Value→H) :
  ReturnsInHanded {} Tryz.checked os 3 .any (fun w args=>(Rows.semInverseSpec.pre enc Tryz.prog Tryz.f3 [] false w args∧laidMetH Tryz.prog lU w)∧sizedMet enc Tryz.prog Tryz.f3 (OpenSpec.ofChange Rows.semInverseSpec) false w args) (Rows.semInverseSpec.post enc Tryz.prog Tryz.f3 false true false false):=by
 refine returnsInHanded_of_change_and (C:=Tryz.checked) (X:=fun w _=>laidMetH Tryz.prog lU w) (fun _ _ _ hh h=>h.of_heap hh) own started (by kernel_rfl) Tryz.func3
  (ChangeSpec.witness_shaped (enc:=enc) (C:=Tryz.checked) (os:=os) (X:=fun w _=>laidMetH Tryz.prog lU w) false (World.doorLaid Tryz.prog 400 os) #[.slice none 0 0,.agg #[.int .i64 0,.int .i64 0,.slice none 0 0,.slice none 0 0,.slice none 0 0]] 8 rfl (World.shaped_of_RefB (by kernel_rfl) (by kernel_rfl)) (by kernel_rfl) (by kernel_rfl) (by kernel_rfl) (A4v os _)) ?_
 intro W base args ds gs before hval hW _ hsz hL _
 exact Fw.A1B (P:=Tryz.prog) (fn:=Tryz.f3) Fw.A4u (fun _ _=>trivial) (fun _=>rfl) laidOut (by kernel_rfl) (by kernel_rfl) Tryz.underlying4 rfl (fun _ ds h=>spec_ok ds h) hval hW hsz (AC2 hL)
theorem A0c:Rows.SemInverseSaid :=
 OpenClaim.holds_of_wide 3 Tryz.f3 rfl rfl rfl rfl rfl rfl rfl ⟨rfl,rfl,rfl,rfl,rfl⟩ rfl rfl rfl rfl rfl (by kernel_rfl) Tryz.func3 S8
  (of_decide_eq_true (by kernel_rfl)) (by unfold Func.isWrapper;first|(rw[if_pos (by decide +kernel)];kernel_rfl)|(rw[if_neg (by decide +kernel)];exact⟨rfl,rfl⟩))
  (fun os started H enc _=>lifted os started H enc)
theorem proved:Rows.SemInverseCardSaid :=
 Claim7.holds_tied_plain_at .later [] [.data] true (true, "e8bbf35887da2d18862f43539b2949a1f4ba5a19bafdfcaaf8a6c7e14de85797") true
  A0c (fun _ h=>by cases h) (by kernel_rfl) (fun _ h=>by cases h) semInverse_row_tie rfl ⟨rfl,rfl⟩ (by kernel_rfl) rfl
  (fun f fn hf hfn=>by
   obtain rfl : f = 3 := Option.some.inj ((show Tryz.prog.funcNamed "grammarlab/grammarlablaw40.SemInverse" = some 3 by kernel_rfl).symm.trans hf) |>.symm
   obtain rfl:fn=Tryz.f3:=(Option.some.inj (Tryz.func3.symm.trans hfn)).symm
   exact⟨by kernel_rfl,fun j t ht=>by
    have hall:(Tryz.f3.params.toList.all fun u=>!Tryz.prog.wantsStandIn u)=true:=by kernel_rfl
    have hm:t∈Tryz.f3.params.toList:=Array.mem_toList_iff.2 (Array.mem_of_getElem? ht)
    exact(show Tryz.prog.wantsStandIn t=false by simpa using List.all_eq_true.1 hall t hm)⟩)
  (by kernel_rfl)
end Go.Proofs.YtddbnflakbngaaaGreatDoor

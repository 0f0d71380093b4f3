/- SemSpecific: the given statement, as a tied card, with no condition. -/
import Derived.Test.YtglkoagnnnpimaaGreatDoorCYC
import Derived.Test.YtglkoagnnnpimaaGreatDoorXSSPc
import Derived.Test.YtglkoagnnnpimaaGreatDoorXSGSPd
import Derived.Test.YtglkoagnnnpimaaGreatDoorCZJ
import Derived.Test.YtglkoagnnnpimaaGreatDoorRows
import Derived.Test.YtglkoagnnnpimaaGreatDoorCards
import Derived.Test.YtglkoagnnnpimaaGreatDoorTie
import Derived.ProofKit
import Derived.SevenTiedAt
set_option linter.unusedVariables false
set_option linter.unusedSimpArgs false
namespace Go.Proofs.YtglkoagnnnpimaaGreatDoor
open Go Go.RowKit
theorem own:ownKnob Tryz.prog.godebug=none:=by kernel_rfl
theorem laidOut:laidOutB Tryz.prog=true:=by kernel_rfl
theorem spec_ok {H:Type}:∀ds:List (DataW H),ds.length=2→(Rows.semSpecificSpec.fn H ds).results=[.lit (.bool true)]∧(Rows.semSpecificSpec.fn H ds).args=ds∧(Rows.semSpecificSpec.fn H ds).vars=[]
 | [_,_],_=>⟨rfl,rfl,rfl⟩
set_option maxRecDepth 100000 in
theorem lifted (os:Os) (started:os.Started) (H:Type) (enc:TypeId×Value→H) :
  ReturnsInHanded {} Tryz.checked os 8 .any (fun w args=>(Rows.semSpecificSpec.pre enc Tryz.prog Tryz.f8 [] false w args∧laidMetH Tryz.prog i5 w)∧sizedMet enc Tryz.prog Tryz.f8 (OpenSpec.ofChange Rows.semSpecificSpec) false w args) (Rows.semSpecificSpec.post enc Tryz.prog Tryz.f8 false true false false):=by
 refine returnsInHanded_of_change_and (C:=Tryz.checked) (X:=fun w _=>laidMetH Tryz.prog i5 w) (fun _ _ _ hh h=>h.of_heap hh) own started (by kernel_rfl) Tryz.func8
  (ChangeSpec.witness_shaped (enc:=enc) (C:=Tryz.checked) (os:=os) (X:=fun w _=>laidMetH Tryz.prog i5 w) false (World.doorLaid Tryz.prog 400 os) #[.slice none 0 0,.agg #[.int .i64 0,.int .i64 0,.slice none 0 0,.slice none 0 0,.slice none 0 0]] 8 rfl (World.shaped_of_RefB (by kernel_rfl) (by kernel_rfl)) (by kernel_rfl) (by kernel_rfl) (by kernel_rfl) (A2D os _)) ?_
 intro W base args ds gs before hval hW _ hsz hL _
 exact Fw.z9 (P:=Tryz.prog) (fn:=Tryz.f8) Fw.A2C (fun _ _=>trivial) (fun _=>rfl) laidOut (by kernel_rfl) (by kernel_rfl) Tryz.underlying4 rfl (fun _ ds h=>spec_ok ds h) hval hW hsz (A9I hL)
theorem wH:Rows.SemSpecificSaid :=
 OpenClaim.holds_of_wide 8 Tryz.f8 rfl rfl rfl rfl rfl rfl rfl ⟨rfl,rfl,rfl,rfl,rfl⟩ rfl rfl rfl rfl rfl (by kernel_rfl) Tryz.func8 QO
  (of_decide_eq_true (by kernel_rfl)) (by unfold Func.isWrapper;first|(rw[if_pos (by decide +kernel)];kernel_rfl)|(rw[if_neg (by decide +kernel)];exact⟨rfl,rfl⟩))
  (fun os started H enc _=>lifted os started H enc)
theorem proved:Rows.SemSpecificCardSaid :=
 Claim7.holds_tied_plain_at .later [] [.data] true (true, "6d395a6a8a58a859634d323bcb4d754400624c3ff8590b077a954198c4aa0dac") true
  wH (fun _ h=>by cases h) (by kernel_rfl) (fun _ h=>by cases h) semSpecific_row_tie rfl ⟨rfl,rfl⟩ (by kernel_rfl) rfl
  (fun f fn hf hfn=>by
   obtain rfl : f = 8 := Option.some.inj ((show Tryz.prog.funcNamed "grammarlab/grammarlablaw40.SemSpecific" = some 8 by kernel_rfl).symm.trans hf) |>.symm
   obtain rfl:fn=Tryz.f8:=(Option.some.inj (Tryz.func8.symm.trans hfn)).symm
   exact⟨by kernel_rfl,fun j t ht=>by
    have hall:(Tryz.f8.params.toList.all fun u=>!Tryz.prog.wantsStandIn u)=true:=by kernel_rfl
    have hm:t∈Tryz.f8.params.toList:=Array.mem_toList_iff.2 (Array.mem_of_getElem? ht)
    exact(show Tryz.prog.wantsStandIn t=false by simpa using List.all_eq_true.1 hall t hm)⟩)
  (by kernel_rfl)
end Go.Proofs.YtglkoagnnnpimaaGreatDoor

/- TopCodes: the given statement, as a tied card, with no condition. -/
import Derived.Test.YtaoonfcjbmcmpaaGreatDoorFYD
import Derived.Test.YtaoonfcjbmcmpaaGreatDoorXSTDc
import Derived.Test.YtaoonfcjbmcmpaaGreatDoorXSGTDd
import Derived.Test.YtaoonfcjbmcmpaaGreatDoorFZJ
import Derived.Test.YtaoonfcjbmcmpaaGreatDoorRows
import Derived.Test.YtaoonfcjbmcmpaaGreatDoorCards
import Derived.Test.YtaoonfcjbmcmpaaGreatDoorTie
import Derived.ProofKit
import Derived.SevenTiedAt
set_option linter.unusedVariables false
set_option linter.unusedSimpArgs false
namespace Go.Proofs.YtaoonfcjbmcmpaaGreatDoor
open Go Go.RowKit
theorem own:ownKnob Tryz.prog.godebug=none:=by kernel_rfl
theorem laidOut:laidOutB Tryz.prog=true:=by kernel_rfl
theorem spec_ok {H:Type}:∀ds:List (DataW H),ds.length=1→(Rows.topCodesSpec.fn H ds).results=[.lit (.bool true)]∧(Rows.topCodesSpec.fn H ds).args=ds∧(Rows.topCodesSpec.fn H ds).vars=[]
 | [_],_=>⟨rfl,rfl,rfl⟩
set_option maxRecDepth 100000 in
theorem lifted (os:Os) (started:os.Started) (H:Type) (enc:TypeId×Value→H) :
  ReturnsInHanded {} Tryz.checked os 3 .any (fun w args=>(Rows.topCodesSpec.pre enc Tryz.prog Tryz.f3 [] false w args∧laidMetH Tryz.prog YT w)∧sizedMet enc Tryz.prog Tryz.f3 (OpenSpec.ofChange Rows.topCodesSpec) false w args) (Rows.topCodesSpec.post enc Tryz.prog Tryz.f3 false true false false):=by
 refine returnsInHanded_of_change_and (C:=Tryz.checked) (X:=fun w _=>laidMetH Tryz.prog YT w) (fun _ _ _ hh h=>h.of_heap hh) own started (by kernel_rfl) Tryz.func3
  (ChangeSpec.witness_shaped (enc:=enc) (C:=Tryz.checked) (os:=os) (X:=fun w _=>laidMetH Tryz.prog YT w) false (World.doorLaid Tryz.prog 400 os) #[.slice none 0 0] 8 rfl (World.shaped_of_RefB (by kernel_rfl) (by kernel_rfl)) (by kernel_rfl) (by kernel_rfl) (by kernel_rfl) (p7 os _)) ?_
 intro W base args ds gs before hval hW _ hsz hL _
 exact Fw.l8 (P:=Tryz.prog) (fn:=Tryz.f3) Fw.p6 (fun _ _=>trivial) (fun _=>rfl) laidOut (by kernel_rfl) (by kernel_rfl) Tryz.underlying4 rfl (fun _ ds h=>spec_ok ds h) hval hW hsz (A0Z hL)
theorem jM:Rows.TopCodesSaid :=
 OpenClaim.holds_of_wide 3 Tryz.f3 rfl rfl rfl rfl rfl rfl rfl ⟨rfl,rfl,rfl,rfl,rfl⟩ rfl rfl rfl rfl rfl (by kernel_rfl) Tryz.func3 ST
  (of_decide_eq_true (by kernel_rfl)) (by unfold Func.isWrapper;first|(rw[if_pos (by decide +kernel)];kernel_rfl)|(rw[if_neg (by decide +kernel)];exact⟨rfl,rfl⟩))
  (fun os started H enc _=>lifted os started H enc)
theorem proved:Rows.TopCodesCardSaid :=
 Claim7.holds_tied_plain_at .later [] [.data] true (true, "74aa471eecf397c219268a4dfdffad8685e76dad7a34c53820954a82cbf5e5ca") false
  jM (fun _ h=>by cases h) (by kernel_rfl) (fun _ h=>by cases h) topCodes_row_tie rfl ⟨rfl,rfl⟩ (by kernel_rfl) rfl
  (fun f fn hf hfn=>by
   obtain rfl : f = 3 := Option.some.inj ((show Tryz.prog.funcNamed "grammarlab/grammarlabtop.TopCodes" = some 3 by kernel_rfl).symm.trans hf) |>.symm
   obtain rfl:fn=Tryz.f3:=(Option.some.inj (Tryz.func3.symm.trans hfn)).symm
   exact⟨by kernel_rfl,fun j t ht=>by
    have hall:(Tryz.f3.params.toList.all fun u=>!Tryz.prog.wantsStandIn u)=true:=by kernel_rfl
    have hm:t∈Tryz.f3.params.toList:=Array.mem_toList_iff.2 (Array.mem_of_getElem? ht)
    exact(show Tryz.prog.wantsStandIn t=false by simpa using List.all_eq_true.1 hall t hm)⟩)
  (by kernel_rfl)
end Go.Proofs.YtaoonfcjbmcmpaaGreatDoor

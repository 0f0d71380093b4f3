/- SemLocal: the given statement, as a tied card, with no condition. -/
import Derived.Test.YtglkoagnnnpimaaGreatDoorEYC
import Derived.Test.YtglkoagnnnpimaaGreatDoorXSSLc
import Derived.Test.YtglkoagnnnpimaaGreatDoorXSGSLd
import Derived.Test.YtglkoagnnnpimaaGreatDoorEZJ
import Derived.Test.YtglkoagnnnpimaaGreatDoorRows
import Derived.Test.YtglkoagnnnpimaaGreatDoorCards
import Derived.Test.YtglkoagnnnpimaaGreatDoorTie
import Derived.ProofKit
import Derived.SevenTiedAt
set_option linter.unusedVariables false
set_option linter.unusedSimpArgs false
namespace Go.Proofs.YtglkoagnnnpimaaGreatDoor
open Go Go.RowKit
theorem own:ownKnob Tryz.prog.godebug=none:=by kernel_rfl
theorem laidOut:laidOutB Tryz.prog=true:=by kernel_rfl
theorem spec_ok {H:Type}:∀ds:List (DataW H),ds.length=2→(Rows.semLocalSpec.fn H ds).results=[.lit (.bool true)]∧(Rows.semLocalSpec.fn H ds).args=ds∧(Rows.semLocalSpec.fn H ds).vars=[]
 | [_,_],_=>⟨rfl,rfl,rfl⟩
set_option maxRecDepth 100000 in
theorem lifted (os:Os) (started:os.Started) (H:Type) (enc:TypeId×Value→H) :
  ReturnsInHanded {} Tryz.checked os 7 .any (fun w args=>(Rows.semLocalSpec.pre enc Tryz.prog Tryz.f7 [] false w args∧laidMetH Tryz.prog jA w)∧sizedMet enc Tryz.prog Tryz.f7 (OpenSpec.ofChange Rows.semLocalSpec) false w args) (Rows.semLocalSpec.post enc Tryz.prog Tryz.f7 false true false false):=by
 refine returnsInHanded_of_change_and (C:=Tryz.checked) (X:=fun w _=>laidMetH Tryz.prog jA w) (fun _ _ _ hh h=>h.of_heap hh) own started (by kernel_rfl) Tryz.func7
  (ChangeSpec.witness_shaped (enc:=enc) (C:=Tryz.checked) (os:=os) (X:=fun w _=>laidMetH Tryz.prog jA w) false (World.doorLaid Tryz.prog 400 os) #[.slice none 0 0,.agg #[.slice none 0 0]] 8 rfl (World.shaped_of_RefB (by kernel_rfl) (by kernel_rfl)) (by kernel_rfl) (by kernel_rfl) (by kernel_rfl) (A2Z os _)) ?_
 intro W base args ds gs before hval hW _ hsz hL _
 exact Fw.A01 (P:=Tryz.prog) (fn:=Tryz.f7) Fw.A2Y (fun ds h=>Fw.szB ds h) (fun _=>rfl) laidOut (by kernel_rfl) (by kernel_rfl) Tryz.underlying4 rfl (fun _ ds h=>spec_ok ds h) hval hW hsz (AAd hL)
theorem wL:Rows.SemLocalSaid :=
 OpenClaim.holds_of_wide 7 Tryz.f7 rfl rfl rfl rfl rfl rfl rfl ⟨rfl,rfl,rfl,rfl,rfl⟩ rfl rfl rfl rfl rfl (by kernel_rfl) Tryz.func7 Wx
  (of_decide_eq_true (by kernel_rfl)) (by unfold Func.isWrapper;first|(rw[if_pos (by decide +kernel)];kernel_rfl)|(rw[if_neg (by decide +kernel)];exact⟨rfl,rfl⟩))
  (fun os started H enc _=>lifted os started H enc)
theorem proved:Rows.SemLocalCardSaid :=
 Claim7.holds_tied_plain_at .later [] [.data] true (true, "6d395a6a8a58a859634d323bcb4d754400624c3ff8590b077a954198c4aa0dac") true
  wL (fun _ h=>by cases h) (by kernel_rfl) (fun _ h=>by cases h) semLocal_row_tie rfl ⟨rfl,rfl⟩ (by kernel_rfl) rfl
  (fun f fn hf hfn=>by
   obtain rfl : f = 7 := Option.some.inj ((show Tryz.prog.funcNamed "grammarlab/grammarlablaw40.SemLocal" = some 7 by kernel_rfl).symm.trans hf) |>.symm
   obtain rfl:fn=Tryz.f7:=(Option.some.inj (Tryz.func7.symm.trans hfn)).symm
   exact⟨by kernel_rfl,fun j t ht=>by
    have hall:(Tryz.f7.params.toList.all fun u=>!Tryz.prog.wantsStandIn u)=true:=by kernel_rfl
    have hm:t∈Tryz.f7.params.toList:=Array.mem_toList_iff.2 (Array.mem_of_getElem? ht)
    exact(show Tryz.prog.wantsStandIn t=false by simpa using List.all_eq_true.1 hall t hm)⟩)
  (by kernel_rfl)
end Go.Proofs.YtglkoagnnnpimaaGreatDoor

/- What the statement ListUnifies asks of the program's text, shown by the kernel. -/
import Derived.Test.YtapkhdkbkodbjaaGreatXSLU2d
import Derived.Test.YtapkhdkbkodbjaaGreatRows
import Derived.ProofKit
set_option linter.unusedVariables false
set_option linter.unusedSimpArgs false
namespace Go.Proofs.YtapkhdkbkodbjaaGreat
open Go Go.RowKit
theorem Sx:(Rows.listUnifiesRow.wf (OpenSpec.ofChange Rows.listUnifiesSpec))=true:=by kernel_rfl
theorem Sy:(laidOutB Tryz.pinned.checked.prog)=true:=by kernel_rfl
theorem Sz:(mapsRowed Tryz.pinned.checked.prog)=true:=by kernel_rfl
theorem S0:(Tryz.f15.params.all (Tryz.pinned.checked.prog.readableRec ·))=true:=by kernel_rfl
theorem S1:(namedTie Tryz.pinned.checked.prog Rows.listUnifiesRow.named Rows.listUnifiesSpec.vars)=true:=by kernel_rfl
theorem S2:(Rows.listUnifiesRow.stops == [])=true:=by kernel_rfl
theorem S3:(Rows.listUnifiesRow.knobs == [])=true:=by kernel_rfl
theorem S4:(Tryz.pinned.checked.prog.stopKnobs == [])=true:=by kernel_rfl
theorem S5:(Rows.listUnifiesRow.inPlace==Tryz.pinned.checked.prog.inPlace 15)=true:=by kernel_rfl
theorem RG:(Rows.listUnifiesRow.unfollowed==Tryz.pinned.checked.prog.unfollowed 15)=true:=by kernel_rfl
theorem RH:(Rows.listUnifiesRow.recurses==Tryz.pinned.checked.prog.recurses 15)=true:=by kernel_rfl
theorem RI:(Rows.listUnifiesRow.named==Tryz.pinned.checked.prog.varsNamed 15)=true:=by kernel_rfl
theorem RJ:(Rows.listUnifiesRow.maps==(Tryz.f15.params.toList++Rows.listUnifiesSpec.plain.varTypes Tryz.pinned.checked.prog).any (Tryz.pinned.checked.prog.mapsRec ·))=true:=by kernel_rfl
theorem RK:(Rows.listUnifiesRow.ifaces==(Tryz.f15.params.toList++Rows.listUnifiesSpec.plain.varTypes Tryz.pinned.checked.prog).any (Tryz.pinned.checked.prog.ifacesRec ·))=true:=by kernel_rfl
theorem RL:(Rows.listUnifiesRow.mapsOut==Tryz.pinned.checked.prog.mapsAmong Tryz.f15.resultTypes.toList)=true:=by kernel_rfl
theorem RM:(Rows.listUnifiesRow.loops==(Tryz.f15.params.toList++Rows.listUnifiesSpec.plain.varTypes Tryz.pinned.checked.prog).any (Tryz.pinned.checked.prog.loopsFrom ·))=true:=by kernel_rfl
theorem RN:(Rows.listUnifiesRow.wideKeys==(Tryz.f15.params.toList++Rows.listUnifiesSpec.plain.varTypes Tryz.pinned.checked.prog++Tryz.f15.resultTypes.toList).any (Tryz.pinned.checked.prog.wideKeysFrom ·))=true:=by kernel_rfl
theorem RP:(Rows.listUnifiesSpec.vars.all (Tryz.pinned.checked.prog.varReadable ·))=true:=by kernel_rfl
theorem RQ:(Tryz.f15.resultTypes.all (fun t=>Tryz.pinned.checked.prog.readableRec t&&decide (t<Tryz.pinned.checked.prog.types.size)))=true:=by kernel_rfl
theorem RR:(Rows.listUnifiesRow.ifacesOut==Tryz.f15.resultTypes.toList.any (Tryz.pinned.checked.prog.ifacesRec ·))=true:=by kernel_rfl
theorem RS:(Rows.listUnifiesRow.loopsOut==Tryz.f15.resultTypes.toList.any (Tryz.pinned.checked.prog.loopsFrom ·))=true:=by kernel_rfl
theorem RT:(Rows.listUnifiesRow.plainKeys==Tryz.pinned.checked.prog.plainKeys)=true:=by kernel_rfl
theorem RU:(Rows.listUnifiesRow.shortTexts.isNone)=true:=by kernel_rfl
theorem RW:(Rows.listUnifiesRow.kinds==(if Rows.listUnifiesRow.domain.isEmpty then [] else Tryz.f15.params.toList.map fun t=>match Tryz.pinned.checked.prog.underlying t with|some (.int k)=>some k|_=>none))=true:=by kernel_rfl
theorem RY:(Rows.listUnifiesRow.pinned==Rows.listUnifiesRow.pinnedBy)=true:=by kernel_rfl
theorem RZ:(Rows.listUnifiesRow.veiled==(Tryz.f15.params.toList++Rows.listUnifiesSpec.plain.varTypes Tryz.pinned.checked.prog++Tryz.f15.resultTypes.toList).any (Tryz.pinned.checked.prog.veiledRec ·))=true:=by kernel_rfl
theorem Ra:(Rows.listUnifiesRow.veiledFits Tryz.pinned.checked.prog Tryz.f15.params.toList (Tryz.f15.params.toList++Rows.listUnifiesSpec.plain.varTypes Tryz.pinned.checked.prog++Tryz.f15.resultTypes.toList))=true:=by kernel_rfl
set_option maxRecDepth 100000
theorem FT {a b:Bool} (ha:a=true) (hb:b=true):(a&&b)=true:=by rw[ha,hb];rfl
theorem Rb:joinedFacts Tryz.pinned.checked.prog 15 Tryz.f15 Rows.listUnifiesSpec Rows.listUnifiesRow=true :=
 FT (FT (FT (FT (FT (FT (FT (FT (FT (FT (FT (FT (FT (FT (FT (FT (FT (FT (FT (FT (FT (FT (FT (FT (FT (FT (FT (FT (FT (FT (FT (Sx) Sy) Sz) S0) S1) S2) Sw) S3) S4) S5) RG) RH) RI) RJ) RK) RL) RM) RN) RP) RQ) RR) RS) RT) RU) RC) RD) RE) RF) RW) RY) RZ) Ra
end Go.Proofs.YtapkhdkbkodbjaaGreat

/- What the statement ListConcat asks of the program's text, shown by the kernel. -/
import Derived.Test.YtapkhdkbkodbjaaGreatXSLC2d
import Derived.Test.YtapkhdkbkodbjaaGreatRows
import Derived.ProofKit
set_option linter.unusedVariables false
set_option linter.unusedSimpArgs false
namespace Go.Proofs.YtapkhdkbkodbjaaGreat
open Go Go.RowKit
theorem UJ:(Rows.listConcatRow.wf (OpenSpec.ofChange Rows.listConcatSpec))=true:=by kernel_rfl
theorem UK:(laidOutB Tryz.pinned.checked.prog)=true:=by kernel_rfl
theorem UL:(mapsRowed Tryz.pinned.checked.prog)=true:=by kernel_rfl
theorem UM:(Tryz.f11.params.all (Tryz.pinned.checked.prog.readableRec ·))=true:=by kernel_rfl
theorem UN:(namedTie Tryz.pinned.checked.prog Rows.listConcatRow.named Rows.listConcatSpec.vars)=true:=by kernel_rfl
theorem UO:(Rows.listConcatRow.stops == [])=true:=by kernel_rfl
theorem UP:(Rows.listConcatRow.knobs == [])=true:=by kernel_rfl
theorem UQ:(Tryz.pinned.checked.prog.stopKnobs == [])=true:=by kernel_rfl
theorem UR:(Rows.listConcatRow.inPlace==Tryz.pinned.checked.prog.inPlace 11)=true:=by kernel_rfl
theorem SV:(Rows.listConcatRow.unfollowed==Tryz.pinned.checked.prog.unfollowed 11)=true:=by kernel_rfl
theorem SW:(Rows.listConcatRow.recurses==Tryz.pinned.checked.prog.recurses 11)=true:=by kernel_rfl
theorem SX:(Rows.listConcatRow.named==Tryz.pinned.checked.prog.varsNamed 11)=true:=by kernel_rfl
theorem SY:(Rows.listConcatRow.maps==(Tryz.f11.params.toList++Rows.listConcatSpec.plain.varTypes Tryz.pinned.checked.prog).any (Tryz.pinned.checked.prog.mapsRec ·))=true:=by kernel_rfl
theorem SZ:(Rows.listConcatRow.ifaces==(Tryz.f11.params.toList++Rows.listConcatSpec.plain.varTypes Tryz.pinned.checked.prog).any (Tryz.pinned.checked.prog.ifacesRec ·))=true:=by kernel_rfl
theorem Sa:(Rows.listConcatRow.mapsOut==Tryz.pinned.checked.prog.mapsAmong Tryz.f11.resultTypes.toList)=true:=by kernel_rfl
theorem Sb:(Rows.listConcatRow.loops==(Tryz.f11.params.toList++Rows.listConcatSpec.plain.varTypes Tryz.pinned.checked.prog).any (Tryz.pinned.checked.prog.loopsFrom ·))=true:=by kernel_rfl
theorem Sc:(Rows.listConcatRow.wideKeys==(Tryz.f11.params.toList++Rows.listConcatSpec.plain.varTypes Tryz.pinned.checked.prog++Tryz.f11.resultTypes.toList).any (Tryz.pinned.checked.prog.wideKeysFrom ·))=true:=by kernel_rfl
theorem Sd:(Rows.listConcatSpec.vars.all (Tryz.pinned.checked.prog.varReadable ·))=true:=by kernel_rfl
theorem Se:(Tryz.f11.resultTypes.all (fun t=>Tryz.pinned.checked.prog.readableRec t&&decide (t<Tryz.pinned.checked.prog.types.size)))=true:=by kernel_rfl
theorem Sf:(Rows.listConcatRow.ifacesOut==Tryz.f11.resultTypes.toList.any (Tryz.pinned.checked.prog.ifacesRec ·))=true:=by kernel_rfl
theorem Sg:(Rows.listConcatRow.loopsOut==Tryz.f11.resultTypes.toList.any (Tryz.pinned.checked.prog.loopsFrom ·))=true:=by kernel_rfl
theorem Sh:(Rows.listConcatRow.plainKeys==Tryz.pinned.checked.prog.plainKeys)=true:=by kernel_rfl
theorem Si:(Rows.listConcatRow.shortTexts.isNone)=true:=by kernel_rfl
theorem Sj:(Rows.listConcatRow.kinds==(if Rows.listConcatRow.domain.isEmpty then [] else Tryz.f11.params.toList.map fun t=>match Tryz.pinned.checked.prog.underlying t with|some (.int k)=>some k|_=>none))=true:=by kernel_rfl
theorem Sk:(Rows.listConcatRow.pinned==Rows.listConcatRow.pinnedBy)=true:=by kernel_rfl
theorem Sl:(Rows.listConcatRow.veiled==(Tryz.f11.params.toList++Rows.listConcatSpec.plain.varTypes Tryz.pinned.checked.prog++Tryz.f11.resultTypes.toList).any (Tryz.pinned.checked.prog.veiledRec ·))=true:=by kernel_rfl
theorem Sm:(Rows.listConcatRow.veiledFits Tryz.pinned.checked.prog Tryz.f11.params.toList (Tryz.f11.params.toList++Rows.listConcatSpec.plain.varTypes Tryz.pinned.checked.prog++Tryz.f11.resultTypes.toList))=true:=by kernel_rfl
set_option maxRecDepth 100000
theorem Y1 {a b:Bool} (ha:a=true) (hb:b=true):(a&&b)=true:=by rw[ha,hb];rfl
theorem Sn:joinedFacts Tryz.pinned.checked.prog 11 Tryz.f11 Rows.listConcatSpec Rows.listConcatRow=true :=
 Y1 (Y1 (Y1 (Y1 (Y1 (Y1 (Y1 (Y1 (Y1 (Y1 (Y1 (Y1 (Y1 (Y1 (Y1 (Y1 (Y1 (Y1 (Y1 (Y1 (Y1 (Y1 (Y1 (Y1 (Y1 (Y1 (Y1 (Y1 (Y1 (Y1 (Y1 (UJ) UK) UL) UM) UN) UO) UI) UP) UQ) UR) SV) SW) SX) SY) SZ) Sa) Sb) Sc) Sd) Se) Sf) Sg) Sh) Si) SQ) SR) ST) SU) Sj) Sk) Sl) Sm
end Go.Proofs.YtapkhdkbkodbjaaGreat

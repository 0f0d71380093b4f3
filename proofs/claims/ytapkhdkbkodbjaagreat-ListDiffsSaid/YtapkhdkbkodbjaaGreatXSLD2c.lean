/- What the statement ListDiffs asks of the program's text, shown by the kernel. -/
import Derived.Test.YtapkhdkbkodbjaaGreatXSLD2d
import Derived.Test.YtapkhdkbkodbjaaGreatRows
import Derived.ProofKit
set_option linter.unusedVariables false
set_option linter.unusedSimpArgs false
namespace Go.Proofs.YtapkhdkbkodbjaaGreat
open Go Go.RowKit
theorem Yj:(Rows.listDiffsRow.wf (OpenSpec.ofChange Rows.listDiffsSpec))=true:=by kernel_rfl
theorem Yk:(laidOutB Tryz.pinned.checked.prog)=true:=by kernel_rfl
theorem Yl:(mapsRowed Tryz.pinned.checked.prog)=true:=by kernel_rfl
theorem Ym:(Tryz.f9.params.all (Tryz.pinned.checked.prog.readableRec ·))=true:=by kernel_rfl
theorem Yn:(namedTie Tryz.pinned.checked.prog Rows.listDiffsRow.named Rows.listDiffsSpec.vars)=true:=by kernel_rfl
theorem Yo:(Rows.listDiffsRow.stops == [])=true:=by kernel_rfl
theorem Yp:(Rows.listDiffsRow.knobs == [])=true:=by kernel_rfl
theorem Yq:(Tryz.pinned.checked.prog.stopKnobs == [])=true:=by kernel_rfl
theorem Yr:(Rows.listDiffsRow.inPlace==Tryz.pinned.checked.prog.inPlace 9)=true:=by kernel_rfl
theorem UM:(Rows.listDiffsRow.unfollowed==Tryz.pinned.checked.prog.unfollowed 9)=true:=by kernel_rfl
theorem UN:(Rows.listDiffsRow.recurses==Tryz.pinned.checked.prog.recurses 9)=true:=by kernel_rfl
theorem UO:(Rows.listDiffsRow.named==Tryz.pinned.checked.prog.varsNamed 9)=true:=by kernel_rfl
theorem UP:(Rows.listDiffsRow.maps==(Tryz.f9.params.toList++Rows.listDiffsSpec.plain.varTypes Tryz.pinned.checked.prog).any (Tryz.pinned.checked.prog.mapsRec ·))=true:=by kernel_rfl
theorem UQ:(Rows.listDiffsRow.ifaces==(Tryz.f9.params.toList++Rows.listDiffsSpec.plain.varTypes Tryz.pinned.checked.prog).any (Tryz.pinned.checked.prog.ifacesRec ·))=true:=by kernel_rfl
theorem UR:(Rows.listDiffsRow.mapsOut==Tryz.pinned.checked.prog.mapsAmong Tryz.f9.resultTypes.toList)=true:=by kernel_rfl
theorem US:(Rows.listDiffsRow.loops==(Tryz.f9.params.toList++Rows.listDiffsSpec.plain.varTypes Tryz.pinned.checked.prog).any (Tryz.pinned.checked.prog.loopsFrom ·))=true:=by kernel_rfl
theorem UT:(Rows.listDiffsRow.wideKeys==(Tryz.f9.params.toList++Rows.listDiffsSpec.plain.varTypes Tryz.pinned.checked.prog++Tryz.f9.resultTypes.toList).any (Tryz.pinned.checked.prog.wideKeysFrom ·))=true:=by kernel_rfl
theorem UU:(Rows.listDiffsSpec.vars.all (Tryz.pinned.checked.prog.varReadable ·))=true:=by kernel_rfl
theorem UV:(Tryz.f9.resultTypes.all (fun t=>Tryz.pinned.checked.prog.readableRec t&&decide (t<Tryz.pinned.checked.prog.types.size)))=true:=by kernel_rfl
theorem UW:(Rows.listDiffsRow.ifacesOut==Tryz.f9.resultTypes.toList.any (Tryz.pinned.checked.prog.ifacesRec ·))=true:=by kernel_rfl
theorem UX:(Rows.listDiffsRow.loopsOut==Tryz.f9.resultTypes.toList.any (Tryz.pinned.checked.prog.loopsFrom ·))=true:=by kernel_rfl
theorem UY:(Rows.listDiffsRow.plainKeys==Tryz.pinned.checked.prog.plainKeys)=true:=by kernel_rfl
theorem UZ:(Rows.listDiffsRow.shortTexts.isNone)=true:=by kernel_rfl
theorem Ua:(Rows.listDiffsRow.kinds==(if Rows.listDiffsRow.domain.isEmpty then [] else Tryz.f9.params.toList.map fun t=>match Tryz.pinned.checked.prog.underlying t with|some (.int k)=>some k|_=>none))=true:=by kernel_rfl
theorem Ub:(Rows.listDiffsRow.pinned==Rows.listDiffsRow.pinnedBy)=true:=by kernel_rfl
theorem Uc:(Rows.listDiffsRow.veiled==(Tryz.f9.params.toList++Rows.listDiffsSpec.plain.varTypes Tryz.pinned.checked.prog++Tryz.f9.resultTypes.toList).any (Tryz.pinned.checked.prog.veiledRec ·))=true:=by kernel_rfl
theorem Ud:(Rows.listDiffsRow.veiledFits Tryz.pinned.checked.prog Tryz.f9.params.toList (Tryz.f9.params.toList++Rows.listDiffsSpec.plain.varTypes Tryz.pinned.checked.prog++Tryz.f9.resultTypes.toList))=true:=by kernel_rfl
set_option maxRecDepth 100000
theorem A0 {a b:Bool} (ha:a=true) (hb:b=true):(a&&b)=true:=by rw[ha,hb];rfl
theorem Ue:joinedFacts Tryz.pinned.checked.prog 9 Tryz.f9 Rows.listDiffsSpec Rows.listDiffsRow=true :=
 A0 (A0 (A0 (A0 (A0 (A0 (A0 (A0 (A0 (A0 (A0 (A0 (A0 (A0 (A0 (A0 (A0 (A0 (A0 (A0 (A0 (A0 (A0 (A0 (A0 (A0 (A0 (A0 (A0 (A0 (A0 (Yj) Yk) Yl) Ym) Yn) Yo) Yi) Yp) Yq) Yr) UM) UN) UO) UP) UQ) UR) US) UT) UU) UV) UW) UX) UY) UZ) UI) UJ) UK) UL) Ua) Ub) Uc) Ud
end Go.Proofs.YtapkhdkbkodbjaaGreat

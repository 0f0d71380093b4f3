/- What the statement ListMakes asks of the program's text, shown by the kernel. -/
import Derived.Test.YtapkhdkbkodbjaaGreatXSLM2d
import Derived.Test.YtapkhdkbkodbjaaGreatRows
import Derived.ProofKit
set_option linter.unusedVariables false
set_option linter.unusedSimpArgs false
namespace Go.Proofs.YtapkhdkbkodbjaaGreat
open Go Go.RowKit
theorem YS:(Rows.listMakesRow.wf (OpenSpec.ofChange Rows.listMakesSpec))=true:=by kernel_rfl
theorem YT:(laidOutB Tryz.pinned.checked.prog)=true:=by kernel_rfl
theorem YU:(mapsRowed Tryz.pinned.checked.prog)=true:=by kernel_rfl
theorem YV:(Tryz.f12.params.all (Tryz.pinned.checked.prog.readableRec ·))=true:=by kernel_rfl
theorem YW:(namedTie Tryz.pinned.checked.prog Rows.listMakesRow.named Rows.listMakesSpec.vars)=true:=by kernel_rfl
theorem YX:(Rows.listMakesRow.stops == [])=true:=by kernel_rfl
theorem YY:(Rows.listMakesRow.knobs == [])=true:=by kernel_rfl
theorem YZ:(Tryz.pinned.checked.prog.stopKnobs == [])=true:=by kernel_rfl
theorem Ya:(Rows.listMakesRow.inPlace==Tryz.pinned.checked.prog.inPlace 12)=true:=by kernel_rfl
theorem UP:(Rows.listMakesRow.unfollowed==Tryz.pinned.checked.prog.unfollowed 12)=true:=by kernel_rfl
theorem UQ:(Rows.listMakesRow.recurses==Tryz.pinned.checked.prog.recurses 12)=true:=by kernel_rfl
theorem UR:(Rows.listMakesRow.named==Tryz.pinned.checked.prog.varsNamed 12)=true:=by kernel_rfl
theorem US:(Rows.listMakesRow.maps==(Tryz.f12.params.toList++Rows.listMakesSpec.plain.varTypes Tryz.pinned.checked.prog).any (Tryz.pinned.checked.prog.mapsRec ·))=true:=by kernel_rfl
theorem UT:(Rows.listMakesRow.ifaces==(Tryz.f12.params.toList++Rows.listMakesSpec.plain.varTypes Tryz.pinned.checked.prog).any (Tryz.pinned.checked.prog.ifacesRec ·))=true:=by kernel_rfl
theorem UU:(Rows.listMakesRow.mapsOut==Tryz.pinned.checked.prog.mapsAmong Tryz.f12.resultTypes.toList)=true:=by kernel_rfl
theorem UV:(Rows.listMakesRow.loops==(Tryz.f12.params.toList++Rows.listMakesSpec.plain.varTypes Tryz.pinned.checked.prog).any (Tryz.pinned.checked.prog.loopsFrom ·))=true:=by kernel_rfl
theorem UW:(Rows.listMakesRow.wideKeys==(Tryz.f12.params.toList++Rows.listMakesSpec.plain.varTypes Tryz.pinned.checked.prog++Tryz.f12.resultTypes.toList).any (Tryz.pinned.checked.prog.wideKeysFrom ·))=true:=by kernel_rfl
theorem UX:(Rows.listMakesSpec.vars.all (Tryz.pinned.checked.prog.varReadable ·))=true:=by kernel_rfl
theorem UY:(Tryz.f12.resultTypes.all (fun t=>Tryz.pinned.checked.prog.readableRec t&&decide (t<Tryz.pinned.checked.prog.types.size)))=true:=by kernel_rfl
theorem UZ:(Rows.listMakesRow.ifacesOut==Tryz.f12.resultTypes.toList.any (Tryz.pinned.checked.prog.ifacesRec ·))=true:=by kernel_rfl
theorem Ua:(Rows.listMakesRow.loopsOut==Tryz.f12.resultTypes.toList.any (Tryz.pinned.checked.prog.loopsFrom ·))=true:=by kernel_rfl
theorem Ub:(Rows.listMakesRow.plainKeys==Tryz.pinned.checked.prog.plainKeys)=true:=by kernel_rfl
theorem Uc:(Rows.listMakesRow.shortTexts.isNone)=true:=by kernel_rfl
theorem Ud:(Rows.listMakesRow.kinds==(if Rows.listMakesRow.domain.isEmpty then [] else Tryz.f12.params.toList.map fun t=>match Tryz.pinned.checked.prog.underlying t with|some (.int k)=>some k|_=>none))=true:=by kernel_rfl
theorem Ue:(Rows.listMakesRow.pinned==Rows.listMakesRow.pinnedBy)=true:=by kernel_rfl
theorem Uf:(Rows.listMakesRow.veiled==(Tryz.f12.params.toList++Rows.listMakesSpec.plain.varTypes Tryz.pinned.checked.prog++Tryz.f12.resultTypes.toList).any (Tryz.pinned.checked.prog.veiledRec ·))=true:=by kernel_rfl
theorem Ug:(Rows.listMakesRow.veiledFits Tryz.pinned.checked.prog Tryz.f12.params.toList (Tryz.f12.params.toList++Rows.listMakesSpec.plain.varTypes Tryz.pinned.checked.prog++Tryz.f12.resultTypes.toList))=true:=by kernel_rfl
set_option maxRecDepth 100000
theorem Bq {a b:Bool} (ha:a=true) (hb:b=true):(a&&b)=true:=by rw[ha,hb];rfl
theorem Uh:joinedFacts Tryz.pinned.checked.prog 12 Tryz.f12 Rows.listMakesSpec Rows.listMakesRow=true :=
 Bq (Bq (Bq (Bq (Bq (Bq (Bq (Bq (Bq (Bq (Bq (Bq (Bq (Bq (Bq (Bq (Bq (Bq (Bq (Bq (Bq (Bq (Bq (Bq (Bq (Bq (Bq (Bq (Bq (Bq (Bq (YS) YT) YU) YV) YW) YX) YR) YY) YZ) Ya) UP) UQ) UR) US) UT) UU) UV) UW) UX) UY) UZ) Ua) Ub) Uc) UL) UM) UN) UO) Ud) Ue) Uf) Ug
end Go.Proofs.YtapkhdkbkodbjaaGreat

/- What the statement ListWalks asks of the program's text, shown by the kernel. -/
import Derived.Test.YtapkhdkbkodbjaaGreatXSLW2d
import Derived.Test.YtapkhdkbkodbjaaGreatRows
import Derived.ProofKit
set_option linter.unusedVariables false
set_option linter.unusedSimpArgs false
namespace Go.Proofs.YtapkhdkbkodbjaaGreat
open Go Go.RowKit
theorem Yt:(Rows.listWalksRow.wf (OpenSpec.ofChange Rows.listWalksSpec))=true:=by kernel_rfl
theorem Yu:(laidOutB Tryz.pinned.checked.prog)=true:=by kernel_rfl
theorem Yv:(mapsRowed Tryz.pinned.checked.prog)=true:=by kernel_rfl
theorem Yw:(Tryz.f14.params.all (Tryz.pinned.checked.prog.readableRec ·))=true:=by kernel_rfl
theorem Yx:(namedTie Tryz.pinned.checked.prog Rows.listWalksRow.named Rows.listWalksSpec.vars)=true:=by kernel_rfl
theorem Yy:(Rows.listWalksRow.stops == [])=true:=by kernel_rfl
theorem Yz:(Rows.listWalksRow.knobs == [])=true:=by kernel_rfl
theorem Y0:(Tryz.pinned.checked.prog.stopKnobs == [])=true:=by kernel_rfl
theorem Y2:(Rows.listWalksRow.inPlace==Tryz.pinned.checked.prog.inPlace 14)=true:=by kernel_rfl
theorem Uj:(Rows.listWalksRow.unfollowed==Tryz.pinned.checked.prog.unfollowed 14)=true:=by kernel_rfl
theorem Uk:(Rows.listWalksRow.recurses==Tryz.pinned.checked.prog.recurses 14)=true:=by kernel_rfl
theorem Ul:(Rows.listWalksRow.named==Tryz.pinned.checked.prog.varsNamed 14)=true:=by kernel_rfl
theorem Um:(Rows.listWalksRow.maps==(Tryz.f14.params.toList++Rows.listWalksSpec.plain.varTypes Tryz.pinned.checked.prog).any (Tryz.pinned.checked.prog.mapsRec ·))=true:=by kernel_rfl
theorem Un:(Rows.listWalksRow.ifaces==(Tryz.f14.params.toList++Rows.listWalksSpec.plain.varTypes Tryz.pinned.checked.prog).any (Tryz.pinned.checked.prog.ifacesRec ·))=true:=by kernel_rfl
theorem Uo:(Rows.listWalksRow.mapsOut==Tryz.pinned.checked.prog.mapsAmong Tryz.f14.resultTypes.toList)=true:=by kernel_rfl
theorem Up:(Rows.listWalksRow.loops==(Tryz.f14.params.toList++Rows.listWalksSpec.plain.varTypes Tryz.pinned.checked.prog).any (Tryz.pinned.checked.prog.loopsFrom ·))=true:=by kernel_rfl
theorem Uq:(Rows.listWalksRow.wideKeys==(Tryz.f14.params.toList++Rows.listWalksSpec.plain.varTypes Tryz.pinned.checked.prog++Tryz.f14.resultTypes.toList).any (Tryz.pinned.checked.prog.wideKeysFrom ·))=true:=by kernel_rfl
theorem Ur:(Rows.listWalksSpec.vars.all (Tryz.pinned.checked.prog.varReadable ·))=true:=by kernel_rfl
theorem Us:(Tryz.f14.resultTypes.all (fun t=>Tryz.pinned.checked.prog.readableRec t&&decide (t<Tryz.pinned.checked.prog.types.size)))=true:=by kernel_rfl
theorem Ut:(Rows.listWalksRow.ifacesOut==Tryz.f14.resultTypes.toList.any (Tryz.pinned.checked.prog.ifacesRec ·))=true:=by kernel_rfl
theorem Uu:(Rows.listWalksRow.loopsOut==Tryz.f14.resultTypes.toList.any (Tryz.pinned.checked.prog.loopsFrom ·))=true:=by kernel_rfl
theorem Uv:(Rows.listWalksRow.plainKeys==Tryz.pinned.checked.prog.plainKeys)=true:=by kernel_rfl
theorem Uw:(Rows.listWalksRow.shortTexts.isNone)=true:=by kernel_rfl
theorem Ux:(Rows.listWalksRow.kinds==(if Rows.listWalksRow.domain.isEmpty then [] else Tryz.f14.params.toList.map fun t=>match Tryz.pinned.checked.prog.underlying t with|some (.int k)=>some k|_=>none))=true:=by kernel_rfl
theorem Uy:(Rows.listWalksRow.pinned==Rows.listWalksRow.pinnedBy)=true:=by kernel_rfl
theorem Uz:(Rows.listWalksRow.veiled==(Tryz.f14.params.toList++Rows.listWalksSpec.plain.varTypes Tryz.pinned.checked.prog++Tryz.f14.resultTypes.toList).any (Tryz.pinned.checked.prog.veiledRec ·))=true:=by kernel_rfl
theorem U0:(Rows.listWalksRow.veiledFits Tryz.pinned.checked.prog Tryz.f14.params.toList (Tryz.f14.params.toList++Rows.listWalksSpec.plain.varTypes Tryz.pinned.checked.prog++Tryz.f14.resultTypes.toList))=true:=by kernel_rfl
set_option maxRecDepth 100000
theorem A0 {a b:Bool} (ha:a=true) (hb:b=true):(a&&b)=true:=by rw[ha,hb];rfl
theorem VA:joinedFacts Tryz.pinned.checked.prog 14 Tryz.f14 Rows.listWalksSpec Rows.listWalksRow=true :=
 A0 (A0 (A0 (A0 (A0 (A0 (A0 (A0 (A0 (A0 (A0 (A0 (A0 (A0 (A0 (A0 (A0 (A0 (A0 (A0 (A0 (A0 (A0 (A0 (A0 (A0 (A0 (A0 (A0 (A0 (A0 (Yt) Yu) Yv) Yw) Yx) Yy) Ys) Yz) Y0) Y2) Uj) Uk) Ul) Um) Un) Uo) Up) Uq) Ur) Us) Ut) Uu) Uv) Uw) Uf) Ug) Uh) Ui) Ux) Uy) Uz) U0
end Go.Proofs.YtapkhdkbkodbjaaGreat

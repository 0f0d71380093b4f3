/- What the statement ListBack asks of the program's text, shown by the kernel. -/
import Derived.Test.YtapkhdkbkodbjaaGreatXSLB2d
import Derived.Test.YtapkhdkbkodbjaaGreatRows
import Derived.ProofKit
set_option linter.unusedVariables false
set_option linter.unusedSimpArgs false
namespace Go.Proofs.YtapkhdkbkodbjaaGreat
open Go Go.RowKit
theorem ZP:(Rows.listBackRow.wf (OpenSpec.ofChange Rows.listBackSpec))=true:=by kernel_rfl
theorem ZQ:(laidOutB Tryz.pinned.checked.prog)=true:=by kernel_rfl
theorem ZR:(mapsRowed Tryz.pinned.checked.prog)=true:=by kernel_rfl
theorem ZS:(Tryz.f16.params.all (Tryz.pinned.checked.prog.readableRec ·))=true:=by kernel_rfl
theorem ZT:(namedTie Tryz.pinned.checked.prog Rows.listBackRow.named Rows.listBackSpec.vars)=true:=by kernel_rfl
theorem ZU:(Rows.listBackRow.stops == [])=true:=by kernel_rfl
theorem ZV:(Rows.listBackRow.knobs == [])=true:=by kernel_rfl
theorem ZW:(Tryz.pinned.checked.prog.stopKnobs == [])=true:=by kernel_rfl
theorem ZX:(Rows.listBackRow.inPlace==Tryz.pinned.checked.prog.inPlace 16)=true:=by kernel_rfl
theorem Yf:(Rows.listBackRow.unfollowed==Tryz.pinned.checked.prog.unfollowed 16)=true:=by kernel_rfl
theorem Yg:(Rows.listBackRow.recurses==Tryz.pinned.checked.prog.recurses 16)=true:=by kernel_rfl
theorem Yh:(Rows.listBackRow.named==Tryz.pinned.checked.prog.varsNamed 16)=true:=by kernel_rfl
theorem Yi:(Rows.listBackRow.maps==(Tryz.f16.params.toList++Rows.listBackSpec.plain.varTypes Tryz.pinned.checked.prog).any (Tryz.pinned.checked.prog.mapsRec ·))=true:=by kernel_rfl
theorem Yj:(Rows.listBackRow.ifaces==(Tryz.f16.params.toList++Rows.listBackSpec.plain.varTypes Tryz.pinned.checked.prog).any (Tryz.pinned.checked.prog.ifacesRec ·))=true:=by kernel_rfl
theorem Yk:(Rows.listBackRow.mapsOut==Tryz.pinned.checked.prog.mapsAmong Tryz.f16.resultTypes.toList)=true:=by kernel_rfl
theorem Yl:(Rows.listBackRow.loops==(Tryz.f16.params.toList++Rows.listBackSpec.plain.varTypes Tryz.pinned.checked.prog).any (Tryz.pinned.checked.prog.loopsFrom ·))=true:=by kernel_rfl
theorem Ym:(Rows.listBackRow.wideKeys==(Tryz.f16.params.toList++Rows.listBackSpec.plain.varTypes Tryz.pinned.checked.prog++Tryz.f16.resultTypes.toList).any (Tryz.pinned.checked.prog.wideKeysFrom ·))=true:=by kernel_rfl
theorem Yn:(Rows.listBackSpec.vars.all (Tryz.pinned.checked.prog.varReadable ·))=true:=by kernel_rfl
theorem Yo:(Tryz.f16.resultTypes.all (fun t=>Tryz.pinned.checked.prog.readableRec t&&decide (t<Tryz.pinned.checked.prog.types.size)))=true:=by kernel_rfl
theorem Yp:(Rows.listBackRow.ifacesOut==Tryz.f16.resultTypes.toList.any (Tryz.pinned.checked.prog.ifacesRec ·))=true:=by kernel_rfl
theorem Yq:(Rows.listBackRow.loopsOut==Tryz.f16.resultTypes.toList.any (Tryz.pinned.checked.prog.loopsFrom ·))=true:=by kernel_rfl
theorem Yr:(Rows.listBackRow.plainKeys==Tryz.pinned.checked.prog.plainKeys)=true:=by kernel_rfl
theorem Ys:(Rows.listBackRow.shortTexts.isNone)=true:=by kernel_rfl
theorem Yt:(Rows.listBackRow.kinds==(if Rows.listBackRow.domain.isEmpty then [] else Tryz.f16.params.toList.map fun t=>match Tryz.pinned.checked.prog.underlying t with|some (.int k)=>some k|_=>none))=true:=by kernel_rfl
theorem Yu:(Rows.listBackRow.pinned==Rows.listBackRow.pinnedBy)=true:=by kernel_rfl
theorem Yv:(Rows.listBackRow.veiled==(Tryz.f16.params.toList++Rows.listBackSpec.plain.varTypes Tryz.pinned.checked.prog++Tryz.f16.resultTypes.toList).any (Tryz.pinned.checked.prog.veiledRec ·))=true:=by kernel_rfl
theorem Yw:(Rows.listBackRow.veiledFits Tryz.pinned.checked.prog Tryz.f16.params.toList (Tryz.f16.params.toList++Rows.listBackSpec.plain.varTypes Tryz.pinned.checked.prog++Tryz.f16.resultTypes.toList))=true:=by kernel_rfl
set_option maxRecDepth 100000
theorem Bq {a b:Bool} (ha:a=true) (hb:b=true):(a&&b)=true:=by rw[ha,hb];rfl
theorem Yx:joinedFacts Tryz.pinned.checked.prog 16 Tryz.f16 Rows.listBackSpec Rows.listBackRow=true :=
 Bq (Bq (Bq (Bq (Bq (Bq (Bq (Bq (Bq (Bq (Bq (Bq (Bq (Bq (Bq (Bq (Bq (Bq (Bq (Bq (Bq (Bq (Bq (Bq (Bq (Bq (Bq (Bq (Bq (Bq (Bq (ZP) ZQ) ZR) ZS) ZT) ZU) ZO) ZV) ZW) ZX) Yf) Yg) Yh) Yi) Yj) Yk) Yl) Ym) Yn) Yo) Yp) Yq) Yr) Ys) Yb) Yc) Yd) Ye) Yt) Yu) Yv) Yw
end Go.Proofs.YtapkhdkbkodbjaaGreat

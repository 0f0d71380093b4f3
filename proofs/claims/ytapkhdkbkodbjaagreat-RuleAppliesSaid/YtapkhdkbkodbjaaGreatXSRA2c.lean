/- What the statement RuleApplies asks of the program's text, shown by the kernel. -/
import Derived.Test.YtapkhdkbkodbjaaGreatXSRA2d
import Derived.Test.YtapkhdkbkodbjaaGreatRows
import Derived.ProofKit
set_option linter.unusedVariables false
set_option linter.unusedSimpArgs false
namespace Go.Proofs.YtapkhdkbkodbjaaGreat
open Go Go.RowKit
noncomputable abbrev Pq:=Tryz.pinned.checked.prog
abbrev Rq:=Rows.ruleAppliesRow
abbrev Sq:=Rows.ruleAppliesSpec
theorem Tr:(Rq.wf (OpenSpec.ofChange Sq))=true:=by kernel_rfl
theorem Ts:(laidOutB Pq)=true:=by kernel_rfl
theorem Tt:(mapsRowed Pq)=true:=by kernel_rfl
theorem Tu:(Tryz.f4.params.all (Pq.readableRec ·))=true:=by kernel_rfl
theorem Tv:(namedTie Pq Rq.named Sq.vars)=true:=by kernel_rfl
theorem Tw:(Rq.stops == [])=true:=by kernel_rfl
theorem Tx:(Rq.knobs == [])=true:=by kernel_rfl
theorem Tz:(Pq.stopKnobs == [])=true:=by kernel_rfl
theorem UA:(Rq.inPlace==Pq.inPlace 4)=true:=by kernel_rfl
theorem R7:(Rq.unfollowed==Pq.unfollowed 4)=true:=by kernel_rfl
theorem R8:(Rq.recurses==Pq.recurses 4)=true:=by kernel_rfl
theorem R9:(Rq.named==Pq.varsNamed 4)=true:=by kernel_rfl
theorem SA:(Rq.maps==(Tryz.f4.params.toList++Sq.plain.varTypes Pq).any (Pq.mapsRec ·))=true:=by kernel_rfl
theorem SB:(Rq.ifaces==(Tryz.f4.params.toList++Sq.plain.varTypes Pq).any (Pq.ifacesRec ·))=true:=by kernel_rfl
theorem SC:(Rq.mapsOut==Pq.mapsAmong Tryz.f4.resultTypes.toList)=true:=by kernel_rfl
theorem SD:(Rq.loops==(Tryz.f4.params.toList++Sq.plain.varTypes Pq).any (Pq.loopsFrom ·))=true:=by kernel_rfl
theorem SE:(Rq.wideKeys==(Tryz.f4.params.toList++Sq.plain.varTypes Pq++Tryz.f4.resultTypes.toList).any (Pq.wideKeysFrom ·))=true:=by kernel_rfl
theorem SF:(Sq.vars.all (Pq.varReadable ·))=true:=by kernel_rfl
theorem SG:(Tryz.f4.resultTypes.all (fun t=>Pq.readableRec t&&decide (t<Pq.types.size)))=true:=by kernel_rfl
theorem SH:(Rq.ifacesOut==Tryz.f4.resultTypes.toList.any (Pq.ifacesRec ·))=true:=by kernel_rfl
theorem SI:(Rq.loopsOut==Tryz.f4.resultTypes.toList.any (Pq.loopsFrom ·))=true:=by kernel_rfl
theorem SJ:(Rq.plainKeys==Pq.plainKeys)=true:=by kernel_rfl
theorem SK:(Rq.shortTexts.isNone)=true:=by kernel_rfl
theorem SL:(Rq.kinds==(if Rq.domain.isEmpty then [] else Tryz.f4.params.toList.map fun t=>match Pq.underlying t with|some (.int k)=>some k|_=>none))=true:=by kernel_rfl
theorem SM:(Rq.pinned==Rq.pinnedBy)=true:=by kernel_rfl
theorem SP:(Rq.veiled==(Tryz.f4.params.toList++Sq.plain.varTypes Pq++Tryz.f4.resultTypes.toList).any (Pq.veiledRec ·))=true:=by kernel_rfl
theorem SQ:(Rq.veiledFits Pq Tryz.f4.params.toList (Tryz.f4.params.toList++Sq.plain.varTypes Pq++Tryz.f4.resultTypes.toList))=true:=by kernel_rfl
set_option maxRecDepth 100000
theorem F3 {a b:Bool} (ha:a=true) (hb:b=true):(a&&b)=true:=by rw[ha,hb];rfl
theorem SR:joinedFacts Pq 4 Tryz.f4 Sq Rq=true :=
 F3 (F3 (F3 (F3 (F3 (F3 (F3 (F3 (F3 (F3 (F3 (F3 (F3 (F3 (F3 (F3 (F3 (F3 (F3 (F3 (F3 (F3 (F3 (F3 (F3 (F3 (F3 (F3 (F3 (F3 (F3 (Tr) Ts) Tt) Tu) Tv) Tw) Tq) Tx) Tz) UA) R7) R8) R9) SA) SB) SC) SD) SE) SF) SG) SH) SI) SJ) SK) R3) R4) R5) R6) SL) SM) SP) SQ
end Go.Proofs.YtapkhdkbkodbjaaGreat

/- What the statement ListAppends asks of the program's text, shown by the kernel. -/
import Derived.Test.YtcmadlghkcjcbaaGreatXSLA2d
import Derived.Test.YtcmadlghkcjcbaaGreatRows
import Derived.ProofKit
set_option linter.unusedVariables false
set_option linter.unusedSimpArgs false
namespace Go.Proofs.YtcmadlghkcjcbaaGreat
open Go Go.RowKit
noncomputable abbrev pa:=Tryz.pinned.checked.prog
abbrev ra:=Rows.listAppendsRow
abbrev sd:=Rows.listAppendsSpec
theorem S7:(ra.wf (OpenSpec.ofChange sd))=true:=by kernel_rfl
theorem S8:(laidOutB pa)=true:=by kernel_rfl
theorem S9:(mapsRowed pa)=true:=by kernel_rfl
theorem TA:(Tryz.f3.params.all (pa.readableRec ·))=true:=by kernel_rfl
theorem TB:(namedTie pa ra.named sd.vars)=true:=by kernel_rfl
theorem TC:(ra.stops == [])=true:=by kernel_rfl
theorem TD:(ra.knobs == [])=true:=by kernel_rfl
theorem TE:(pa.stopKnobs == [])=true:=by kernel_rfl
theorem TF:(ra.inPlace==pa.inPlace 3)=true:=by kernel_rfl
theorem RJ:(ra.unfollowed==pa.unfollowed 3)=true:=by kernel_rfl
theorem RK:(ra.recurses==pa.recurses 3)=true:=by kernel_rfl
theorem RL:(ra.named==pa.varsNamed 3)=true:=by kernel_rfl
theorem RM:(ra.maps==(Tryz.f3.params.toList++sd.plain.varTypes pa).any (pa.mapsRec ·))=true:=by kernel_rfl
theorem RN:(ra.ifaces==(Tryz.f3.params.toList++sd.plain.varTypes pa).any (pa.ifacesRec ·))=true:=by kernel_rfl
theorem RP:(ra.mapsOut==pa.mapsAmong Tryz.f3.resultTypes.toList)=true:=by kernel_rfl
theorem RQ:(ra.loops==(Tryz.f3.params.toList++sd.plain.varTypes pa).any (pa.loopsFrom ·))=true:=by kernel_rfl
theorem RR:(ra.wideKeys==(Tryz.f3.params.toList++sd.plain.varTypes pa++Tryz.f3.resultTypes.toList).any (pa.wideKeysFrom ·))=true:=by kernel_rfl
theorem RS:(sd.vars.all (pa.varReadable ·))=true:=by kernel_rfl
theorem RT:(Tryz.f3.resultTypes.all (fun t=>pa.readableRec t&&decide (t<pa.types.size)))=true:=by kernel_rfl
theorem RU:(ra.ifacesOut==Tryz.f3.resultTypes.toList.any (pa.ifacesRec ·))=true:=by kernel_rfl
theorem RW:(ra.loopsOut==Tryz.f3.resultTypes.toList.any (pa.loopsFrom ·))=true:=by kernel_rfl
theorem RY:(ra.plainKeys==pa.plainKeys)=true:=by kernel_rfl
theorem RZ:(ra.shortTexts.isNone)=true:=by kernel_rfl
theorem Ra:(ra.kinds==(if ra.domain.isEmpty then [] else Tryz.f3.params.toList.map fun t=>match pa.underlying t with|some (.int k)=>some k|_=>none))=true:=by kernel_rfl
theorem Rb:(ra.pinned==ra.pinnedBy)=true:=by kernel_rfl
theorem Rc:(ra.veiled==(Tryz.f3.params.toList++sd.plain.varTypes pa++Tryz.f3.resultTypes.toList).any (pa.veiledRec ·))=true:=by kernel_rfl
theorem Rd:(ra.veiledFits pa Tryz.f3.params.toList (Tryz.f3.params.toList++sd.plain.varTypes pa++Tryz.f3.resultTypes.toList))=true:=by kernel_rfl
set_option maxRecDepth 100000
theorem Fg {a b:Bool} (ha:a=true) (hb:b=true):(a&&b)=true:=by rw[ha,hb];rfl
theorem Re:joinedFacts pa 3 Tryz.f3 sd ra=true :=
 Fg (Fg (Fg (Fg (Fg (Fg (Fg (Fg (Fg (Fg (Fg (Fg (Fg (Fg (Fg (Fg (Fg (Fg (Fg (Fg (Fg (Fg (Fg (Fg (Fg (Fg (Fg (Fg (Fg (Fg (Fg (S7) S8) S9) TA) TB) TC) S6) TD) TE) TF) RJ) RK) RL) RM) RN) RP) RQ) RR) RS) RT) RU) RW) RY) RZ) RF) RG) RH) RI) Ra) Rb) Rc) Rd
end Go.Proofs.YtcmadlghkcjcbaaGreat

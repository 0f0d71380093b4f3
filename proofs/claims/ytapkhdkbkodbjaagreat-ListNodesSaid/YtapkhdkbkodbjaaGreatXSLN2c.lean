/- What the statement ListNodes asks of the program's text, shown by the kernel. -/
import Derived.Test.YtapkhdkbkodbjaaGreatXSLN2d
import Derived.Test.YtapkhdkbkodbjaaGreatRows
import Derived.ProofKit
set_option linter.unusedVariables false
set_option linter.unusedSimpArgs false
namespace Go.Proofs.YtapkhdkbkodbjaaGreat
open Go Go.RowKit
theorem YZ:(Rows.listNodesRow.wf (OpenSpec.ofChange Rows.listNodesSpec))=true:=by kernel_rfl
theorem Ya:(laidOutB Tryz.pinned.checked.prog)=true:=by kernel_rfl
theorem Yb:(mapsRowed Tryz.pinned.checked.prog)=true:=by kernel_rfl
theorem Yc:(Tryz.f13.params.all (Tryz.pinned.checked.prog.readableRec ·))=true:=by kernel_rfl
theorem Yd:(namedTie Tryz.pinned.checked.prog Rows.listNodesRow.named Rows.listNodesSpec.vars)=true:=by kernel_rfl
theorem Ye:(Rows.listNodesRow.stops == [])=true:=by kernel_rfl
theorem Yf:(Rows.listNodesRow.knobs == [])=true:=by kernel_rfl
theorem Yg:(Tryz.pinned.checked.prog.stopKnobs == [])=true:=by kernel_rfl
theorem Yh:(Rows.listNodesRow.inPlace==Tryz.pinned.checked.prog.inPlace 13)=true:=by kernel_rfl
theorem Tn:(Rows.listNodesRow.unfollowed==Tryz.pinned.checked.prog.unfollowed 13)=true:=by kernel_rfl
theorem Tp:(Rows.listNodesRow.recurses==Tryz.pinned.checked.prog.recurses 13)=true:=by kernel_rfl
theorem Tq:(Rows.listNodesRow.named==Tryz.pinned.checked.prog.varsNamed 13)=true:=by kernel_rfl
theorem Tr:(Rows.listNodesRow.maps==(Tryz.f13.params.toList++Rows.listNodesSpec.plain.varTypes Tryz.pinned.checked.prog).any (Tryz.pinned.checked.prog.mapsRec ·))=true:=by kernel_rfl
theorem Ts:(Rows.listNodesRow.ifaces==(Tryz.f13.params.toList++Rows.listNodesSpec.plain.varTypes Tryz.pinned.checked.prog).any (Tryz.pinned.checked.prog.ifacesRec ·))=true:=by kernel_rfl
theorem Tt:(Rows.listNodesRow.mapsOut==Tryz.pinned.checked.prog.mapsAmong Tryz.f13.resultTypes.toList)=true:=by kernel_rfl
theorem Tu:(Rows.listNodesRow.loops==(Tryz.f13.params.toList++Rows.listNodesSpec.plain.varTypes Tryz.pinned.checked.prog).any (Tryz.pinned.checked.prog.loopsFrom ·))=true:=by kernel_rfl
theorem Tv:(Rows.listNodesRow.wideKeys==(Tryz.f13.params.toList++Rows.listNodesSpec.plain.varTypes Tryz.pinned.checked.prog++Tryz.f13.resultTypes.toList).any (Tryz.pinned.checked.prog.wideKeysFrom ·))=true:=by kernel_rfl
theorem Tw:(Rows.listNodesSpec.vars.all (Tryz.pinned.checked.prog.varReadable ·))=true:=by kernel_rfl
theorem Tx:(Tryz.f13.resultTypes.all (fun t=>Tryz.pinned.checked.prog.readableRec t&&decide (t<Tryz.pinned.checked.prog.types.size)))=true:=by kernel_rfl
theorem Tz:(Rows.listNodesRow.ifacesOut==Tryz.f13.resultTypes.toList.any (Tryz.pinned.checked.prog.ifacesRec ·))=true:=by kernel_rfl
theorem UA:(Rows.listNodesRow.loopsOut==Tryz.f13.resultTypes.toList.any (Tryz.pinned.checked.prog.loopsFrom ·))=true:=by kernel_rfl
theorem UB:(Rows.listNodesRow.plainKeys==Tryz.pinned.checked.prog.plainKeys)=true:=by kernel_rfl
theorem UC:(Rows.listNodesRow.shortTexts.isNone)=true:=by kernel_rfl
theorem UD:(Rows.listNodesRow.kinds==(if Rows.listNodesRow.domain.isEmpty then [] else Tryz.f13.params.toList.map fun t=>match Tryz.pinned.checked.prog.underlying t with|some (.int k)=>some k|_=>none))=true:=by kernel_rfl
theorem UE:(Rows.listNodesRow.pinned==Rows.listNodesRow.pinnedBy)=true:=by kernel_rfl
theorem UF:(Rows.listNodesRow.veiled==(Tryz.f13.params.toList++Rows.listNodesSpec.plain.varTypes Tryz.pinned.checked.prog++Tryz.f13.resultTypes.toList).any (Tryz.pinned.checked.prog.veiledRec ·))=true:=by kernel_rfl
theorem UG:(Rows.listNodesRow.veiledFits Tryz.pinned.checked.prog Tryz.f13.params.toList (Tryz.f13.params.toList++Rows.listNodesSpec.plain.varTypes Tryz.pinned.checked.prog++Tryz.f13.resultTypes.toList))=true:=by kernel_rfl
set_option maxRecDepth 100000
theorem A0 {a b:Bool} (ha:a=true) (hb:b=true):(a&&b)=true:=by rw[ha,hb];rfl
theorem UH:joinedFacts Tryz.pinned.checked.prog 13 Tryz.f13 Rows.listNodesSpec Rows.listNodesRow=true :=
 A0 (A0 (A0 (A0 (A0 (A0 (A0 (A0 (A0 (A0 (A0 (A0 (A0 (A0 (A0 (A0 (A0 (A0 (A0 (A0 (A0 (A0 (A0 (A0 (A0 (A0 (A0 (A0 (A0 (A0 (A0 (YZ) Ya) Yb) Yc) Yd) Ye) YY) Yf) Yg) Yh) Tn) Tp) Tq) Tr) Ts) Tt) Tu) Tv) Tw) Tx) Tz) UA) UB) UC) Tj) Tk) Tl) Tm) UD) UE) UF) UG
end Go.Proofs.YtapkhdkbkodbjaaGreat

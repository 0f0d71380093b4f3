/-
  DERIVED. GIVEN WITH THE SEED: THE CARDS: each row of YtglkoagnnnpimaaGreatDoorRows.lean that lists a variable, with what it lists TIED to the program's text (the seventh form; the later family's looks); each row that meets fmt, with fmt's text TOLD by the authors' own Lean function (tested against real Go, not proved from fmt's source: count such statements apart). THE CARD IS WHAT COUNTS. Prove the row's statement (the work); the ties are given (YtglkoagnnnpimaaGreatDoorTie.lean); close each card by the builder's one call (the guide's Derived/Test/ToyasCard.lean, 'card_holds'). Laid BY PROGRAM, IN A SANDBOX (cutbox-door.mjs). By AI agents, Wed Nov 11 2026. No macro, syntax, notation, axiom, sorry.
-/
import Derived.Test.YtglkoagnnnpimaaGreatDoorRows
import GoSem.ClaimSeven
namespace Go.Proofs.YtglkoagnnnpimaaGreatDoor
namespace Rows

/-- THE TIED CARD OF 'grammarlablaw40.SemSorts'. -/
def semSortsCard : Claim7 := { stood := { row := semSortsRow, standIns := [], harness := (true, "6d395a6a8a58a859634d323bcb4d754400624c3ff8590b077a954198c4aa0dac"), looks := true }, kinds := [], alts := [], laidByText := true, laidKinds := [.data], laidTests := true, laidLooks := .later }
def SemSortsCardSaid : Prop := Claim7.holds Tryz.pinned (.plain (OpenSpec.ofChange semSortsSpec)) semSortsCard

/-- THE TIED CARD OF 'grammarlablaw40.SemOf'. -/
def semOfCard : Claim7 := { stood := { row := semOfRow, standIns := [], harness := (true, "6d395a6a8a58a859634d323bcb4d754400624c3ff8590b077a954198c4aa0dac"), looks := true }, kinds := [], alts := [], laidByText := true, laidKinds := [.data], laidTests := true, laidLooks := .later }
def SemOfCardSaid : Prop := Claim7.holds Tryz.pinned (.plain (OpenSpec.ofChange semOfSpec)) semOfCard

/-- THE TIED CARD OF 'grammarlablaw40.SemMakes'. -/
def semMakesCard : Claim7 := { stood := { row := semMakesRow, standIns := [], harness := (true, "6d395a6a8a58a859634d323bcb4d754400624c3ff8590b077a954198c4aa0dac"), looks := true }, kinds := [], alts := [], laidByText := true, laidKinds := [.data], laidTests := true, laidLooks := .later }
def SemMakesCardSaid : Prop := Claim7.holds Tryz.pinned (.plain (OpenSpec.ofChange semMakesSpec)) semMakesCard

/-- THE TIED CARD OF 'grammarlablaw40.SemInverse'. -/
def semInverseCard : Claim7 := { stood := { row := semInverseRow, standIns := [], harness := (true, "6d395a6a8a58a859634d323bcb4d754400624c3ff8590b077a954198c4aa0dac"), looks := true }, kinds := [], alts := [], laidByText := true, laidKinds := [.data], laidTests := true, laidLooks := .later }
def SemInverseCardSaid : Prop := Claim7.holds Tryz.pinned (.plain (OpenSpec.ofChange semInverseSpec)) semInverseCard

/-- THE TIED CARD OF 'grammarlablaw40.SemLocal'. -/
def semLocalCard : Claim7 := { stood := { row := semLocalRow, standIns := [], harness := (true, "6d395a6a8a58a859634d323bcb4d754400624c3ff8590b077a954198c4aa0dac"), looks := true }, kinds := [], alts := [], laidByText := true, laidKinds := [.data], laidTests := true, laidLooks := .later }
def SemLocalCardSaid : Prop := Claim7.holds Tryz.pinned (.plain (OpenSpec.ofChange semLocalSpec)) semLocalCard

/-- THE TIED CARD OF 'grammarlablaw40.SemSpecific'. -/
def semSpecificCard : Claim7 := { stood := { row := semSpecificRow, standIns := [], harness := (true, "6d395a6a8a58a859634d323bcb4d754400624c3ff8590b077a954198c4aa0dac"), looks := true }, kinds := [], alts := [], laidByText := true, laidKinds := [.data], laidTests := true, laidLooks := .later }
def SemSpecificCardSaid : Prop := Claim7.holds Tryz.pinned (.plain (OpenSpec.ofChange semSpecificSpec)) semSpecificCard

/-- THE SECOND FORM's CARD OF 'grammarlablaw40.SemSorts'. -/
def semSortsUptoCard : Claim7 := { stood := { row := semSortsUptoRow, standIns := [], harness := (true, "6d395a6a8a58a859634d323bcb4d754400624c3ff8590b077a954198c4aa0dac"), looks := true }, kinds := [], alts := [], laidByText := true, laidKinds := [.data], laidTests := true, laidLooks := .later }
def SemSortsUptoCardSaid : Prop := Claim7.holds Tryz.pinned (.plain (OpenSpec.upto semSortsSpec)) semSortsUptoCard

/-- THE SECOND FORM's CARD OF 'grammarlablaw40.SemOf'. -/
def semOfUptoCard : Claim7 := { stood := { row := semOfUptoRow, standIns := [], harness := (true, "6d395a6a8a58a859634d323bcb4d754400624c3ff8590b077a954198c4aa0dac"), looks := true }, kinds := [], alts := [], laidByText := true, laidKinds := [.data], laidTests := true, laidLooks := .later }
def SemOfUptoCardSaid : Prop := Claim7.holds Tryz.pinned (.plain (OpenSpec.upto semOfSpec)) semOfUptoCard

/-- THE SECOND FORM's CARD OF 'grammarlablaw40.SemMakes'. -/
def semMakesUptoCard : Claim7 := { stood := { row := semMakesUptoRow, standIns := [], harness := (true, "6d395a6a8a58a859634d323bcb4d754400624c3ff8590b077a954198c4aa0dac"), looks := true }, kinds := [], alts := [], laidByText := true, laidKinds := [.data], laidTests := true, laidLooks := .later }
def SemMakesUptoCardSaid : Prop := Claim7.holds Tryz.pinned (.plain (OpenSpec.upto semMakesSpec)) semMakesUptoCard

/-- THE SECOND FORM's CARD OF 'grammarlablaw40.SemInverse'. -/
def semInverseUptoCard : Claim7 := { stood := { row := semInverseUptoRow, standIns := [], harness := (true, "6d395a6a8a58a859634d323bcb4d754400624c3ff8590b077a954198c4aa0dac"), looks := true }, kinds := [], alts := [], laidByText := true, laidKinds := [.data], laidTests := true, laidLooks := .later }
def SemInverseUptoCardSaid : Prop := Claim7.holds Tryz.pinned (.plain (OpenSpec.upto semInverseSpec)) semInverseUptoCard

/-- THE SECOND FORM's CARD OF 'grammarlablaw40.SemLocal'. -/
def semLocalUptoCard : Claim7 := { stood := { row := semLocalUptoRow, standIns := [], harness := (true, "6d395a6a8a58a859634d323bcb4d754400624c3ff8590b077a954198c4aa0dac"), looks := true }, kinds := [], alts := [], laidByText := true, laidKinds := [.data], laidTests := true, laidLooks := .later }
def SemLocalUptoCardSaid : Prop := Claim7.holds Tryz.pinned (.plain (OpenSpec.upto semLocalSpec)) semLocalUptoCard

/-- THE SECOND FORM's CARD OF 'grammarlablaw40.SemSpecific'. -/
def semSpecificUptoCard : Claim7 := { stood := { row := semSpecificUptoRow, standIns := [], harness := (true, "6d395a6a8a58a859634d323bcb4d754400624c3ff8590b077a954198c4aa0dac"), looks := true }, kinds := [], alts := [], laidByText := true, laidKinds := [.data], laidTests := true, laidLooks := .later }
def SemSpecificUptoCardSaid : Prop := Claim7.holds Tryz.pinned (.plain (OpenSpec.upto semSpecificSpec)) semSpecificUptoCard
end Rows
end Go.Proofs.YtglkoagnnnpimaaGreatDoor

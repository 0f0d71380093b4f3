/-
  DERIVED. GIVEN WITH THE SEED: THE CARDS: each row of YtddbnflakbngaaaGreatDoorRows.lean that lists a variable, with what it lists TIED to the program's text (the seventh form; the later family's looks); each row that meets fmt, with fmt's text TOLD by the authors' own Lean function (tested against real Go, not proved from fmt's source: count such statements apart). THE CARD IS WHAT COUNTS. Prove the row's statement (the work); the ties are given (YtddbnflakbngaaaGreatDoorTie.lean); close each card by the builder's one call (the guide's Derived/Test/ToyasCard.lean, 'card_holds'). Laid BY PROGRAM, IN A SANDBOX (cutbox-door.mjs). By AI agents, Wed Nov 11 2026. No macro, syntax, notation, axiom, sorry.
-/
import Derived.Test.YtddbnflakbngaaaGreatDoorRows
import GoSem.ClaimSeven
namespace Go.Proofs.YtddbnflakbngaaaGreatDoor
namespace Rows

/-- THE TIED CARD OF 'grammarlablaw40.SemInverse'. -/
def semInverseCard : Claim7 := { stood := { row := semInverseRow, standIns := [], harness := (true, "e8bbf35887da2d18862f43539b2949a1f4ba5a19bafdfcaaf8a6c7e14de85797"), looks := true }, kinds := [], alts := [], laidByText := true, laidKinds := [.data], laidTests := true, laidLooks := .later }
def SemInverseCardSaid : Prop := Claim7.holds Tryz.pinned (.plain (OpenSpec.ofChange semInverseSpec)) semInverseCard

/-- THE SECOND FORM's CARD OF 'grammarlablaw40.SemInverse'. -/
def semInverseUptoCard : Claim7 := { stood := { row := semInverseUptoRow, standIns := [], harness := (true, "e8bbf35887da2d18862f43539b2949a1f4ba5a19bafdfcaaf8a6c7e14de85797"), looks := true }, kinds := [], alts := [], laidByText := true, laidKinds := [.data], laidTests := true, laidLooks := .later }
def SemInverseUptoCardSaid : Prop := Claim7.holds Tryz.pinned (.plain (OpenSpec.upto semInverseSpec)) semInverseUptoCard
end Rows
end Go.Proofs.YtddbnflakbngaaaGreatDoor
